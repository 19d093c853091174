/- Functions of the program as plain Lean functions and that the machine's calls answer as they do, the words of the print that these use, lemmas and plain proofs of laws. Put together by a program of this work that leaves out what nothing uses; Lean checks it. -/
import Derived.Test.YtplcclifmajcfaaGcf3a1c6f7e
import Derived.Test.YtplcclifmajcfaaGafbce36025
import Derived.Test.YtplcclifmajcfaaGdd52cbe62a
section
namespace Go.Proofs.Ytplcclifmajcfaa.P
open Go.RowKit Go.Proofs.YtplcclifmajcfaaW.PrintWords Go.Proofs.YtplcclifmajcfaaW.PrintLast Go.Proofs.YtplcclifmajcfaaW.PrintMore
attribute [local go_sem] max2_int min2_int max_two min_two max_three min_three max_four min_four
set_option linter.unusedVariables false
set_option linter.unusedSimpArgs false
def impl_DropEdge.j0 : Nat → Int → Bool → Int → List (S57) → Option (Int × (List (S57)) × Bool)
 | 0, _, _, _, _ => none
 | k + 1, x1, x18, x201000, x201001 => if x18 = true then (some (0, ([] : List (S57)), false)) else ((impl_copyGraph.f x201000 x201001).bind fun bt204 => ((slices_Delete_Edge.f bt204.2 x1 (wrap64 (x1 + 1))).bind fun t209 => ((impl_GraphOk.f k bt204.1 t209).bind fun t212 => (if t212 = true then (some (bt204.1, t209, true)) else (some (0, ([] : List (S57)), false))))))
def impl_DropEdge.f (k : Nat) (a0_0 : Int) (l0_1 : List (S57)) (a1 : Int) : Option (Int × (List (S57)) × Bool) := (impl_GraphOk.f k a0_0 l0_1).bind fun t202 => (if t202 = true then ((impl_within.f a1 0 (wrap64 ((l0_1.length : Int) - 1))).bind fun t203 => (impl_DropEdge.j0 k a1 (!t203) a0_0 l0_1)) else (impl_DropEdge.j0 k a1 true a0_0 l0_1))
set_option maxHeartbeats 8000000 in
set_option maxRecDepth 100000 in
theorem impl_DropEdge.calls (k : Nat) (a0_0 : Int) (A0_1 : Option Addr) (c0_1 : Nat) (l0_1 : List (S57)) (a1 : Int) (r1 : Int) (r2 : List (S57)) (r3 : Bool) (w : World) (hr0_1 : Kd.C k57 w A0_1 l0_1.length l0_1) (hc0_1 : l0_1.length ≤ c0_1) (h : impl_DropEdge.f k a0_0 l0_1 a1 = some (r1, r2, r3)) :
  Calls Try.prog 34 #[.agg #[.int .i64 a0_0, .slice A0_1 l0_1.length c0_1], .int .i64 a1] w fun e w' => ∃ v1_ : Value, e = .returned (.tuple #[.agg #[.int .i64 r1, v1_], .bool r3]) ∧ Kd.R k57 57 w' w.heap.size (fun _ => True) v1_ r2 ∧ Below w.heap.size w w' := by
 have hu30 := Try.underlying30
 have HR0_1 := Aside0.mk hr0_1
 have HC0_1 := Aside0.mk hc0_1
 clear hr0_1 hc0_1
 have HB := Aside0.mk (Below.refl w.heap.size w)
 have H : ((impl_GraphOk.f k a0_0 l0_1).bind fun t202 => (if t202 = true then ((impl_within.f a1 0 (wrap64 ((l0_1.length : Int) - 1))).bind fun t203 => (impl_DropEdge.j0 k a1 (!t203) a0_0 l0_1)) else (impl_DropEdge.j0 k a1 true a0_0 l0_1))) = some (r1, r2, r3) := h
 clear h
 have HC3 := Aside0.mk H
 clear H
 go_enter Try.func34, Try.ntmps34
 go_upto_region 1 with (first | ((with_reducible refine gate_dst (N := 2) rfl ?_); (try (refine gate_guard (by rfl) ?_; dsimp only)); refine box_event ?hg (N := 2) ?hd (cs := #[.int .i64 a0_0, .slice A0_1 l0_1.length c0_1]) (t := 30) ?hr ?_; (case hd => rfl); (case hg => rfl); (case hr => first | (go_simp; done) | (go_simp; rfl)); intro gb200 hg w4 hbox hb; have BK200 := Aside0.mk (hbox); have GW200 := Aside0.mk ((by rw [hg]; exact (below_size (Lz HB)) : w.heap.size ≤ gb200)); have GE200 := Aside0.mk ((by rw [hg]; exact (below_size (Lz HB)) : w.heap.size ≤ gb200)); replace HB := Aside0.mk (below_step (Lz HB) hb); clear hb hbox hg) | ((with_reducible refine gate_dst (N := 4) rfl ?_); (try (refine gate_guard (by rfl) ?_; dsimp only)); refine box_event ?hg (N := 4) ?hd (cs := #[.int .i64 0, .slice none 0 0]) (t := 30) ?hr ?_; (case hd => rfl); (case hg => rfl); (case hr => first | (go_simp; done) | (go_simp; rfl)); intro gb201 hg w5 hbox hb; have BK201 := Aside0.mk (hbox); have GW201 := Aside0.mk ((by rw [hg]; exact (below_size (by exact Lz1 HB GE200)) : w.heap.size ≤ gb201)); have GE201 := Aside0.mk ((by rw [hg]; exact (below_size (by exact Lz1 HB GE200)) : w.heap.size ≤ gb201)); replace HB := Aside0.mk (below_step (by exact Lz1 HB GE200) hb); have NB200_201 := Aside0.mk ((by rw [hg]; exact Nat.ne_of_lt (blk_lt (g := gb200) (o := .cells #[.int .i64 a0_0, .slice A0_1 l0_1.length c0_1] 30 (0, 0)) (Bz BK200)) : gb200 ≠ gb201)); have NB201_200 := Aside0.mk ((by rw [hg]; exact Nat.ne_of_gt (blk_lt (g := gb200) (o := .cells #[.int .i64 a0_0, .slice A0_1 l0_1.length c0_1] 30 (0, 0)) (Bz BK200)) : gb201 ≠ gb200)); replace BK200 := Aside0.mk (blk_below (g := gb200) (o := .cells #[.int .i64 a0_0, .slice A0_1 l0_1.length c0_1] 30 (0, 0)) (Bz BK200) hb); clear hb hbox hg))
 (try simp only [Act.put, List.setIfInBounds_toArray, List.set_cons_zero, List.set_cons_succ])
 go_cut [18] (fun v18 wc => ∃ (kq : Nat) (x18_2 : Bool), v18 = .bool x18_2 ∧ Aside0 (impl_DropEdge.j0 kq a1 x18_2 a0_0 l0_1 = some (r1, r2, r3)) ∧ Aside0 (kq ≤ k) ∧ Aside0 (wc.heap[gb200]? = some (.cells #[.int .i64 a0_0, (.slice A0_1 l0_1.length c0_1)] 30 (0, 0))) ∧ Aside0 (wc.heap[gb201]? = some (.cells #[.int .i64 0, (.slice none 0 0)] 30 (0, 0))) ∧ Aside0 (Below w.heap.size w wc))
 case first =>
  have H := HC3.out
  clear HC3
  replace H := Option.bind_eq_some_iff.mp H
  obtain ⟨t202, A60, H⟩ := H
  replace H : (if t202 = true then ((impl_within.f a1 0 (wrap64 ((l0_1.length : Int) - 1))).bind fun t203 => (impl_DropEdge.j0 k a1 (!t203) a0_0 l0_1)) else (impl_DropEdge.j0 k a1 true a0_0 l0_1)) = some (r1, r2, r3) := H
  have A6 := Aside0.mk A60
  clear A60
  by_cases c7 : t202 = true
  ·subst c7
   have H1 : ((impl_within.f a1 0 (wrap64 ((l0_1.length : Int) - 1))).bind fun t203 => (impl_DropEdge.j0 k a1 (!t203) a0_0 l0_1)) = some (r1, r2, r3) := by rw [if_pos rfl] at H; exact H
   clear H
   have H := H1
   clear H1
   replace H := Option.bind_eq_some_iff.mp H
   obtain ⟨t203, A80, H⟩ := H
   replace H : (impl_DropEdge.j0 k a1 (!t203) a0_0 l0_1) = some (r1, r2, r3) := H
   have A8 := Aside0.mk A80
   clear A80
   have H' := Aside0.mk H
   clear H
   have hnb9 := NB200_201.out
   have hnc9 := NB201_200.out
   have hcz10_0 : w5.cell? ⟨gb200, 0, none⟩ = some (.int .i64 a0_0) := (blk_cell BK200.out 0).trans rfl
   have hcz10_1 : w5.cell? ⟨gb200, 1, none⟩ = some (.slice A0_1 l0_1.length c0_1) := (blk_cell BK200.out 1).trans rfl
   have hfz10_0 := blk_frozen BK200.out 0
   have hfz10_1 := blk_frozen BK200.out 1
   go_wp2_with (first | ((with_reducible refine gate_callee (f := 38) rfl ?_); refine goesM_ (some 8) rfl rfl Try.func38 (by kernel_rfl) rfl #[.agg #[.int .i64 a0_0, .slice A0_1 l0_1.length c0_1]] rfl ?_; (with_reducible refine (impl_GraphOk.calls k a0_0 _ _ l0_1 true _ ?side1 ?side2 A6.out).mono ?_); (case side1 => exact Cz ((Kd.C_below HR0_1.out HB.out))); (case side2 => exact HC0_1.out); rintro e w11 ⟨rfl, hb⟩; refine ⟨_, rfl, ?_⟩; replace BK200 := Aside0.mk (blk_below (g := gb200) (o := .cells #[.int .i64 a0_0, .slice A0_1 l0_1.length c0_1] 30 (0, 0)) (Bz BK200) hb); replace BK201 := Aside0.mk (blk_below (g := gb201) (o := .cells #[.int .i64 0, .slice none 0 0] 30 (0, 0)) (Bz BK201) hb); replace HB := Aside0.mk (below_step (by exact Lz2 HB GE200 GE201) hb); (try clear hb); (try clear hb2); (try clear hk); (try clear hi); have hcz12_0 : w11.cell? ⟨gb200, 0, none⟩ = some (.int .i64 a0_0) := (blk_cell BK200.out 0).trans rfl; have hcz12_1 : w11.cell? ⟨gb200, 1, none⟩ = some (.slice A0_1 l0_1.length c0_1) := (blk_cell BK200.out 1).trans rfl; have hfz12_0 := blk_frozen BK200.out 0; have hfz12_1 := blk_frozen BK200.out 1) | (go_at_call 68; (with_reducible refine (impl_within.calls a1 0 (wrap64 ((l0_1.length : Int) - 1)) t203 _ A8.out).mono ?_); rintro e w' ⟨rfl, ⟨nd, rfl⟩⟩))
   go_meet
   case rel => exact ⟨_, (!t203), eqA, H', ⟨by first | omega | exact Nat.le_refl _⟩, ⟨by exact Bz BK200⟩, ⟨by exact Bz BK201⟩, ⟨by exact Lz2 HB GE200 GE201⟩⟩
  replace c7 := Bool.eq_false_iff.mpr c7
  subst c7
  have H1 : (impl_DropEdge.j0 k a1 true a0_0 l0_1) = some (r1, r2, r3) := by rw [if_neg (show ¬ (false = true) by decide)] at H; exact H
  clear H
  have H := H1
  clear H1
  have H' := Aside0.mk H
  clear H
  have hnb13 := NB200_201.out
  have hnc13 := NB201_200.out
  have hcz14_0 : w5.cell? ⟨gb200, 0, none⟩ = some (.int .i64 a0_0) := (blk_cell BK200.out 0).trans rfl
  have hcz14_1 : w5.cell? ⟨gb200, 1, none⟩ = some (.slice A0_1 l0_1.length c0_1) := (blk_cell BK200.out 1).trans rfl
  have hfz14_0 := blk_frozen BK200.out 0
  have hfz14_1 := blk_frozen BK200.out 1
  go_wp2_with (first | ((with_reducible refine gate_callee (f := 38) rfl ?_); refine goesM_ (some 8) rfl rfl Try.func38 (by kernel_rfl) rfl #[.agg #[.int .i64 a0_0, .slice A0_1 l0_1.length c0_1]] rfl ?_; (with_reducible refine (impl_GraphOk.calls k a0_0 _ _ l0_1 false _ ?side1 ?side2 A6.out).mono ?_); (case side1 => exact Cz ((Kd.C_below HR0_1.out HB.out))); (case side2 => exact HC0_1.out); rintro e w15 ⟨rfl, hb⟩; refine ⟨_, rfl, ?_⟩; replace BK200 := Aside0.mk (blk_below (g := gb200) (o := .cells #[.int .i64 a0_0, .slice A0_1 l0_1.length c0_1] 30 (0, 0)) (Bz BK200) hb); replace BK201 := Aside0.mk (blk_below (g := gb201) (o := .cells #[.int .i64 0, .slice none 0 0] 30 (0, 0)) (Bz BK201) hb); replace HB := Aside0.mk (below_step (by exact Lz2 HB GE200 GE201) hb); (try clear hb); (try clear hb2); (try clear hk); (try clear hi)))
  go_meet
  case rel => exact ⟨_, (true), eqA, H', ⟨by first | omega | exact Nat.le_refl _⟩, ⟨by exact Bz BK200⟩, ⟨by exact Bz BK201⟩, ⟨by exact Lz2 HB GE200 GE201⟩⟩
 case rest =>
  clear HC3
  try clear c7
  obtain ⟨kq, x18_2, rfl, HA, HJ2, BK200, BK201, HB⟩ := hcut
  cases kq with
  | zero => exact absurd HA.out (by simp [impl_DropEdge.j0])
  | succ kj2 =>
   have H := HA.out
   clear HA
   simp only [impl_DropEdge.j0] at H
   by_cases c16 : x18_2 = true
   ·subst c16
    have H1 : (some (0, ([] : List (S57)), false)) = some (r1, r2, r3) := by rw [if_pos rfl] at H; exact H
    clear H
    have H := H1
    clear H1
    simp only [Option.some.injEq, Prod.mk.injEq] at H
    obtain ⟨rfl, rfl, rfl⟩ := H
    have hnb17 := NB201_200.out
    have hnc17 := NB200_201.out
    have hcz18_0 : wc.cell? ⟨gb201, 0, none⟩ = some (.int .i64 0) := (blk_cell BK201.out 0).trans rfl
    have hcz18_1 : wc.cell? ⟨gb201, 1, none⟩ = some (.slice none 0 0) := (blk_cell BK201.out 1).trans rfl
    have hfz18_0 := blk_frozen BK201.out 0
    have hfz18_1 := blk_frozen BK201.out 1
    go_wp2
    refine bodyPost_ret (results_ct rfl _ _ gb201 30 #[.int .i64 0, .slice none 0 0] (0, 0) _ rfl (by (with_reducible repeat (first | refine blk_drewN ?_ _ | refine blk_drew ?_ | refine blk_alloc ?_ _)); refine blk_put (cs := #[.int .i64 0, .slice none 0 0]) ?_ 1 _ rfl; (with_reducible repeat (first | refine blk_drewN ?_ _ | refine blk_drew ?_ | refine blk_alloc ?_ _)); refine blk_put (cs := #[.int .i64 0, .slice none 0 0]) ?_ 0 _ rfl; exact Bz BK201) Try.underlying30 rfl (by kernel_rfl)) rfl ?_
    exact ⟨_, by first | rfl | (simp [errW_none, errW_some] <;> rfl) | (simp [*, errW_none, errW_some] <;> rfl), by first | exact Kd.R_nil _ _ _ _ _ | exact Kd.N_nil _ _ _ _ _ | exact Kd.V_nil _ _ _ _ _ | exact Kd.Q_nil _ _ _ _ _ | exact Kd.S_nil _ _ _ _ _, by exact Lz2 HB GE200 GE201⟩
   replace c16 := Bool.eq_false_iff.mpr c16
   subst c16
   have H1 : ((impl_copyGraph.f a0_0 l0_1).bind fun bt204 => ((slices_Delete_Edge.f bt204.2 a1 (wrap64 (a1 + 1))).bind fun t209 => ((impl_GraphOk.f kj2 bt204.1 t209).bind fun t212 => (if t212 = true then (some (bt204.1, t209, true)) else (some (0, ([] : List (S57)), false)))))) = some (r1, r2, r3) := by rw [if_neg (show ¬ (false = true) by decide)] at H; exact H
   clear H
   have H := H1
   clear H1
   replace H := Option.bind_eq_some_iff.mp H
   obtain ⟨⟨t204, t205⟩, A190, H⟩ := H
   replace H : ((slices_Delete_Edge.f t205 a1 (wrap64 (a1 + 1))).bind fun t209 => ((impl_GraphOk.f kj2 t204 t209).bind fun t212 => (if t212 = true then (some (t204, t209, true)) else (some (0, ([] : List (S57)), false))))) = some (r1, r2, r3) := H
   have A19 := Aside0.mk A190
   clear A190
   replace H := Option.bind_eq_some_iff.mp H
   obtain ⟨t209, A200, H⟩ := H
   replace H : ((impl_GraphOk.f kj2 t204 t209).bind fun t212 => (if t212 = true then (some (t204, t209, true)) else (some (0, ([] : List (S57)), false)))) = some (r1, r2, r3) := H
   have A20 := Aside0.mk A200
   clear A200
   replace H := Option.bind_eq_some_iff.mp H
   obtain ⟨t212, A210, H⟩ := H
   replace H : (if t212 = true then (some (t204, t209, true)) else (some (0, ([] : List (S57)), false))) = some (r1, r2, r3) := H
   have A21 := Aside0.mk A210
   clear A210
   by_cases c22 : t212 = true
   ·subst c22
    have H1 : (some (t204, t209, true)) = some (r1, r2, r3) := by rw [if_pos rfl] at H; exact H
    clear H
    have H := H1
    clear H1
    simp only [Option.some.injEq, Prod.mk.injEq] at H
    obtain ⟨rfl, rfl, rfl⟩ := H
    have hnb23 := NB200_201.out
    have hnc23 := NB201_200.out
    have hcz24_0 : wc.cell? ⟨gb200, 0, none⟩ = some (.int .i64 a0_0) := (blk_cell BK200.out 0).trans rfl
    have hcz24_1 : wc.cell? ⟨gb200, 1, none⟩ = some (.slice A0_1 l0_1.length c0_1) := (blk_cell BK200.out 1).trans rfl
    have hfz24_0 := blk_frozen BK200.out 0
    have hfz24_1 := blk_frozen BK200.out 1
    go_wp2_with (first | ((with_reducible refine gate_callee (f := 69) rfl ?_); refine goesM_ (some 21) rfl rfl Try.func69 (by kernel_rfl) rfl #[.agg #[.int .i64 a0_0, .slice A0_1 l0_1.length c0_1]] rfl ?_; (with_reducible refine (impl_copyGraph.calls a0_0 _ _ l0_1 t204 t205 _ ?side1 ?side2 A19.out).mono ?_); (case side1 => exact Cz ((Kd.C_below HR0_1.out HB.out))); (case side2 => exact HC0_1.out); rintro e w25 ⟨v206, rfl, ho0, hb⟩; refine ⟨_, rfl, ?_⟩; have HO207 := Aside0.mk (Kd.R_lower ho0 (below_size (by exact Lz2 HB GE200 GE201))); replace BK200 := Aside0.mk (blk_below (g := gb200) (o := .cells #[.int .i64 a0_0, .slice A0_1 l0_1.length c0_1] 30 (0, 0)) (Bz BK200) hb); replace BK201 := Aside0.mk (blk_below (g := gb201) (o := .cells #[.int .i64 0, .slice none 0 0] 30 (0, 0)) (Bz BK201) hb); replace HB := Aside0.mk (below_step (by exact Lz2 HB GE200 GE201) hb); (try clear hb); (try clear ho0)) | ((with_reducible refine gate_dst (N := 6) rfl ?_); (try (refine gate_guard (by rfl) ?_; dsimp only)); refine box_event ?hg (N := 6) ?hd (cs := #[.int .i64 0, .slice none 0 0]) (t := 30) ?hr ?_; (case hd => rfl); (case hg => rfl); (case hr => first | (go_simp; done) | (go_simp; rfl)); intro gb208 hg w26 hbox hb; replace HO207 := Aside0.mk (Kd.R_below (Rz HO207) hb); have BK208 := Aside0.mk (hbox); have GW208 := Aside0.mk ((by rw [hg]; exact (below_size (by exact Lz2 HB GE200 GE201)) : w.heap.size ≤ gb208)); have GE208 := Aside0.mk ((by rw [hg]; exact (below_size (by exact Lz2 HB GE200 GE201)) : w.heap.size ≤ gb208)); replace HB := Aside0.mk (below_step (by exact Lz2 HB GE200 GE201) hb); have NB200_208 := Aside0.mk ((by rw [hg]; exact Nat.ne_of_lt (blk_lt (g := gb200) (o := .cells #[.int .i64 a0_0, .slice A0_1 l0_1.length c0_1] 30 (0, 0)) (Bz BK200)) : gb200 ≠ gb208)); have NB208_200 := Aside0.mk ((by rw [hg]; exact Nat.ne_of_gt (blk_lt (g := gb200) (o := .cells #[.int .i64 a0_0, .slice A0_1 l0_1.length c0_1] 30 (0, 0)) (Bz BK200)) : gb208 ≠ gb200)); replace BK200 := Aside0.mk (blk_below (g := gb200) (o := .cells #[.int .i64 a0_0, .slice A0_1 l0_1.length c0_1] 30 (0, 0)) (Bz BK200) hb); have NB201_208 := Aside0.mk ((by rw [hg]; exact Nat.ne_of_lt (blk_lt (g := gb201) (o := .cells #[.int .i64 0, .slice none 0 0] 30 (0, 0)) (Bz BK201)) : gb201 ≠ gb208)); have NB208_201 := Aside0.mk ((by rw [hg]; exact Nat.ne_of_gt (blk_lt (g := gb201) (o := .cells #[.int .i64 0, .slice none 0 0] 30 (0, 0)) (Bz BK201)) : gb208 ≠ gb201)); replace BK201 := Aside0.mk (blk_below (g := gb201) (o := .cells #[.int .i64 0, .slice none 0 0] 30 (0, 0)) (Bz BK201) hb); clear hb hbox hg; have hnb27 := NB208_200.out; have hnc27 := NB200_208.out; have hnb28 := NB208_201.out; have hnc28 := NB201_208.out; have hcz29_0 : w26.cell? ⟨gb208, 0, none⟩ = some (.int .i64 0) := (blk_cell BK208.out 0).trans rfl; have hcz29_1 : w26.cell? ⟨gb208, 1, none⟩ = some (.slice none 0 0) := (blk_cell BK208.out 1).trans rfl; have hfz29_0 := blk_frozen BK208.out 0; have hfz29_1 := blk_frozen BK208.out 1; obtain ⟨Ao30, co30, eo30⟩ := Kd.R_slice HO207.out; subst eo30) | ((with_reducible refine gate_store (t := 30) (p := 6) rfl ?_); refine store_event (t := 30) (p := 6) (v := ?vo_w31) (w1 := ((w26.setCell ⟨gb208, 0, none⟩ (.int .i64 t204)).setCell ⟨gb208, 1, none⟩ (.slice Ao30 t205.length co30))) ?hg ?ho ?hn ?hr ?_; (case ho => rfl); (case hg => rfl); (case hn => rfl); (case hr => first | (go_simp; done) | (go_simp; rfl)); intro w31 hw; have n0_ : Aside0 (Kd.R k57 57 w31 w.heap.size (fun _ => True) (.slice Ao30 t205.length co30) t205) := ⟨(by rw [hw]; exact (by (with_reducible repeat (first | apply Kd.R_alloc | apply Kd.R_drewN | apply Kd.R_drew)); exact Kd.R_mono (Kd.R_far (p := ⟨gb208, 1, none⟩) (Kd.R_far (p := ⟨gb208, 0, none⟩) (Kd.R_types HO207.out BK208.out (by decide)) (fun _ hk => hk.2) (.int .i64 t204)) (fun _ hk => hk.2) (.slice Ao30 t205.length co30)) (fun _ hk => trivial)))⟩; have n1_ : Aside0 (w31.heap[gb200]? = some (.cells #[.int .i64 a0_0, .slice A0_1 l0_1.length c0_1] 30 (0, 0))) := ⟨(by rw [hw]; exact (by (with_reducible repeat (first | refine blk_drewN ?_ _ | refine blk_drew ?_ | refine blk_alloc ?_ _)); refine blk_far ?_ NB200_208.out _; (with_reducible repeat (first | refine blk_drewN ?_ _ | refine blk_drew ?_ | refine blk_alloc ?_ _)); refine blk_far ?_ NB200_208.out _; exact Bz BK200))⟩; have n2_ : Aside0 (w31.heap[gb201]? = some (.cells #[.int .i64 0, .slice none 0 0] 30 (0, 0))) := ⟨(by rw [hw]; exact (by (with_reducible repeat (first | refine blk_drewN ?_ _ | refine blk_drew ?_ | refine blk_alloc ?_ _)); refine blk_far ?_ NB201_208.out _; (with_reducible repeat (first | refine blk_drewN ?_ _ | refine blk_drew ?_ | refine blk_alloc ?_ _)); refine blk_far ?_ NB201_208.out _; exact Bz BK201))⟩; have n3_ : Aside0 (w31.heap[gb208]? = some (.cells #[.int .i64 t204, .slice Ao30 t205.length co30] 30 (0, 0))) := ⟨(by rw [hw]; exact (by (with_reducible repeat (first | refine blk_drewN ?_ _ | refine blk_drew ?_ | refine blk_alloc ?_ _)); refine blk_put (cs := #[.int .i64 t204, .slice none 0 0]) ?_ 1 _ rfl; (with_reducible repeat (first | refine blk_drewN ?_ _ | refine blk_drew ?_ | refine blk_alloc ?_ _)); refine blk_put (cs := #[.int .i64 0, .slice none 0 0]) ?_ 0 _ rfl; exact Bz BK208))⟩; have n4_ : Aside0 (Below w.heap.size w w31) := ⟨(by rw [hw]; exact (by exact Lz3 HB GE200 GE201 GE208))⟩; clear hw; clear HO207; clear BK200; clear BK201; clear BK208; clear HB; have HO207 := n0_; have BK200 := n1_; have BK201 := n2_; have BK208 := n3_; have HB := n4_; clear n0_ n1_ n2_ n3_ n4_; have hcz32_0 : w31.cell? ⟨gb208, 0, none⟩ = some (.int .i64 t204) := (blk_cell BK208.out 0).trans rfl; have hcz32_1 : w31.cell? ⟨gb208, 1, none⟩ = some (.slice Ao30 t205.length co30) := (blk_cell BK208.out 1).trans rfl; have hfz32_0 := blk_frozen BK208.out 0; have hfz32_1 := blk_frozen BK208.out 1) | ((with_reducible refine gate_callee (f := 70) rfl ?_); refine goesM_ (some 27) rfl rfl Try.func70 (by kernel_rfl) rfl #[.slice Ao30 t205.length co30, .int .i64 a1, .int .i64 (wrap64 (a1 + 1))] rfl ?_; (with_reducible refine (slices_Delete_Edge.calls (fun k_ => some k_ = (.slice Ao30 t205.length co30 : Value).ownBlock) (.slice Ao30 t205.length co30) t205 a1 (wrap64 (a1 + 1)) t209 w _ ?side1 ?side2 A20.out).mono ?_); (case side1 => exact Lz3 HB GE200 GE201 GE208); (case side2 => exact Kd.R_tight rfl HO207.out); rintro e w33 ⟨v210, rfl, ho0, hb, hkp⟩; refine ⟨_, rfl, ?_⟩; replace BK200 := Aside0.mk (blk_kept (Bz BK200) hkp (fun hs_ => (fun e_ => (Kd.R_ne HO207.out BK200.out (by decide)) e_) hs_)); replace BK201 := Aside0.mk (blk_kept (Bz BK201) hkp (fun hs_ => (fun e_ => (Kd.R_ne HO207.out BK201.out (by decide)) e_) hs_)); replace BK208 := Aside0.mk (blk_kept (Bz BK208) hkp (fun hs_ => (fun e_ => (Kd.R_ne HO207.out BK208.out (by decide)) e_) hs_)); have HO211 := Aside0.mk (Kd.R_mono (ok' := fun k_ => True) ho0 (fun k_ hk_ => trivial)); replace HB := Aside0.mk (hb); clear HO207; (try clear hb); (try clear hkp); (try clear ho0); obtain ⟨Ao34, co34, eo34⟩ := Kd.R_slice HO211.out; subst eo34; have hcz35_0 : w33.cell? ⟨gb208, 0, none⟩ = some (.int .i64 t204) := (blk_cell BK208.out 0).trans rfl; have hcz35_1 : w33.cell? ⟨gb208, 1, none⟩ = some (.slice Ao30 t205.length co30) := (blk_cell BK208.out 1).trans rfl; have hfz35_0 := blk_frozen BK208.out 0; have hfz35_1 := blk_frozen BK208.out 1) | ((with_reducible refine gate_callee (f := 38) rfl ?_); refine goesM_ (some 30) rfl rfl Try.func38 (by kernel_rfl) rfl #[.agg #[.int .i64 t204, .slice Ao34 t209.length co34]] rfl ?_; (with_reducible refine (impl_GraphOk.calls kj2 t204 _ _ t209 true _ ?side1 ?side2 A21.out).mono ?_); (case side1 => refine (Kd.R_reads' (e := 57) (base := w.heap.size) (ok := fun k_ => True) (n := t209.length) (c := co34) ?_).2.2; exact (by (with_reducible repeat (first | apply Kd.R_alloc | apply Kd.R_drewN | apply Kd.R_drew)); exact (Kd.R_mono (Kd.R_far (p := ⟨gb208, 1, none⟩) (Kd.R_types HO211.out BK208.out (by decide)) (fun _ hk => hk.2) (.slice Ao34 t209.length co34)) (fun _ h_ => h_.1)))); (case side2 => exact (Kd.R_reads' HO211.out).2.1); rintro e w36 ⟨rfl, hb⟩; refine ⟨_, rfl, ?_⟩; replace HO211 := Aside0.mk (Kd.R_below (by (with_reducible repeat (first | apply Kd.R_alloc | apply Kd.R_drewN | apply Kd.R_drew)); exact (Kd.R_mono (Kd.R_far (p := ⟨gb208, 1, none⟩) (Kd.R_types HO211.out BK208.out (by decide)) (fun _ hk => hk.2) (.slice Ao34 t209.length co34)) (fun _ h_ => h_.1))) hb); replace BK200 := Aside0.mk (blk_below (g := gb200) (o := .cells #[.int .i64 a0_0, .slice A0_1 l0_1.length c0_1] 30 (0, 0)) (by (with_reducible repeat (first | refine blk_drewN ?_ _ | refine blk_drew ?_ | refine blk_alloc ?_ _)); refine blk_far ?_ NB200_208.out _; exact Bz BK200) hb); replace BK201 := Aside0.mk (blk_below (g := gb201) (o := .cells #[.int .i64 0, .slice none 0 0] 30 (0, 0)) (by (with_reducible repeat (first | refine blk_drewN ?_ _ | refine blk_drew ?_ | refine blk_alloc ?_ _)); refine blk_far ?_ NB201_208.out _; exact Bz BK201) hb); replace BK208 := Aside0.mk (blk_below (g := gb208) (o := .cells #[.int .i64 t204, .slice Ao34 t209.length co34] 30 (0, 0)) (by (with_reducible repeat (first | refine blk_drewN ?_ _ | refine blk_drew ?_ | refine blk_alloc ?_ _)); refine blk_put (cs := #[.int .i64 t204, .slice Ao30 t205.length co30]) ?_ 1 _ rfl; exact Bz BK208) hb); replace HB := Aside0.mk (below_step (by exact Lz3 HB GE200 GE201 GE208) hb); (try clear hb); (try clear hb2); (try clear hk); (try clear hi); have hcz37_0 : w36.cell? ⟨gb208, 0, none⟩ = some (.int .i64 t204) := (blk_cell BK208.out 0).trans rfl; have hcz37_1 : w36.cell? ⟨gb208, 1, none⟩ = some (.slice Ao34 t209.length co34) := (blk_cell BK208.out 1).trans rfl; have hfz37_0 := blk_frozen BK208.out 0; have hfz37_1 := blk_frozen BK208.out 1; have hcz38_0 : w36.cell? ⟨gb201, 0, none⟩ = some (.int .i64 0) := (blk_cell BK201.out 0).trans rfl; have hcz38_1 : w36.cell? ⟨gb201, 1, none⟩ = some (.slice none 0 0) := (blk_cell BK201.out 1).trans rfl; have hfz38_0 := blk_frozen BK201.out 0; have hfz38_1 := blk_frozen BK201.out 1))
    refine bodyPost_ret (results_ct rfl _ _ gb201 30 #[.int .i64 t204, .slice Ao34 t209.length co34] (0, 0) _ rfl (by (with_reducible repeat (first | refine blk_drewN ?_ _ | refine blk_drew ?_ | refine blk_alloc ?_ _)); refine blk_put (cs := #[.int .i64 t204, .slice none 0 0]) ?_ 1 _ rfl; (with_reducible repeat (first | refine blk_drewN ?_ _ | refine blk_drew ?_ | refine blk_alloc ?_ _)); refine blk_put (cs := #[.int .i64 0, .slice none 0 0]) ?_ 0 _ rfl; exact Bz BK201) Try.underlying30 rfl (by kernel_rfl)) rfl ?_
    exact ⟨_, by first | rfl | (simp [errW_none, errW_some] <;> rfl) | (simp [*, errW_none, errW_some] <;> rfl), by (with_reducible repeat (first | apply Kd.R_alloc | apply Kd.R_drewN | apply Kd.R_drew)); exact Kd.R_mono (Kd.R_far (p := ⟨gb201, 1, none⟩) (Kd.R_far (p := ⟨gb201, 0, none⟩) (Kd.R_types HO211.out BK201.out (by decide)) (fun _ hk => hk.2) (.int .i64 t204)) (fun _ hk => hk.2) (.slice Ao34 t209.length co34)) (fun _ hk => trivial), by exact Lz3 HB GE200 GE201 GE208⟩
   replace c22 := Bool.eq_false_iff.mpr c22
   subst c22
   have H1 : (some (0, ([] : List (S57)), false)) = some (r1, r2, r3) := by rw [if_neg (show ¬ (false = true) by decide)] at H; exact H
   clear H
   have H := H1
   clear H1
   simp only [Option.some.injEq, Prod.mk.injEq] at H
   obtain ⟨rfl, rfl, rfl⟩ := H
   have hnb39 := NB200_201.out
   have hnc39 := NB201_200.out
   have hcz40_0 : wc.cell? ⟨gb200, 0, none⟩ = some (.int .i64 a0_0) := (blk_cell BK200.out 0).trans rfl
   have hcz40_1 : wc.cell? ⟨gb200, 1, none⟩ = some (.slice A0_1 l0_1.length c0_1) := (blk_cell BK200.out 1).trans rfl
   have hfz40_0 := blk_frozen BK200.out 0
   have hfz40_1 := blk_frozen BK200.out 1
   go_wp2_with (first | ((with_reducible refine gate_callee (f := 69) rfl ?_); refine goesM_ (some 21) rfl rfl Try.func69 (by kernel_rfl) rfl #[.agg #[.int .i64 a0_0, .slice A0_1 l0_1.length c0_1]] rfl ?_; (with_reducible refine (impl_copyGraph.calls a0_0 _ _ l0_1 t204 t205 _ ?side1 ?side2 A19.out).mono ?_); (case side1 => exact Cz ((Kd.C_below HR0_1.out HB.out))); (case side2 => exact HC0_1.out); rintro e w41 ⟨v206, rfl, ho0, hb⟩; refine ⟨_, rfl, ?_⟩; have HO207 := Aside0.mk (Kd.R_lower ho0 (below_size (by exact Lz2 HB GE200 GE201))); replace BK200 := Aside0.mk (blk_below (g := gb200) (o := .cells #[.int .i64 a0_0, .slice A0_1 l0_1.length c0_1] 30 (0, 0)) (Bz BK200) hb); replace BK201 := Aside0.mk (blk_below (g := gb201) (o := .cells #[.int .i64 0, .slice none 0 0] 30 (0, 0)) (Bz BK201) hb); replace HB := Aside0.mk (below_step (by exact Lz2 HB GE200 GE201) hb); (try clear hb); (try clear ho0)) | ((with_reducible refine gate_dst (N := 6) rfl ?_); (try (refine gate_guard (by rfl) ?_; dsimp only)); refine box_event ?hg (N := 6) ?hd (cs := #[.int .i64 0, .slice none 0 0]) (t := 30) ?hr ?_; (case hd => rfl); (case hg => rfl); (case hr => first | (go_simp; done) | (go_simp; rfl)); intro gb208 hg w42 hbox hb; replace HO207 := Aside0.mk (Kd.R_below (Rz HO207) hb); have BK208 := Aside0.mk (hbox); have GW208 := Aside0.mk ((by rw [hg]; exact (below_size (by exact Lz2 HB GE200 GE201)) : w.heap.size ≤ gb208)); have GE208 := Aside0.mk ((by rw [hg]; exact (below_size (by exact Lz2 HB GE200 GE201)) : w.heap.size ≤ gb208)); replace HB := Aside0.mk (below_step (by exact Lz2 HB GE200 GE201) hb); have NB200_208 := Aside0.mk ((by rw [hg]; exact Nat.ne_of_lt (blk_lt (g := gb200) (o := .cells #[.int .i64 a0_0, .slice A0_1 l0_1.length c0_1] 30 (0, 0)) (Bz BK200)) : gb200 ≠ gb208)); have NB208_200 := Aside0.mk ((by rw [hg]; exact Nat.ne_of_gt (blk_lt (g := gb200) (o := .cells #[.int .i64 a0_0, .slice A0_1 l0_1.length c0_1] 30 (0, 0)) (Bz BK200)) : gb208 ≠ gb200)); replace BK200 := Aside0.mk (blk_below (g := gb200) (o := .cells #[.int .i64 a0_0, .slice A0_1 l0_1.length c0_1] 30 (0, 0)) (Bz BK200) hb); have NB201_208 := Aside0.mk ((by rw [hg]; exact Nat.ne_of_lt (blk_lt (g := gb201) (o := .cells #[.int .i64 0, .slice none 0 0] 30 (0, 0)) (Bz BK201)) : gb201 ≠ gb208)); have NB208_201 := Aside0.mk ((by rw [hg]; exact Nat.ne_of_gt (blk_lt (g := gb201) (o := .cells #[.int .i64 0, .slice none 0 0] 30 (0, 0)) (Bz BK201)) : gb208 ≠ gb201)); replace BK201 := Aside0.mk (blk_below (g := gb201) (o := .cells #[.int .i64 0, .slice none 0 0] 30 (0, 0)) (Bz BK201) hb); clear hb hbox hg; have hnb43 := NB208_200.out; have hnc43 := NB200_208.out; have hnb44 := NB208_201.out; have hnc44 := NB201_208.out; have hcz45_0 : w42.cell? ⟨gb208, 0, none⟩ = some (.int .i64 0) := (blk_cell BK208.out 0).trans rfl; have hcz45_1 : w42.cell? ⟨gb208, 1, none⟩ = some (.slice none 0 0) := (blk_cell BK208.out 1).trans rfl; have hfz45_0 := blk_frozen BK208.out 0; have hfz45_1 := blk_frozen BK208.out 1; obtain ⟨Ao46, co46, eo46⟩ := Kd.R_slice HO207.out; subst eo46) | ((with_reducible refine gate_store (t := 30) (p := 6) rfl ?_); refine store_event (t := 30) (p := 6) (v := ?vo_w47) (w1 := ((w42.setCell ⟨gb208, 0, none⟩ (.int .i64 t204)).setCell ⟨gb208, 1, none⟩ (.slice Ao46 t205.length co46))) ?hg ?ho ?hn ?hr ?_; (case ho => rfl); (case hg => rfl); (case hn => rfl); (case hr => first | (go_simp; done) | (go_simp; rfl)); intro w47 hw; have n0_ : Aside0 (Kd.R k57 57 w47 w.heap.size (fun _ => True) (.slice Ao46 t205.length co46) t205) := ⟨(by rw [hw]; exact (by (with_reducible repeat (first | apply Kd.R_alloc | apply Kd.R_drewN | apply Kd.R_drew)); exact Kd.R_mono (Kd.R_far (p := ⟨gb208, 1, none⟩) (Kd.R_far (p := ⟨gb208, 0, none⟩) (Kd.R_types HO207.out BK208.out (by decide)) (fun _ hk => hk.2) (.int .i64 t204)) (fun _ hk => hk.2) (.slice Ao46 t205.length co46)) (fun _ hk => trivial)))⟩; have n1_ : Aside0 (w47.heap[gb200]? = some (.cells #[.int .i64 a0_0, .slice A0_1 l0_1.length c0_1] 30 (0, 0))) := ⟨(by rw [hw]; exact (by (with_reducible repeat (first | refine blk_drewN ?_ _ | refine blk_drew ?_ | refine blk_alloc ?_ _)); refine blk_far ?_ NB200_208.out _; (with_reducible repeat (first | refine blk_drewN ?_ _ | refine blk_drew ?_ | refine blk_alloc ?_ _)); refine blk_far ?_ NB200_208.out _; exact Bz BK200))⟩; have n2_ : Aside0 (w47.heap[gb201]? = some (.cells #[.int .i64 0, .slice none 0 0] 30 (0, 0))) := ⟨(by rw [hw]; exact (by (with_reducible repeat (first | refine blk_drewN ?_ _ | refine blk_drew ?_ | refine blk_alloc ?_ _)); refine blk_far ?_ NB201_208.out _; (with_reducible repeat (first | refine blk_drewN ?_ _ | refine blk_drew ?_ | refine blk_alloc ?_ _)); refine blk_far ?_ NB201_208.out _; exact Bz BK201))⟩; have n3_ : Aside0 (w47.heap[gb208]? = some (.cells #[.int .i64 t204, .slice Ao46 t205.length co46] 30 (0, 0))) := ⟨(by rw [hw]; exact (by (with_reducible repeat (first | refine blk_drewN ?_ _ | refine blk_drew ?_ | refine blk_alloc ?_ _)); refine blk_put (cs := #[.int .i64 t204, .slice none 0 0]) ?_ 1 _ rfl; (with_reducible repeat (first | refine blk_drewN ?_ _ | refine blk_drew ?_ | refine blk_alloc ?_ _)); refine blk_put (cs := #[.int .i64 0, .slice none 0 0]) ?_ 0 _ rfl; exact Bz BK208))⟩; have n4_ : Aside0 (Below w.heap.size w w47) := ⟨(by rw [hw]; exact (by exact Lz3 HB GE200 GE201 GE208))⟩; clear hw; clear HO207; clear BK200; clear BK201; clear BK208; clear HB; have HO207 := n0_; have BK200 := n1_; have BK201 := n2_; have BK208 := n3_; have HB := n4_; clear n0_ n1_ n2_ n3_ n4_; have hcz48_0 : w47.cell? ⟨gb208, 0, none⟩ = some (.int .i64 t204) := (blk_cell BK208.out 0).trans rfl; have hcz48_1 : w47.cell? ⟨gb208, 1, none⟩ = some (.slice Ao46 t205.length co46) := (blk_cell BK208.out 1).trans rfl; have hfz48_0 := blk_frozen BK208.out 0; have hfz48_1 := blk_frozen BK208.out 1) | ((with_reducible refine gate_callee (f := 70) rfl ?_); refine goesM_ (some 27) rfl rfl Try.func70 (by kernel_rfl) rfl #[.slice Ao46 t205.length co46, .int .i64 a1, .int .i64 (wrap64 (a1 + 1))] rfl ?_; (with_reducible refine (slices_Delete_Edge.calls (fun k_ => some k_ = (.slice Ao46 t205.length co46 : Value).ownBlock) (.slice Ao46 t205.length co46) t205 a1 (wrap64 (a1 + 1)) t209 w _ ?side1 ?side2 A20.out).mono ?_); (case side1 => exact Lz3 HB GE200 GE201 GE208); (case side2 => exact Kd.R_tight rfl HO207.out); rintro e w49 ⟨v210, rfl, ho0, hb, hkp⟩; refine ⟨_, rfl, ?_⟩; replace BK200 := Aside0.mk (blk_kept (Bz BK200) hkp (fun hs_ => (fun e_ => (Kd.R_ne HO207.out BK200.out (by decide)) e_) hs_)); replace BK201 := Aside0.mk (blk_kept (Bz BK201) hkp (fun hs_ => (fun e_ => (Kd.R_ne HO207.out BK201.out (by decide)) e_) hs_)); replace BK208 := Aside0.mk (blk_kept (Bz BK208) hkp (fun hs_ => (fun e_ => (Kd.R_ne HO207.out BK208.out (by decide)) e_) hs_)); have HO211 := Aside0.mk (Kd.R_mono (ok' := fun k_ => True) ho0 (fun k_ hk_ => trivial)); replace HB := Aside0.mk (hb); clear HO207; (try clear hb); (try clear hkp); (try clear ho0); obtain ⟨Ao50, co50, eo50⟩ := Kd.R_slice HO211.out; subst eo50; have hcz51_0 : w49.cell? ⟨gb208, 0, none⟩ = some (.int .i64 t204) := (blk_cell BK208.out 0).trans rfl; have hcz51_1 : w49.cell? ⟨gb208, 1, none⟩ = some (.slice Ao46 t205.length co46) := (blk_cell BK208.out 1).trans rfl; have hfz51_0 := blk_frozen BK208.out 0; have hfz51_1 := blk_frozen BK208.out 1) | ((with_reducible refine gate_callee (f := 38) rfl ?_); refine goesM_ (some 30) rfl rfl Try.func38 (by kernel_rfl) rfl #[.agg #[.int .i64 t204, .slice Ao50 t209.length co50]] rfl ?_; (with_reducible refine (impl_GraphOk.calls kj2 t204 _ _ t209 false _ ?side1 ?side2 A21.out).mono ?_); (case side1 => refine (Kd.R_reads' (e := 57) (base := w.heap.size) (ok := fun k_ => True) (n := t209.length) (c := co50) ?_).2.2; exact (by (with_reducible repeat (first | apply Kd.R_alloc | apply Kd.R_drewN | apply Kd.R_drew)); exact (Kd.R_mono (Kd.R_far (p := ⟨gb208, 1, none⟩) (Kd.R_types HO211.out BK208.out (by decide)) (fun _ hk => hk.2) (.slice Ao50 t209.length co50)) (fun _ h_ => h_.1)))); (case side2 => exact (Kd.R_reads' HO211.out).2.1); rintro e w52 ⟨rfl, hb⟩; refine ⟨_, rfl, ?_⟩; replace HO211 := Aside0.mk (Kd.R_below (by (with_reducible repeat (first | apply Kd.R_alloc | apply Kd.R_drewN | apply Kd.R_drew)); exact (Kd.R_mono (Kd.R_far (p := ⟨gb208, 1, none⟩) (Kd.R_types HO211.out BK208.out (by decide)) (fun _ hk => hk.2) (.slice Ao50 t209.length co50)) (fun _ h_ => h_.1))) hb); replace BK200 := Aside0.mk (blk_below (g := gb200) (o := .cells #[.int .i64 a0_0, .slice A0_1 l0_1.length c0_1] 30 (0, 0)) (by (with_reducible repeat (first | refine blk_drewN ?_ _ | refine blk_drew ?_ | refine blk_alloc ?_ _)); refine blk_far ?_ NB200_208.out _; exact Bz BK200) hb); replace BK201 := Aside0.mk (blk_below (g := gb201) (o := .cells #[.int .i64 0, .slice none 0 0] 30 (0, 0)) (by (with_reducible repeat (first | refine blk_drewN ?_ _ | refine blk_drew ?_ | refine blk_alloc ?_ _)); refine blk_far ?_ NB201_208.out _; exact Bz BK201) hb); replace BK208 := Aside0.mk (blk_below (g := gb208) (o := .cells #[.int .i64 t204, .slice Ao50 t209.length co50] 30 (0, 0)) (by (with_reducible repeat (first | refine blk_drewN ?_ _ | refine blk_drew ?_ | refine blk_alloc ?_ _)); refine blk_put (cs := #[.int .i64 t204, .slice Ao46 t205.length co46]) ?_ 1 _ rfl; exact Bz BK208) hb); replace HB := Aside0.mk (below_step (by exact Lz3 HB GE200 GE201 GE208) hb); (try clear hb); (try clear hb2); (try clear hk); (try clear hi); have hcz53_0 : w52.cell? ⟨gb201, 0, none⟩ = some (.int .i64 0) := (blk_cell BK201.out 0).trans rfl; have hcz53_1 : w52.cell? ⟨gb201, 1, none⟩ = some (.slice none 0 0) := (blk_cell BK201.out 1).trans rfl; have hfz53_0 := blk_frozen BK201.out 0; have hfz53_1 := blk_frozen BK201.out 1))
   refine bodyPost_ret (results_ct rfl _ _ gb201 30 #[.int .i64 0, .slice none 0 0] (0, 0) _ rfl (by (with_reducible repeat (first | refine blk_drewN ?_ _ | refine blk_drew ?_ | refine blk_alloc ?_ _)); refine blk_put (cs := #[.int .i64 0, .slice none 0 0]) ?_ 1 _ rfl; (with_reducible repeat (first | refine blk_drewN ?_ _ | refine blk_drew ?_ | refine blk_alloc ?_ _)); refine blk_put (cs := #[.int .i64 0, .slice none 0 0]) ?_ 0 _ rfl; exact Bz BK201) Try.underlying30 rfl (by kernel_rfl)) rfl ?_
   exact ⟨_, by first | rfl | (simp [errW_none, errW_some] <;> rfl) | (simp [*, errW_none, errW_some] <;> rfl), by first | exact Kd.R_nil _ _ _ _ _ | exact Kd.N_nil _ _ _ _ _ | exact Kd.V_nil _ _ _ _ _ | exact Kd.Q_nil _ _ _ _ _ | exact Kd.S_nil _ _ _ _ _, by exact Lz3 HB GE200 GE201 GE208⟩
def laws_heldEdgeS.l0 : Nat → List (S57) → Int → Int → Option (Int)
 | 0, _, _, _ => none
 | k + 1, x0, x1, x5 => if x5 < (x0.length : Int) then (if 0 ≤ x5 then (if ((rd_T57 x0 x5).f0) = x1 then (if ((rd_T57 x0 x5).f1) = (wrap64 (x1 + 1)) then (laws_heldEdgeS.l0 k x0 (wrap64 ((wrap64 (x1 + 1)) + 1)) (wrap64 (x5 + 1))) else (some (-1))) else (some (-1))) else (none)) else (some x1)
def laws_heldEdgeS.f (k : Nat) (l0 : List (S57)) (a1 : Int) : Option (Int) := laws_heldEdgeS.l0 k l0 a1 0
set_option maxHeartbeats 8000000 in
set_option maxRecDepth 100000 in
theorem laws_heldEdgeS.calls (k : Nat) (A0 : Option Addr) (c0 : Nat) (l0 : List (S57)) (a1 : Int) (r : Int) (w : World) (hr0 : Kd.C k57 w A0 l0.length l0) (hc0 : l0.length ≤ c0) (h : laws_heldEdgeS.f k l0 a1 = some r) :
  Calls Try.prog 71 #[.slice A0 l0.length c0, .int .i64 a1] w fun e w' => e = .returned (.int .i64 r) ∧ Drawn0 w w' := by
 have HR0 := Aside0.mk hr0
 have HC0 := Aside0.mk hc0
 clear hr0 hc0
 have H : (laws_heldEdgeS.l0 k l0 a1 0) = some r := h
 clear h
 have H' := Aside0.mk H
 clear H
 go_enter Try.func71, Try.ntmps71
 go_wp2
 go_loopg [1, 5] k (fun kq v1 v5 w' => ∃ (x1_1 : Int) (x5_1 : Int), v1 = .int .i64 x1_1 ∧ v5 = .int .i64 x5_1 ∧ Aside0 (laws_heldEdgeS.l0 kq l0 x1_1 x5_1 = some r) ∧ Aside0 (kq ≤ k) ∧ Drawn0 w w')
 case atStart => exact ⟨(a1), (0), eqA, eqA, H', ⟨Nat.le_refl _⟩, by repeat (first | exact Drawn0.refl _ | apply Drawn0.step)⟩
 case round =>
  clear H'
  obtain ⟨x1_1, x5_1, rfl, rfl, HA, HK1, ⟨m1, rfl⟩⟩ := hrel
  cases gk with
  | zero => exact absurd HA.out (by simp [laws_heldEdgeS.l0])
  | succ k1 =>
   have H := HA.out
   clear HA
   simp only [laws_heldEdgeS.l0] at H
   by_cases c3 : x5_1 < (l0.length : Int)
   ·rw [if_pos c3] at H
    have c3b0 : decide (x5_1 < (l0.length : Int)) = true := decide_eq_true c3
    clear c3
    by_cases c4 : 0 ≤ x5_1
    ·rw [if_pos c4] at H
     have c4b0 : decide (0 ≤ x5_1) = true := decide_eq_true c4
     clear c4
     by_cases c5 : ((rd_T57 l0 x5_1).f0) = x1_1
     ·rw [if_pos c5] at H
      have c5b0 : (((rd_T57 l0 x5_1).f0) == x1_1) = true := beq_iff_eq.mpr c5
      have c5b1 : (((rd_T57 l0 x5_1).f0) != x1_1) = false := bne_eq_false_iff_eq.mpr c5
      clear c5
      by_cases c6 : ((rd_T57 l0 x5_1).f1) = (wrap64 (x1_1 + 1))
      ·rw [if_pos c6] at H
       have c6b0 : (((rd_T57 l0 x5_1).f1) == (wrap64 (x1_1 + 1))) = true := beq_iff_eq.mpr c6
       have c6b1 : (((rd_T57 l0 x5_1).f1) != (wrap64 (x1_1 + 1))) = false := bne_eq_false_iff_eq.mpr c6
       clear c6
       have H' := Aside0.mk H
       clear H
       have p213 : 0 ≤ (x5_1 : Int) := ofA
       have q213 : x5_1 < (l0.length : Int) := ofA
       obtain ⟨ad213, e213, hx213_0, hx213_1⟩ := at_T57 HR0.out x5_1 p213 q213
       cases e213
       replace p213 := eq_true p213
       replace q213 := eq_true q213
       have p214 : 0 ≤ (x5_1 : Int) := ofA
       have q214 : x5_1 < (l0.length : Int) := ofA
       obtain ⟨ad214, e214, hx214_0, hx214_1⟩ := at_T57 HR0.out x5_1 p214 q214
       obtain rfl : ad213 = ad214 := (by injection e214)
       replace p214 := eq_true p214
       replace q214 := eq_true q214
       go_wp2
       go_roundg k1
       case measure => have := HK1.out; omega
       case rel => exact ⟨(wrap64 ((wrap64 (x1_1 + 1)) + 1)), (wrap64 (x5_1 + 1)), eqA, eqA, H', ⟨by have := HK1.out; omega⟩, by repeat (first | exact Drawn0.refl _ | apply Drawn0.step)⟩
      rw [if_neg c6] at H
      have c6b0 : (((rd_T57 l0 x5_1).f1) == (wrap64 (x1_1 + 1))) = false := beq_eq_false_iff_ne.mpr c6
      have c6b1 : (((rd_T57 l0 x5_1).f1) != (wrap64 (x1_1 + 1))) = true := bne_iff_ne.mpr c6
      obtain rfl := Option.some.inj H
      have p213 : 0 ≤ (x5_1 : Int) := ofA
      have q213 : x5_1 < (l0.length : Int) := ofA
      obtain ⟨ad213, e213, hx213_0, hx213_1⟩ := at_T57 HR0.out x5_1 p213 q213
      cases e213
      replace p213 := eq_true p213
      replace q213 := eq_true q213
      have p214 : 0 ≤ (x5_1 : Int) := ofA
      have q214 : x5_1 < (l0.length : Int) := ofA
      obtain ⟨ad214, e214, hx214_0, hx214_1⟩ := at_T57 HR0.out x5_1 p214 q214
      obtain rfl : ad213 = ad214 := (by injection e214)
      replace p214 := eq_true p214
      replace q214 := eq_true q214
      go_wp2
      go_ret
      exact ⟨eqA, by repeat (first | exact Drawn0.refl _ | apply Drawn0.step)⟩
     rw [if_neg c5] at H
     have c5b0 : (((rd_T57 l0 x5_1).f0) == x1_1) = false := beq_eq_false_iff_ne.mpr c5
     have c5b1 : (((rd_T57 l0 x5_1).f0) != x1_1) = true := bne_iff_ne.mpr c5
     obtain rfl := Option.some.inj H
     have p213 : 0 ≤ (x5_1 : Int) := ofA
     have q213 : x5_1 < (l0.length : Int) := ofA
     obtain ⟨ad213, e213, hx213_0, hx213_1⟩ := at_T57 HR0.out x5_1 p213 q213
     cases e213
     replace p213 := eq_true p213
     replace q213 := eq_true q213
     go_wp2
     go_ret
     exact ⟨eqA, by repeat (first | exact Drawn0.refl _ | apply Drawn0.step)⟩
    rw [if_neg c4] at H
    exact absurd H (by simp)
   rw [if_neg c3] at H
   have c3b0 : decide (x5_1 < (l0.length : Int)) = false := decide_eq_false c3
   clear c3
   obtain rfl := Option.some.inj H
   go_wp2
   go_ret
   exact ⟨eqA, by repeat (first | exact Drawn0.refl _ | apply Drawn0.step)⟩
def laws_heldGraph.f (k : Nat) (a0_0 : Int) (l0_1 : List (S57)) (a1 : Int) : Option (Int) := (laws_heldEdgeS.f k l0_1 a1).bind fun t216 => (if t216 < 0 then (some (-1)) else (some t216))
set_option maxHeartbeats 8000000 in
set_option maxRecDepth 100000 in
theorem laws_heldGraph.calls (k : Nat) (a0_0 : Int) (A0_1 : Option Addr) (c0_1 : Nat) (l0_1 : List (S57)) (a1 : Int) (r : Int) (w : World) (hr0_1 : Kd.C k57 w A0_1 l0_1.length l0_1) (hc0_1 : l0_1.length ≤ c0_1) (h : laws_heldGraph.f k a0_0 l0_1 a1 = some r) :
  Calls Try.prog 35 #[.agg #[.int .i64 a0_0, .slice A0_1 l0_1.length c0_1], .int .i64 a1] w fun e w' => e = .returned (.int .i64 r) ∧ Below w.heap.size w w' := by
 have hu30 := Try.underlying30
 have HR0_1 := Aside0.mk hr0_1
 have HC0_1 := Aside0.mk hc0_1
 clear hr0_1 hc0_1
 have HB := Aside0.mk (Below.refl w.heap.size w)
 have H : ((laws_heldEdgeS.f k l0_1 a1).bind fun t216 => (if t216 < 0 then (some (-1)) else (some t216))) = some r := h
 clear h
 replace H := Option.bind_eq_some_iff.mp H
 obtain ⟨t216, A30, H⟩ := H
 replace H : (if t216 < 0 then (some (-1)) else (some t216)) = some r := H
 have A3 := Aside0.mk A30
 clear A30
 by_cases c4 : t216 < 0
 ·rw [if_pos c4] at H
  have c4b0 : decide (t216 < 0) = true := decide_eq_true c4
  clear c4
  obtain rfl := Option.some.inj H
  go_enter Try.func35, Try.ntmps35
  go_wp2_with (first | ((with_reducible refine gate_dst (N := 2) rfl ?_); refine box_event ?hg (N := 2) ?hd (cs := #[.int .i64 a0_0, .slice A0_1 l0_1.length c0_1]) (t := 30) ?hr ?_; (case hd => rfl); (case hg => rfl); (case hr => first | (go_simp; done) | (go_simp; rfl)); intro gb215 hg w5 hbox hb; have BK215 := Aside0.mk (hbox); have GW215 := Aside0.mk ((by rw [hg]; exact (below_size (Lz HB)) : w.heap.size ≤ gb215)); have GE215 := Aside0.mk ((by rw [hg]; exact (below_size (Lz HB)) : w.heap.size ≤ gb215)); replace HB := Aside0.mk (below_step (Lz HB) hb); clear hb hbox hg; have hcz6_0 : w5.cell? ⟨gb215, 0, none⟩ = some (.int .i64 a0_0) := (blk_cell BK215.out 0).trans rfl; have hcz6_1 : w5.cell? ⟨gb215, 1, none⟩ = some (.slice A0_1 l0_1.length c0_1) := (blk_cell BK215.out 1).trans rfl; have hfz6_0 := blk_frozen BK215.out 0; have hfz6_1 := blk_frozen BK215.out 1) | ((with_reducible refine gate_callee (f := 71) rfl ?_); refine goesM_ (some 8) rfl rfl Try.func71 (by kernel_rfl) rfl #[.slice A0_1 l0_1.length c0_1, .int .i64 a1] rfl ?_; (with_reducible refine (laws_heldEdgeS.calls k _ _ l0_1 a1 t216 _ ?side1 ?side2 A3.out).mono ?_); (case side1 => exact Cz ((Kd.C_below HR0_1.out HB.out))); (case side2 => exact HC0_1.out); rintro e w' ⟨rfl, ⟨nd, rfl⟩⟩; refine ⟨_, rfl, ?_⟩))
  go_ret
  exact ⟨by first | rfl | (simp [errW_none, errW_some] <;> rfl) | (simp [*, errW_none, errW_some] <;> rfl), by exact Lz1 HB GE215⟩
 rw [if_neg c4] at H
 have c4b0 : decide (t216 < 0) = false := decide_eq_false c4
 clear c4
 obtain rfl := Option.some.inj H
 go_enter Try.func35, Try.ntmps35
 go_wp2_with (first | ((with_reducible refine gate_dst (N := 2) rfl ?_); refine box_event ?hg (N := 2) ?hd (cs := #[.int .i64 a0_0, .slice A0_1 l0_1.length c0_1]) (t := 30) ?hr ?_; (case hd => rfl); (case hg => rfl); (case hr => first | (go_simp; done) | (go_simp; rfl)); intro gb215 hg w7 hbox hb; have BK215 := Aside0.mk (hbox); have GW215 := Aside0.mk ((by rw [hg]; exact (below_size (Lz HB)) : w.heap.size ≤ gb215)); have GE215 := Aside0.mk ((by rw [hg]; exact (below_size (Lz HB)) : w.heap.size ≤ gb215)); replace HB := Aside0.mk (below_step (Lz HB) hb); clear hb hbox hg; have hcz8_0 : w7.cell? ⟨gb215, 0, none⟩ = some (.int .i64 a0_0) := (blk_cell BK215.out 0).trans rfl; have hcz8_1 : w7.cell? ⟨gb215, 1, none⟩ = some (.slice A0_1 l0_1.length c0_1) := (blk_cell BK215.out 1).trans rfl; have hfz8_0 := blk_frozen BK215.out 0; have hfz8_1 := blk_frozen BK215.out 1) | ((with_reducible refine gate_callee (f := 71) rfl ?_); refine goesM_ (some 8) rfl rfl Try.func71 (by kernel_rfl) rfl #[.slice A0_1 l0_1.length c0_1, .int .i64 a1] rfl ?_; (with_reducible refine (laws_heldEdgeS.calls k _ _ l0_1 a1 t216 _ ?side1 ?side2 A3.out).mono ?_); (case side1 => exact Cz ((Kd.C_below HR0_1.out HB.out))); (case side2 => exact HC0_1.out); rintro e w' ⟨rfl, ⟨nd, rfl⟩⟩; refine ⟨_, rfl, ?_⟩))
 go_ret
 exact ⟨by first | rfl | (simp [errW_none, errW_some] <;> rfl) | (simp [*, errW_none, errW_some] <;> rfl), by exact Lz1 HB GE215⟩
mutual
def laws_FnExactDropEdge.j0 : Nat → Int → Int → List (S82) → Option (Bool)
 | 0, _, _, _ => none
 | k + 1, x1, x218000, x218001 => (laws_toGraph.f k x218000 x218001).bind fun bt219 => ((spec_DropEdge.f k bt219.1 bt219.2 x1).bind fun bt223 => ((laws_toGraph.f k x218000 x218001).bind fun bt229 => ((impl_DropEdge.f k bt229.1 bt229.2 x1).bind fun bt234 => ((laws_eqGraph.f k bt234.1 bt234.2.1 bt223.1 bt223.2.1).bind fun t240 => (if t240 = true then (laws_FnExactDropEdge.j1 k x1 bt223.2.2 bt234.2.2 (bt234.2.2 != bt223.2.2) x218000 x218001 bt223.1 bt223.2.1 bt229.1 bt229.2 bt234.1 bt234.2.1) else (laws_FnExactDropEdge.j1 k x1 bt223.2.2 bt234.2.2 true x218000 x218001 bt223.1 bt223.2.1 bt229.1 bt229.2 bt234.1 bt234.2.1))))))
def laws_FnExactDropEdge.j1 : Nat → Int → Bool → Bool → Bool → Int → List (S82) → Int → List (S57) → Int → List (S57) → Int → List (S57) → Option (Bool)
 | 0, _, _, _, _, _, _, _, _, _, _, _, _ => none
 | k + 1, x1, x7, x10, x44, x218000, x218001, x229000, x229001, x234000, x234001, x240000, x240001 => if x44 = true then (some false) else (laws_FnExactDropEdge.j2 k x1 x7 x10 x218000 x218001 x229000 x229001 x234000 x234001 x240000 x240001)
def laws_FnExactDropEdge.j2 : Nat → Int → Bool → Bool → Int → List (S82) → Int → List (S57) → Int → List (S57) → Int → List (S57) → Option (Bool)
 | 0, _, _, _, _, _, _, _, _, _, _, _ => none
 | k + 1, x1, x7, x10, x218000, x218001, x229000, x229001, x234000, x234001, x240000, x240001 => (laws_toGraph.f k x218000 x218001).bind fun bt241 => ((laws_eqGraph.f k x234000 x234001 bt241.1 bt241.2).bind fun t245 => (if t245 = true then (laws_FnExactDropEdge.j3 k x1 x7 x10 x218000 x218001 x229000 x229001 x234000 x234001 x240000 x240001) else (some false)))
def laws_FnExactDropEdge.j3 : Nat → Int → Bool → Bool → Int → List (S82) → Int → List (S57) → Int → List (S57) → Int → List (S57) → Option (Bool)
 | 0, _, _, _, _, _, _, _, _, _, _, _ => none
 | k + 1, x1, x7, x10, x218000, x218001, x229000, x229001, x234000, x234001, x240000, x240001 => (laws_markGraph.f k x234000 x234001 1).bind fun bt246 => (if bt246.1 < 0 then (laws_FnExactDropEdge.j4 k x1 x7 true x218000 x218001 x229000 x229001 x240000 x240001) else ((laws_eqGraph.f k x240000 x240001 x229000 x229001).bind fun t248 => (if t248 = true then (laws_FnExactDropEdge.j4 k x1 x7 (x10 != x7) x218000 x218001 x229000 x229001 x240000 x240001) else (laws_FnExactDropEdge.j4 k x1 x7 true x218000 x218001 x229000 x229001 x240000 x240001))))
def laws_FnExactDropEdge.j4 : Nat → Int → Bool → Bool → Int → List (S82) → Int → List (S57) → Int → List (S57) → Option (Bool)
 | 0, _, _, _, _, _, _, _, _, _ => none
 | k + 1, x1, x7, x65, x218000, x218001, x229000, x229001, x240000, x240001 => if x65 = true then (some false) else (laws_FnExactDropEdge.j5 k x1 x7 x218000 x218001 x229000 x229001 x240000 x240001)
def laws_FnExactDropEdge.j5 : Nat → Int → Bool → Int → List (S82) → Int → List (S57) → Int → List (S57) → Option (Bool)
 | 0, _, _, _, _, _, _, _, _ => none
 | k + 1, x1, x7, x218000, x218001, x229000, x229001, x240000, x240001 => (laws_markGraph.f k x240000 x240001 1).bind fun bt249 => ((laws_heldGraph.f k x240000 bt249.2 1).bind fun t251 => (if t251 < 0 then (some false) else (laws_FnExactDropEdge.j6 k x1 x7 bt249.1 t251 x218000 x218001 x229000 x229001 x240000 bt249.2)))
def laws_FnExactDropEdge.j6 : Nat → Int → Bool → Int → Int → Int → List (S82) → Int → List (S57) → Int → List (S57) → Option (Bool)
 | 0, _, _, _, _, _, _, _, _, _, _ => none
 | k + 1, x1, x7, x12, x13, x218000, x218001, x229000, x229001, x240000, x240001 => if x13 = x12 then (laws_FnExactDropEdge.j7 k x1 x7 x12 x218000 x218001 x229000 x229001 x240000 x240001) else (some false)
def laws_FnExactDropEdge.j7 : Nat → Int → Bool → Int → Int → List (S82) → Int → List (S57) → Int → List (S57) → Option (Bool)
 | 0, _, _, _, _, _, _, _, _, _ => none
 | k + 1, x1, x7, x12, x218000, x218001, x229000, x229001, x240000, x240001 => (laws_toGraph.f k x218000 x218001).bind fun bt252 => ((impl_DropEdge.f k bt252.1 bt252.2 x1).bind fun bt256 => ((laws_eqGraph.f k bt256.1 bt256.2.1 x229000 x229001).bind fun t262 => (if t262 = true then (laws_FnExactDropEdge.j8 k x12 (bt256.2.2 != x7) x240000 x240001) else (laws_FnExactDropEdge.j8 k x12 true x240000 x240001))))
def laws_FnExactDropEdge.j8 : Nat → Int → Bool → Int → List (S57) → Option (Bool)
 | 0, _, _, _, _ => none
 | k + 1, x12, x92, x240000, x240001 => if x92 = true then (some false) else (laws_FnExactDropEdge.j9 k x12 x240000 x240001)
def laws_FnExactDropEdge.j9 : Nat → Int → Int → List (S57) → Option (Bool)
 | 0, _, _, _ => none
 | k + 1, x12, x240000, x240001 => (laws_heldGraph.f k x240000 x240001 1).bind fun t263 => (if t263 < 0 then (some false) else (laws_FnExactDropEdge.j10 k x12 t263))
def laws_FnExactDropEdge.j10 : Nat → Int → Int → Option (Bool)
 | 0, _, _ => none
 | k + 1, x12, x13 => if x13 = x12 then (some true) else (some false)
end
def laws_FnExactDropEdge.f (k : Nat) (a0_0 : Int) (l0_1 : List (S82)) (a1 : Int) : Option (Bool) := (laws_szGraph.f a0_0 l0_1 1048576).bind fun t218 => (if t218 < 0 then (some true) else (laws_FnExactDropEdge.j0 k a1 a0_0 l0_1))
set_option maxHeartbeats 8000000 in
set_option maxRecDepth 100000 in
theorem laws_FnExactDropEdge.calls (k : Nat) (a0_0 : Int) (A0_1 : Option Addr) (c0_1 : Nat) (l0_1 : List (S82)) (a1 : Int) (r : Bool) (w : World) (hr0_1 : Kd.C k82 w A0_1 l0_1.length l0_1) (hc0_1 : l0_1.length ≤ c0_1) (h : laws_FnExactDropEdge.f k a0_0 l0_1 a1 = some r) (hR_ : r = true := by rfl) :
  Calls Try.prog 8 #[.agg #[.int .i64 a0_0, .slice A0_1 l0_1.length c0_1], .int .i64 a1] w fun e w' => e = .returned (.bool r) ∧ Below w.heap.size w w' := by
 have HR_ := Aside0.mk hR_
 clear hR_
 have hu24 := Try.underlying24
 have hu30 := Try.underlying30
 have HR0_1 := Aside0.mk hr0_1
 have HC0_1 := Aside0.mk hc0_1
 clear hr0_1 hc0_1
 have HB := Aside0.mk (Below.refl w.heap.size w)
 have H : ((laws_szGraph.f a0_0 l0_1 1048576).bind fun t218 => (if t218 < 0 then (some true) else (laws_FnExactDropEdge.j0 k a1 a0_0 l0_1))) = some r := h
 clear h
 replace H := Option.bind_eq_some_iff.mp H
 obtain ⟨t218, A30, H⟩ := H
 replace H : (if t218 < 0 then (some true) else (laws_FnExactDropEdge.j0 k a1 a0_0 l0_1)) = some r := H
 have A3 := Aside0.mk A30
 clear A30
 have HC4 := Aside0.mk H
 clear H
 go_enter Try.func8, Try.ntmps8
 go_upto_if 20 with (first | ((with_reducible refine gate_dst (N := 2) rfl ?_); refine box_event ?hg (N := 2) ?hd (cs := #[.int .i64 a0_0, .slice A0_1 l0_1.length c0_1]) (t := 24) ?hr ?_; (case hd => rfl); (case hg => rfl); (case hr => first | (go_simp; done) | (go_simp; rfl)); intro gb217 hg w5 hbox hb; have BK217 := Aside0.mk (hbox); have GW217 := Aside0.mk ((by rw [hg]; exact (below_size (Lz HB)) : w.heap.size ≤ gb217)); have GE217 := Aside0.mk ((by rw [hg]; exact (below_size (Lz HB)) : w.heap.size ≤ gb217)); replace HB := Aside0.mk (below_step (Lz HB) hb); clear hb hbox hg; have hcz6_0 : w5.cell? ⟨gb217, 0, none⟩ = some (.int .i64 a0_0) := (blk_cell BK217.out 0).trans rfl; have hcz6_1 : w5.cell? ⟨gb217, 1, none⟩ = some (.slice A0_1 l0_1.length c0_1) := (blk_cell BK217.out 1).trans rfl; have hfz6_0 := blk_frozen BK217.out 0; have hfz6_1 := blk_frozen BK217.out 1) | ((with_reducible refine gate_callee (f := 11) rfl ?_); refine goesM_ (some 18) rfl rfl Try.func11 (by kernel_rfl) rfl #[.agg #[.int .i64 a0_0, .slice A0_1 l0_1.length c0_1], .int .i64 1048576] rfl ?_; (with_reducible refine (laws_szGraph.calls a0_0 _ _ l0_1 1048576 t218 _ ?side1 ?side2 A3.out).mono ?_); (case side1 => exact Cz ((Kd.C_below HR0_1.out HB.out))); (case side2 => exact HC0_1.out); rintro e w7 ⟨rfl, hb⟩; refine ⟨_, rfl, ?_⟩; replace BK217 := Aside0.mk (blk_below (g := gb217) (o := .cells #[.int .i64 a0_0, .slice A0_1 l0_1.length c0_1] 24 (0, 0)) (Bz BK217) hb); replace HB := Aside0.mk (below_step (by exact Lz1 HB GE217) hb); (try clear hb); (try clear hb2); (try clear hk); (try clear hi)))
 (try simp only [Act.put, List.setIfInBounds_toArray, List.set_cons_zero, List.set_cons_succ])
 go_cut [] (fun wc => ∃ (kq : Nat), Aside0 (laws_FnExactDropEdge.j0 kq a1 a0_0 l0_1 = some r) ∧ Aside0 (kq ≤ k) ∧ Aside0 (wc.heap[gb217]? = some (.cells #[.int .i64 a0_0, (.slice A0_1 l0_1.length c0_1)] 24 (0, 0))) ∧ Aside0 (Below w.heap.size w wc))
 case first =>
  have H := HC4.out
  clear HC4
  by_cases c8 : t218 < 0
  ·rw [if_pos c8] at H
   have c8b0 : decide (t218 < 0) = true := decide_eq_true c8
   clear c8
   (first | rw [c8b0] | (simp only [i64_w, i32_w]; rw [c8b0]) | skip)
   obtain rfl := Option.some.inj H
   go_wp2
   go_ret
   exact ⟨by first | rfl | (simp [errW_none, errW_some] <;> rfl) | (simp [*, errW_none, errW_some] <;> rfl), by exact Lz1 HB GE217⟩
  rw [if_neg c8] at H
  have c8b0 : decide (t218 < 0) = false := decide_eq_false c8
  clear c8
  (first | rw [c8b0] | (simp only [i64_w, i32_w]; rw [c8b0]) | skip)
  have H' := Aside0.mk H
  clear H
  go_wp2
  go_meet
  case rel => exact ⟨_, H', ⟨by first | omega | exact Nat.le_refl _⟩, ⟨by exact Bz BK217⟩, ⟨by exact Lz1 HB GE217⟩⟩
 case rest =>
  clear HC4
  try clear c8
  try clear c8b0
  obtain ⟨kq, HA, HJ3, BK217, HB⟩ := hcut
  cases kq with
  | zero => exact absurd HA.out (by simp [laws_FnExactDropEdge.j0])
  | succ kj3 =>
   have H := HA.out
   clear HA
   simp only [laws_FnExactDropEdge.j0] at H
   replace H := Option.bind_eq_some_iff.mp H
   obtain ⟨⟨t219, t220⟩, A90, H⟩ := H
   replace H : ((spec_DropEdge.f kj3 t219 t220 a1).bind fun bt223 => ((laws_toGraph.f kj3 a0_0 l0_1).bind fun bt229 => ((impl_DropEdge.f kj3 bt229.1 bt229.2 a1).bind fun bt234 => ((laws_eqGraph.f kj3 bt234.1 bt234.2.1 bt223.1 bt223.2.1).bind fun t240 => (if t240 = true then (laws_FnExactDropEdge.j1 kj3 a1 bt223.2.2 bt234.2.2 (bt234.2.2 != bt223.2.2) a0_0 l0_1 bt223.1 bt223.2.1 bt229.1 bt229.2 bt234.1 bt234.2.1) else (laws_FnExactDropEdge.j1 kj3 a1 bt223.2.2 bt234.2.2 true a0_0 l0_1 bt223.1 bt223.2.1 bt229.1 bt229.2 bt234.1 bt234.2.1)))))) = some r := H
   have A9 := Aside0.mk A90
   clear A90
   replace H := Option.bind_eq_some_iff.mp H
   obtain ⟨⟨t223, t224, t227⟩, A100, H⟩ := H
   replace H : ((laws_toGraph.f kj3 a0_0 l0_1).bind fun bt229 => ((impl_DropEdge.f kj3 bt229.1 bt229.2 a1).bind fun bt234 => ((laws_eqGraph.f kj3 bt234.1 bt234.2.1 t223 t224).bind fun t240 => (if t240 = true then (laws_FnExactDropEdge.j1 kj3 a1 t227 bt234.2.2 (bt234.2.2 != t227) a0_0 l0_1 t223 t224 bt229.1 bt229.2 bt234.1 bt234.2.1) else (laws_FnExactDropEdge.j1 kj3 a1 t227 bt234.2.2 true a0_0 l0_1 t223 t224 bt229.1 bt229.2 bt234.1 bt234.2.1))))) = some r := H
   have A10 := Aside0.mk A100
   clear A100
   replace H := Option.bind_eq_some_iff.mp H
   obtain ⟨⟨t229, t230⟩, A110, H⟩ := H
   replace H : ((impl_DropEdge.f kj3 t229 t230 a1).bind fun bt234 => ((laws_eqGraph.f kj3 bt234.1 bt234.2.1 t223 t224).bind fun t240 => (if t240 = true then (laws_FnExactDropEdge.j1 kj3 a1 t227 bt234.2.2 (bt234.2.2 != t227) a0_0 l0_1 t223 t224 t229 t230 bt234.1 bt234.2.1) else (laws_FnExactDropEdge.j1 kj3 a1 t227 bt234.2.2 true a0_0 l0_1 t223 t224 t229 t230 bt234.1 bt234.2.1)))) = some r := H
   have A11 := Aside0.mk A110
   clear A110
   replace H := Option.bind_eq_some_iff.mp H
   obtain ⟨⟨t234, t235, t238⟩, A120, H⟩ := H
   replace H : ((laws_eqGraph.f kj3 t234 t235 t223 t224).bind fun t240 => (if t240 = true then (laws_FnExactDropEdge.j1 kj3 a1 t227 t238 (t238 != t227) a0_0 l0_1 t223 t224 t229 t230 t234 t235) else (laws_FnExactDropEdge.j1 kj3 a1 t227 t238 true a0_0 l0_1 t223 t224 t229 t230 t234 t235))) = some r := H
   have A12 := Aside0.mk A120
   clear A120
   have HC13 := Aside0.mk H
   clear H
   have hcz14_0 : wc.cell? ⟨gb217, 0, none⟩ = some (.int .i64 a0_0) := (blk_cell BK217.out 0).trans rfl
   have hcz14_1 : wc.cell? ⟨gb217, 1, none⟩ = some (.slice A0_1 l0_1.length c0_1) := (blk_cell BK217.out 1).trans rfl
   have hfz14_0 := blk_frozen BK217.out 0
   have hfz14_1 := blk_frozen BK217.out 1
   go_upto_region 8 with (first | ((with_reducible refine gate_callee (f := 13) rfl ?_); refine goesM_ (some 23) rfl rfl Try.func13 (by kernel_rfl) rfl #[.agg #[.int .i64 a0_0, .slice A0_1 l0_1.length c0_1]] rfl ?_; (with_reducible refine (laws_toGraph.calls kj3 a0_0 _ _ l0_1 t219 t220 _ ?side1 ?side2 A9.out).mono ?_); (case side1 => exact Cz ((Kd.C_below HR0_1.out HB.out))); (case side2 => exact HC0_1.out); rintro e w15 ⟨v221, rfl, ho0, hb⟩; refine ⟨_, rfl, ?_⟩; have HO222 := Aside0.mk (Kd.R_lower ho0 (below_size (by exact Lz1 HB GE217))); replace BK217 := Aside0.mk (blk_below (g := gb217) (o := .cells #[.int .i64 a0_0, .slice A0_1 l0_1.length c0_1] 24 (0, 0)) (Bz BK217) hb); replace HB := Aside0.mk (below_step (by exact Lz1 HB GE217) hb); (try clear hb); (try clear ho0); obtain ⟨Ao16, co16, eo16⟩ := Kd.R_slice HO222.out; subst eo16) | ((with_reducible refine gate_callee (f := 33) rfl ?_); refine goesM_ (some 25) rfl rfl Try.func33 (by kernel_rfl) rfl #[.agg #[.int .i64 t219, .slice Ao16 t220.length co16], .int .i64 a1] rfl ?_; (with_reducible refine (spec_DropEdge.calls kj3 t219 _ _ t220 a1 t223 t224 t227 _ ?side1 ?side2 A10.out).mono ?_); (case side1 => exact Cz ((Kd.R_reads' HO222.out).2.2)); (case side2 => exact (Kd.R_reads' HO222.out).2.1); rintro e w17 ⟨v225, rfl, ho0, hb⟩; refine ⟨_, rfl, ?_⟩; have HO226 := Aside0.mk (Kd.R_lower (Kd.R_new' ho0 (Kd.R_lt (Rz HO222))) (below_size (by exact Lz1 HB GE217))); replace HO222 := Aside0.mk (Kd.R_elder' (Rz HO222) (Kd.R_base ho0) hb); replace BK217 := Aside0.mk (blk_below (g := gb217) (o := .cells #[.int .i64 a0_0, .slice A0_1 l0_1.length c0_1] 24 (0, 0)) (Bz BK217) hb); replace HB := Aside0.mk (below_step (by exact Lz1 HB GE217) hb); (try clear hb); (try clear ho0)) | ((with_reducible refine gate_dst (N := 6) rfl ?_); refine box_event ?hg (N := 6) ?hd (cs := #[.int .i64 0, .slice none 0 0]) (t := 30) ?hr ?_; (case hd => rfl); (case hg => rfl); (case hr => first | (go_simp; done) | (go_simp; rfl)); intro gb228 hg w18 hbox hb; replace HO222 := Aside0.mk (Kd.R_below (Rz HO222) hb); replace HO226 := Aside0.mk (Kd.R_below (Rz HO226) hb); have BK228 := Aside0.mk (hbox); have GW228 := Aside0.mk ((by rw [hg]; exact (below_size (by exact Lz1 HB GE217)) : w.heap.size ≤ gb228)); have GE228 := Aside0.mk ((by rw [hg]; exact (below_size (by exact Lz1 HB GE217)) : w.heap.size ≤ gb228)); replace HB := Aside0.mk (below_step (by exact Lz1 HB GE217) hb); have NB217_228 := Aside0.mk ((by rw [hg]; exact Nat.ne_of_lt (blk_lt (g := gb217) (o := .cells #[.int .i64 a0_0, .slice A0_1 l0_1.length c0_1] 24 (0, 0)) (Bz BK217)) : gb217 ≠ gb228)); have NB228_217 := Aside0.mk ((by rw [hg]; exact Nat.ne_of_gt (blk_lt (g := gb217) (o := .cells #[.int .i64 a0_0, .slice A0_1 l0_1.length c0_1] 24 (0, 0)) (Bz BK217)) : gb228 ≠ gb217)); replace BK217 := Aside0.mk (blk_below (g := gb217) (o := .cells #[.int .i64 a0_0, .slice A0_1 l0_1.length c0_1] 24 (0, 0)) (Bz BK217) hb); clear hb hbox hg; have hnb19 := NB228_217.out; have hnc19 := NB217_228.out; have hcz20_0 : w18.cell? ⟨gb228, 0, none⟩ = some (.int .i64 0) := (blk_cell BK228.out 0).trans rfl; have hcz20_1 : w18.cell? ⟨gb228, 1, none⟩ = some (.slice none 0 0) := (blk_cell BK228.out 1).trans rfl; have hfz20_0 := blk_frozen BK228.out 0; have hfz20_1 := blk_frozen BK228.out 1; obtain ⟨Ao21, co21, eo21⟩ := Kd.R_slice HO226.out; subst eo21; have hcz22_0 : w18.cell? ⟨gb217, 0, none⟩ = some (.int .i64 a0_0) := (blk_cell BK217.out 0).trans rfl; have hcz22_1 : w18.cell? ⟨gb217, 1, none⟩ = some (.slice A0_1 l0_1.length c0_1) := (blk_cell BK217.out 1).trans rfl; have hfz22_0 := blk_frozen BK217.out 0; have hfz22_1 := blk_frozen BK217.out 1) | ((with_reducible refine gate_callee (f := 13) rfl ?_); refine goesM_ (some 29) rfl rfl Try.func13 (by kernel_rfl) rfl #[.agg #[.int .i64 a0_0, .slice A0_1 l0_1.length c0_1]] rfl ?_; (with_reducible refine (laws_toGraph.calls kj3 a0_0 _ _ l0_1 t229 t230 _ ?side1 ?side2 A11.out).mono ?_); (case side1 => exact Kd.C_below HR0_1.out (by exact Lz2 HB GE217 GE228)); (case side2 => exact HC0_1.out); rintro e w23 ⟨v231, rfl, ho0, hb⟩; refine ⟨_, rfl, ?_⟩; have HO232 := Aside0.mk (Kd.R_lower (Kd.R_new' (Kd.R_new' ho0 (Kd.R_lt (by (with_reducible repeat (first | apply Kd.R_alloc | apply Kd.R_drewN | apply Kd.R_drew)); exact (Kd.R_mono (Kd.R_far (p := ⟨gb228, 1, none⟩) (Kd.R_far (p := ⟨gb228, 0, none⟩) (Kd.R_types HO222.out BK228.out (by decide)) (fun _ hk => hk.2) (.int .i64 t223)) (fun _ hk => hk.2) (.slice Ao21 t224.length co21)) (fun _ h_ => h_.1))))) (Kd.R_lt (by (with_reducible repeat (first | apply Kd.R_alloc | apply Kd.R_drewN | apply Kd.R_drew)); exact (Kd.R_mono (Kd.R_far (p := ⟨gb228, 1, none⟩) (Kd.R_far (p := ⟨gb228, 0, none⟩) (Kd.R_types HO226.out BK228.out (by decide)) (fun _ hk => hk.2) (.int .i64 t223)) (fun _ hk => hk.2) (.slice Ao21 t224.length co21)) (fun _ h_ => h_.1))))) (below_size (by exact Lz2 HB GE217 GE228))); replace HO222 := Aside0.mk (Kd.R_elder' (by (with_reducible repeat (first | apply Kd.R_alloc | apply Kd.R_drewN | apply Kd.R_drew)); exact (Kd.R_mono (Kd.R_far (p := ⟨gb228, 1, none⟩) (Kd.R_far (p := ⟨gb228, 0, none⟩) (Kd.R_types HO222.out BK228.out (by decide)) (fun _ hk => hk.2) (.int .i64 t223)) (fun _ hk => hk.2) (.slice Ao21 t224.length co21)) (fun _ h_ => h_.1))) (Kd.R_base ho0) hb); replace HO226 := Aside0.mk (Kd.R_elder' (by (with_reducible repeat (first | apply Kd.R_alloc | apply Kd.R_drewN | apply Kd.R_drew)); exact (Kd.R_mono (Kd.R_far (p := ⟨gb228, 1, none⟩) (Kd.R_far (p := ⟨gb228, 0, none⟩) (Kd.R_types HO226.out BK228.out (by decide)) (fun _ hk => hk.2) (.int .i64 t223)) (fun _ hk => hk.2) (.slice Ao21 t224.length co21)) (fun _ h_ => h_.1))) (Kd.R_base ho0) hb); replace BK217 := Aside0.mk (blk_below (g := gb217) (o := .cells #[.int .i64 a0_0, .slice A0_1 l0_1.length c0_1] 24 (0, 0)) (by (with_reducible repeat (first | refine blk_drewN ?_ _ | refine blk_drew ?_ | refine blk_alloc ?_ _)); refine blk_far ?_ NB217_228.out _; (with_reducible repeat (first | refine blk_drewN ?_ _ | refine blk_drew ?_ | refine blk_alloc ?_ _)); refine blk_far ?_ NB217_228.out _; exact Bz BK217) hb); replace BK228 := Aside0.mk (blk_below (g := gb228) (o := .cells #[.int .i64 t223, .slice Ao21 t224.length co21] 30 (0, 0)) (by (with_reducible repeat (first | refine blk_drewN ?_ _ | refine blk_drew ?_ | refine blk_alloc ?_ _)); refine blk_put (cs := #[.int .i64 t223, .slice none 0 0]) ?_ 1 _ rfl; (with_reducible repeat (first | refine blk_drewN ?_ _ | refine blk_drew ?_ | refine blk_alloc ?_ _)); refine blk_put (cs := #[.int .i64 0, .slice none 0 0]) ?_ 0 _ rfl; exact Bz BK228) hb); replace HB := Aside0.mk (below_step (by exact Lz2 HB GE217 GE228) hb); (try clear hb); (try clear ho0)) | ((with_reducible refine gate_dst (N := 8) rfl ?_); refine box_event ?hg (N := 8) ?hd (cs := #[.int .i64 0, .slice none 0 0]) (t := 30) ?hr ?_; (case hd => rfl); (case hg => rfl); (case hr => first | (go_simp; done) | (go_simp; rfl)); intro gb233 hg w24 hbox hb; replace HO222 := Aside0.mk (Kd.R_below (Rz HO222) hb); replace HO226 := Aside0.mk (Kd.R_below (Rz HO226) hb); replace HO232 := Aside0.mk (Kd.R_below (Rz HO232) hb); have BK233 := Aside0.mk (hbox); have GW233 := Aside0.mk ((by rw [hg]; exact (below_size (by exact Lz2 HB GE217 GE228)) : w.heap.size ≤ gb233)); have GE233 := Aside0.mk ((by rw [hg]; exact (below_size (by exact Lz2 HB GE217 GE228)) : w.heap.size ≤ gb233)); replace HB := Aside0.mk (below_step (by exact Lz2 HB GE217 GE228) hb); have NB217_233 := Aside0.mk ((by rw [hg]; exact Nat.ne_of_lt (blk_lt (g := gb217) (o := .cells #[.int .i64 a0_0, .slice A0_1 l0_1.length c0_1] 24 (0, 0)) (Bz BK217)) : gb217 ≠ gb233)); have NB233_217 := Aside0.mk ((by rw [hg]; exact Nat.ne_of_gt (blk_lt (g := gb217) (o := .cells #[.int .i64 a0_0, .slice A0_1 l0_1.length c0_1] 24 (0, 0)) (Bz BK217)) : gb233 ≠ gb217)); replace BK217 := Aside0.mk (blk_below (g := gb217) (o := .cells #[.int .i64 a0_0, .slice A0_1 l0_1.length c0_1] 24 (0, 0)) (Bz BK217) hb); have NB228_233 := Aside0.mk ((by rw [hg]; exact Nat.ne_of_lt (blk_lt (g := gb228) (o := .cells #[.int .i64 t223, .slice Ao21 t224.length co21] 30 (0, 0)) (Bz BK228)) : gb228 ≠ gb233)); have NB233_228 := Aside0.mk ((by rw [hg]; exact Nat.ne_of_gt (blk_lt (g := gb228) (o := .cells #[.int .i64 t223, .slice Ao21 t224.length co21] 30 (0, 0)) (Bz BK228)) : gb233 ≠ gb228)); replace BK228 := Aside0.mk (blk_below (g := gb228) (o := .cells #[.int .i64 t223, .slice Ao21 t224.length co21] 30 (0, 0)) (Bz BK228) hb); clear hb hbox hg; have hnb25 := NB233_217.out; have hnc25 := NB217_233.out; have hnb26 := NB233_228.out; have hnc26 := NB228_233.out; have hcz27_0 : w24.cell? ⟨gb233, 0, none⟩ = some (.int .i64 0) := (blk_cell BK233.out 0).trans rfl; have hcz27_1 : w24.cell? ⟨gb233, 1, none⟩ = some (.slice none 0 0) := (blk_cell BK233.out 1).trans rfl; have hfz27_0 := blk_frozen BK233.out 0; have hfz27_1 := blk_frozen BK233.out 1; obtain ⟨Ao28, co28, eo28⟩ := Kd.R_slice HO232.out; subst eo28) | ((with_reducible refine gate_callee (f := 34) rfl ?_); refine goesM_ (some 33) rfl rfl Try.func34 (by kernel_rfl) rfl #[.agg #[.int .i64 t229, .slice Ao28 t230.length co28], .int .i64 a1] rfl ?_; (with_reducible refine (impl_DropEdge.calls kj3 t229 _ _ t230 a1 t234 t235 t238 _ ?side1 ?side2 A12.out).mono ?_); (case side1 => refine (Kd.R_reads' (e := 57) (base := w.heap.size) (ok := fun k_ => ((True ∧ some k_ ≠ (.slice Ao16 t220.length co16 : Value).ownBlock) ∧ some k_ ≠ (.slice Ao21 t224.length co21 : Value).ownBlock)) (n := t230.length) (c := co28) ?_).2.2; exact (by (with_reducible repeat (first | apply Kd.R_alloc | apply Kd.R_drewN | apply Kd.R_drew)); exact (Kd.R_mono (Kd.R_far (p := ⟨gb233, 1, none⟩) (Kd.R_far (p := ⟨gb233, 0, none⟩) (Kd.R_types HO232.out BK233.out (by decide)) (fun _ hk => hk.2) (.int .i64 t229)) (fun _ hk => hk.2) (.slice Ao28 t230.length co28)) (fun _ h_ => h_.1)))); (case side2 => exact (Kd.R_reads' HO232.out).2.1); rintro e w29 ⟨v236, rfl, ho0, hb⟩; refine ⟨_, rfl, ?_⟩; have HO237 := Aside0.mk (Kd.R_lower (Kd.R_new' (Kd.R_new' (Kd.R_new' ho0 (Kd.R_lt (by (with_reducible repeat (first | apply Kd.R_alloc | apply Kd.R_drewN | apply Kd.R_drew)); exact (Kd.R_mono (Kd.R_far (p := ⟨gb233, 1, none⟩) (Kd.R_far (p := ⟨gb233, 0, none⟩) (Kd.R_types HO222.out BK233.out (by decide)) (fun _ hk => hk.2) (.int .i64 t229)) (fun _ hk => hk.2) (.slice Ao28 t230.length co28)) (fun _ h_ => h_.1))))) (Kd.R_lt (by (with_reducible repeat (first | apply Kd.R_alloc | apply Kd.R_drewN | apply Kd.R_drew)); exact (Kd.R_mono (Kd.R_far (p := ⟨gb233, 1, none⟩) (Kd.R_far (p := ⟨gb233, 0, none⟩) (Kd.R_types HO226.out BK233.out (by decide)) (fun _ hk => hk.2) (.int .i64 t229)) (fun _ hk => hk.2) (.slice Ao28 t230.length co28)) (fun _ h_ => h_.1))))) (Kd.R_lt (by (with_reducible repeat (first | apply Kd.R_alloc | apply Kd.R_drewN | apply Kd.R_drew)); exact (Kd.R_mono (Kd.R_far (p := ⟨gb233, 1, none⟩) (Kd.R_far (p := ⟨gb233, 0, none⟩) (Kd.R_types HO232.out BK233.out (by decide)) (fun _ hk => hk.2) (.int .i64 t229)) (fun _ hk => hk.2) (.slice Ao28 t230.length co28)) (fun _ h_ => h_.1))))) (below_size (by exact Lz3 HB GE217 GE228 GE233))); replace HO222 := Aside0.mk (Kd.R_elder' (by (with_reducible repeat (first | apply Kd.R_alloc | apply Kd.R_drewN | apply Kd.R_drew)); exact (Kd.R_mono (Kd.R_far (p := ⟨gb233, 1, none⟩) (Kd.R_far (p := ⟨gb233, 0, none⟩) (Kd.R_types HO222.out BK233.out (by decide)) (fun _ hk => hk.2) (.int .i64 t229)) (fun _ hk => hk.2) (.slice Ao28 t230.length co28)) (fun _ h_ => h_.1))) (Kd.R_base ho0) hb); replace HO226 := Aside0.mk (Kd.R_elder' (by (with_reducible repeat (first | apply Kd.R_alloc | apply Kd.R_drewN | apply Kd.R_drew)); exact (Kd.R_mono (Kd.R_far (p := ⟨gb233, 1, none⟩) (Kd.R_far (p := ⟨gb233, 0, none⟩) (Kd.R_types HO226.out BK233.out (by decide)) (fun _ hk => hk.2) (.int .i64 t229)) (fun _ hk => hk.2) (.slice Ao28 t230.length co28)) (fun _ h_ => h_.1))) (Kd.R_base ho0) hb); replace HO232 := Aside0.mk (Kd.R_elder' (by (with_reducible repeat (first | apply Kd.R_alloc | apply Kd.R_drewN | apply Kd.R_drew)); exact (Kd.R_mono (Kd.R_far (p := ⟨gb233, 1, none⟩) (Kd.R_far (p := ⟨gb233, 0, none⟩) (Kd.R_types HO232.out BK233.out (by decide)) (fun _ hk => hk.2) (.int .i64 t229)) (fun _ hk => hk.2) (.slice Ao28 t230.length co28)) (fun _ h_ => h_.1))) (Kd.R_base ho0) hb); replace BK217 := Aside0.mk (blk_below (g := gb217) (o := .cells #[.int .i64 a0_0, .slice A0_1 l0_1.length c0_1] 24 (0, 0)) (by (with_reducible repeat (first | refine blk_drewN ?_ _ | refine blk_drew ?_ | refine blk_alloc ?_ _)); refine blk_far ?_ NB217_233.out _; (with_reducible repeat (first | refine blk_drewN ?_ _ | refine blk_drew ?_ | refine blk_alloc ?_ _)); refine blk_far ?_ NB217_233.out _; exact Bz BK217) hb); replace BK228 := Aside0.mk (blk_below (g := gb228) (o := .cells #[.int .i64 t223, .slice Ao21 t224.length co21] 30 (0, 0)) (by (with_reducible repeat (first | refine blk_drewN ?_ _ | refine blk_drew ?_ | refine blk_alloc ?_ _)); refine blk_far ?_ NB228_233.out _; (with_reducible repeat (first | refine blk_drewN ?_ _ | refine blk_drew ?_ | refine blk_alloc ?_ _)); refine blk_far ?_ NB228_233.out _; exact Bz BK228) hb); replace BK233 := Aside0.mk (blk_below (g := gb233) (o := .cells #[.int .i64 t229, .slice Ao28 t230.length co28] 30 (0, 0)) (by (with_reducible repeat (first | refine blk_drewN ?_ _ | refine blk_drew ?_ | refine blk_alloc ?_ _)); refine blk_put (cs := #[.int .i64 t229, .slice none 0 0]) ?_ 1 _ rfl; (with_reducible repeat (first | refine blk_drewN ?_ _ | refine blk_drew ?_ | refine blk_alloc ?_ _)); refine blk_put (cs := #[.int .i64 0, .slice none 0 0]) ?_ 0 _ rfl; exact Bz BK233) hb); replace HB := Aside0.mk (below_step (by exact Lz3 HB GE217 GE228 GE233) hb); (try clear hb); (try clear ho0)) | ((with_reducible refine gate_dst (N := 9) rfl ?_); refine box_event ?hg (N := 9) ?hd (cs := #[.int .i64 0, .slice none 0 0]) (t := 30) ?hr ?_; (case hd => rfl); (case hg => rfl); (case hr => first | (go_simp; done) | (go_simp; rfl)); intro gb239 hg w30 hbox hb; replace HO222 := Aside0.mk (Kd.R_below (Rz HO222) hb); replace HO226 := Aside0.mk (Kd.R_below (Rz HO226) hb); replace HO232 := Aside0.mk (Kd.R_below (Rz HO232) hb); replace HO237 := Aside0.mk (Kd.R_below (Rz HO237) hb); have BK239 := Aside0.mk (hbox); have GW239 := Aside0.mk ((by rw [hg]; exact (below_size (by exact Lz3 HB GE217 GE228 GE233)) : w.heap.size ≤ gb239)); have GE239 := Aside0.mk ((by rw [hg]; exact (below_size (by exact Lz3 HB GE217 GE228 GE233)) : w.heap.size ≤ gb239)); replace HB := Aside0.mk (below_step (by exact Lz3 HB GE217 GE228 GE233) hb); have NB217_239 := Aside0.mk ((by rw [hg]; exact Nat.ne_of_lt (blk_lt (g := gb217) (o := .cells #[.int .i64 a0_0, .slice A0_1 l0_1.length c0_1] 24 (0, 0)) (Bz BK217)) : gb217 ≠ gb239)); have NB239_217 := Aside0.mk ((by rw [hg]; exact Nat.ne_of_gt (blk_lt (g := gb217) (o := .cells #[.int .i64 a0_0, .slice A0_1 l0_1.length c0_1] 24 (0, 0)) (Bz BK217)) : gb239 ≠ gb217)); replace BK217 := Aside0.mk (blk_below (g := gb217) (o := .cells #[.int .i64 a0_0, .slice A0_1 l0_1.length c0_1] 24 (0, 0)) (Bz BK217) hb); have NB228_239 := Aside0.mk ((by rw [hg]; exact Nat.ne_of_lt (blk_lt (g := gb228) (o := .cells #[.int .i64 t223, .slice Ao21 t224.length co21] 30 (0, 0)) (Bz BK228)) : gb228 ≠ gb239)); have NB239_228 := Aside0.mk ((by rw [hg]; exact Nat.ne_of_gt (blk_lt (g := gb228) (o := .cells #[.int .i64 t223, .slice Ao21 t224.length co21] 30 (0, 0)) (Bz BK228)) : gb239 ≠ gb228)); replace BK228 := Aside0.mk (blk_below (g := gb228) (o := .cells #[.int .i64 t223, .slice Ao21 t224.length co21] 30 (0, 0)) (Bz BK228) hb); have NB233_239 := Aside0.mk ((by rw [hg]; exact Nat.ne_of_lt (blk_lt (g := gb233) (o := .cells #[.int .i64 t229, .slice Ao28 t230.length co28] 30 (0, 0)) (Bz BK233)) : gb233 ≠ gb239)); have NB239_233 := Aside0.mk ((by rw [hg]; exact Nat.ne_of_gt (blk_lt (g := gb233) (o := .cells #[.int .i64 t229, .slice Ao28 t230.length co28] 30 (0, 0)) (Bz BK233)) : gb239 ≠ gb233)); replace BK233 := Aside0.mk (blk_below (g := gb233) (o := .cells #[.int .i64 t229, .slice Ao28 t230.length co28] 30 (0, 0)) (Bz BK233) hb); clear hb hbox hg; have hnb31 := NB239_217.out; have hnc31 := NB217_239.out; have hnb32 := NB239_228.out; have hnc32 := NB228_239.out; have hnb33 := NB239_233.out; have hnc33 := NB233_239.out; have hcz34_0 : w30.cell? ⟨gb239, 0, none⟩ = some (.int .i64 0) := (blk_cell BK239.out 0).trans rfl; have hcz34_1 : w30.cell? ⟨gb239, 1, none⟩ = some (.slice none 0 0) := (blk_cell BK239.out 1).trans rfl; have hfz34_0 := blk_frozen BK239.out 0; have hfz34_1 := blk_frozen BK239.out 1; obtain ⟨Ao35, co35, eo35⟩ := Kd.R_slice HO237.out; subst eo35))
   (try simp only [Act.put, List.setIfInBounds_toArray, List.set_cons_zero, List.set_cons_succ])
   go_cut [44] (fun v44 wc => ∃ (kq : Nat) (x44_12 : Bool), v44 = .bool x44_12 ∧ Aside0 (laws_FnExactDropEdge.j1 kq a1 t227 t238 x44_12 a0_0 l0_1 t223 t224 t229 t230 t234 t235 = some r) ∧ Aside0 (kq ≤ kj3) ∧ Aside0 (Kd.R k57 57 wc w.heap.size (fun k_ => some k_ ≠ ((.slice Ao28 t230.length co28) : Value).ownBlock ∧ some k_ ≠ ((.slice Ao35 t235.length co35) : Value).ownBlock) (.slice Ao21 t224.length co21) t224) ∧ Aside0 (Kd.R k57 57 wc w.heap.size (fun k_ => some k_ ≠ ((.slice Ao21 t224.length co21) : Value).ownBlock ∧ some k_ ≠ ((.slice Ao35 t235.length co35) : Value).ownBlock) (.slice Ao28 t230.length co28) t230) ∧ Aside0 (Kd.R k57 57 wc w.heap.size (fun k_ => some k_ ≠ ((.slice Ao21 t224.length co21) : Value).ownBlock ∧ some k_ ≠ ((.slice Ao28 t230.length co28) : Value).ownBlock) (.slice Ao35 t235.length co35) t235) ∧ Aside0 (wc.heap[gb217]? = some (.cells #[.int .i64 a0_0, (.slice A0_1 l0_1.length c0_1)] 24 (0, 0))) ∧ Aside0 (wc.heap[gb228]? = some (.cells #[.int .i64 t223, (.slice Ao21 t224.length co21)] 30 (0, 0))) ∧ Aside0 (wc.heap[gb233]? = some (.cells #[.int .i64 t229, (.slice Ao28 t230.length co28)] 30 (0, 0))) ∧ Aside0 (wc.heap[gb239]? = some (.cells #[.int .i64 t234, (.slice Ao35 t235.length co35)] 30 (0, 0))) ∧ Aside0 (Below w.heap.size w wc))
   case first =>
    have H := HC13.out
    clear HC13
    replace H := Option.bind_eq_some_iff.mp H
    obtain ⟨t240, A360, H⟩ := H
    replace H : (if t240 = true then (laws_FnExactDropEdge.j1 kj3 a1 t227 t238 (t238 != t227) a0_0 l0_1 t223 t224 t229 t230 t234 t235) else (laws_FnExactDropEdge.j1 kj3 a1 t227 t238 true a0_0 l0_1 t223 t224 t229 t230 t234 t235)) = some r := H
    have A36 := Aside0.mk A360
    clear A360
    by_cases c37 : t240 = true
    ·subst c37
     have H1 : (laws_FnExactDropEdge.j1 kj3 a1 t227 t238 (t238 != t227) a0_0 l0_1 t223 t224 t229 t230 t234 t235) = some r := by rw [if_pos rfl] at H; exact H
     clear H
     have H := H1
     clear H1
     have H' := Aside0.mk H
     clear H
     have hnb38 := NB239_217.out
     have hnc38 := NB217_239.out
     have hnb39 := NB239_228.out
     have hnc39 := NB228_239.out
     have hnb40 := NB239_233.out
     have hnc40 := NB233_239.out
     have hcz41_0 : w30.cell? ⟨gb239, 0, none⟩ = some (.int .i64 0) := (blk_cell BK239.out 0).trans rfl
     have hcz41_1 : w30.cell? ⟨gb239, 1, none⟩ = some (.slice none 0 0) := (blk_cell BK239.out 1).trans rfl
     have hfz41_0 := blk_frozen BK239.out 0
     have hfz41_1 := blk_frozen BK239.out 1
     have hnb42 := NB228_217.out
     have hnc42 := NB217_228.out
     have hnb43 := NB228_233.out
     have hnc43 := NB233_228.out
     have hcz44_0 : w30.cell? ⟨gb228, 0, none⟩ = some (.int .i64 t223) := (blk_cell BK228.out 0).trans rfl
     have hcz44_1 : w30.cell? ⟨gb228, 1, none⟩ = some (.slice Ao21 t224.length co21) := (blk_cell BK228.out 1).trans rfl
     have hfz44_0 := blk_frozen BK228.out 0
     have hfz44_1 := blk_frozen BK228.out 1
     go_wp2_with (first | ((with_reducible refine gate_callee (f := 16) rfl ?_); refine goesM_ (some 38) rfl rfl Try.func16 (by kernel_rfl) rfl #[.agg #[.int .i64 t234, .slice Ao35 t235.length co35], .agg #[.int .i64 t223, .slice Ao21 t224.length co21]] rfl ?_; (with_reducible refine (laws_eqGraph.calls kj3 t234 _ _ t235 t223 _ _ t224 true _ ?side1 ?side2 ?side3 ?side4 A36.out).mono ?_); (case side1 => refine (Kd.R_reads' (e := 57) (base := w.heap.size) (ok := fun k_ => (((True ∧ some k_ ≠ (.slice Ao16 t220.length co16 : Value).ownBlock) ∧ some k_ ≠ (.slice Ao21 t224.length co21 : Value).ownBlock) ∧ some k_ ≠ (.slice Ao28 t230.length co28 : Value).ownBlock)) (n := t235.length) (c := co35) ?_).2.2; exact (by (with_reducible repeat (first | apply Kd.R_alloc | apply Kd.R_drewN | apply Kd.R_drew)); exact (Kd.R_mono (Kd.R_far (p := ⟨gb239, 1, none⟩) (Kd.R_far (p := ⟨gb239, 0, none⟩) (Kd.R_types HO237.out BK239.out (by decide)) (fun _ hk => hk.2) (.int .i64 t234)) (fun _ hk => hk.2) (.slice Ao35 t235.length co35)) (fun _ h_ => h_.1)))); (case side2 => exact (Kd.R_reads' HO237.out).2.1); (case side3 => refine (Kd.R_reads' (e := 57) (base := w.heap.size) (ok := fun k_ => (((True ∧ some k_ ≠ (.slice Ao16 t220.length co16 : Value).ownBlock) ∧ some k_ ≠ (.slice Ao28 t230.length co28 : Value).ownBlock) ∧ some k_ ≠ (.slice Ao35 t235.length co35 : Value).ownBlock)) (n := t224.length) (c := co21) ?_).2.2; exact (by (with_reducible repeat (first | apply Kd.R_alloc | apply Kd.R_drewN | apply Kd.R_drew)); exact (Kd.R_mono (Kd.R_far (p := ⟨gb239, 1, none⟩) (Kd.R_far (p := ⟨gb239, 0, none⟩) (Kd.R_types HO226.out BK239.out (by decide)) (fun _ hk => hk.2) (.int .i64 t234)) (fun _ hk => hk.2) (.slice Ao35 t235.length co35)) (fun _ h_ => h_.1)))); (case side4 => exact (Kd.R_reads' HO226.out).2.1); rintro e w45 ⟨rfl, hb⟩; refine ⟨_, rfl, ?_⟩; replace HO222 := Aside0.mk (Kd.R_below (by (with_reducible repeat (first | apply Kd.R_alloc | apply Kd.R_drewN | apply Kd.R_drew)); exact (Kd.R_mono (Kd.R_far (p := ⟨gb239, 1, none⟩) (Kd.R_far (p := ⟨gb239, 0, none⟩) (Kd.R_types HO222.out BK239.out (by decide)) (fun _ hk => hk.2) (.int .i64 t234)) (fun _ hk => hk.2) (.slice Ao35 t235.length co35)) (fun _ h_ => h_.1))) hb); replace HO226 := Aside0.mk (Kd.R_below (by (with_reducible repeat (first | apply Kd.R_alloc | apply Kd.R_drewN | apply Kd.R_drew)); exact (Kd.R_mono (Kd.R_far (p := ⟨gb239, 1, none⟩) (Kd.R_far (p := ⟨gb239, 0, none⟩) (Kd.R_types HO226.out BK239.out (by decide)) (fun _ hk => hk.2) (.int .i64 t234)) (fun _ hk => hk.2) (.slice Ao35 t235.length co35)) (fun _ h_ => h_.1))) hb); replace HO232 := Aside0.mk (Kd.R_below (by (with_reducible repeat (first | apply Kd.R_alloc | apply Kd.R_drewN | apply Kd.R_drew)); exact (Kd.R_mono (Kd.R_far (p := ⟨gb239, 1, none⟩) (Kd.R_far (p := ⟨gb239, 0, none⟩) (Kd.R_types HO232.out BK239.out (by decide)) (fun _ hk => hk.2) (.int .i64 t234)) (fun _ hk => hk.2) (.slice Ao35 t235.length co35)) (fun _ h_ => h_.1))) hb); replace HO237 := Aside0.mk (Kd.R_below (by (with_reducible repeat (first | apply Kd.R_alloc | apply Kd.R_drewN | apply Kd.R_drew)); exact (Kd.R_mono (Kd.R_far (p := ⟨gb239, 1, none⟩) (Kd.R_far (p := ⟨gb239, 0, none⟩) (Kd.R_types HO237.out BK239.out (by decide)) (fun _ hk => hk.2) (.int .i64 t234)) (fun _ hk => hk.2) (.slice Ao35 t235.length co35)) (fun _ h_ => h_.1))) hb); replace BK217 := Aside0.mk (blk_below (g := gb217) (o := .cells #[.int .i64 a0_0, .slice A0_1 l0_1.length c0_1] 24 (0, 0)) (by (with_reducible repeat (first | refine blk_drewN ?_ _ | refine blk_drew ?_ | refine blk_alloc ?_ _)); refine blk_far ?_ NB217_239.out _; (with_reducible repeat (first | refine blk_drewN ?_ _ | refine blk_drew ?_ | refine blk_alloc ?_ _)); refine blk_far ?_ NB217_239.out _; exact Bz BK217) hb); replace BK228 := Aside0.mk (blk_below (g := gb228) (o := .cells #[.int .i64 t223, .slice Ao21 t224.length co21] 30 (0, 0)) (by (with_reducible repeat (first | refine blk_drewN ?_ _ | refine blk_drew ?_ | refine blk_alloc ?_ _)); refine blk_far ?_ NB228_239.out _; (with_reducible repeat (first | refine blk_drewN ?_ _ | refine blk_drew ?_ | refine blk_alloc ?_ _)); refine blk_far ?_ NB228_239.out _; exact Bz BK228) hb); replace BK233 := Aside0.mk (blk_below (g := gb233) (o := .cells #[.int .i64 t229, .slice Ao28 t230.length co28] 30 (0, 0)) (by (with_reducible repeat (first | refine blk_drewN ?_ _ | refine blk_drew ?_ | refine blk_alloc ?_ _)); refine blk_far ?_ NB233_239.out _; (with_reducible repeat (first | refine blk_drewN ?_ _ | refine blk_drew ?_ | refine blk_alloc ?_ _)); refine blk_far ?_ NB233_239.out _; exact Bz BK233) hb); replace BK239 := Aside0.mk (blk_below (g := gb239) (o := .cells #[.int .i64 t234, .slice Ao35 t235.length co35] 30 (0, 0)) (by (with_reducible repeat (first | refine blk_drewN ?_ _ | refine blk_drew ?_ | refine blk_alloc ?_ _)); refine blk_put (cs := #[.int .i64 t234, .slice none 0 0]) ?_ 1 _ rfl; (with_reducible repeat (first | refine blk_drewN ?_ _ | refine blk_drew ?_ | refine blk_alloc ?_ _)); refine blk_put (cs := #[.int .i64 0, .slice none 0 0]) ?_ 0 _ rfl; exact Bz BK239) hb); replace HB := Aside0.mk (below_step (by first | exact Lz HB | repeat (first | (with_reducible first | exact HB.out | apply below_alloc | apply pw_below_drewN | apply below_drew1 | refine below_set ?_ GE217.out | refine below_set ?_ GE228.out | refine below_set ?_ GE233.out | refine below_set ?_ GE239.out) | exact HB.out)) hb); (try clear hb); (try clear hb2); (try clear hk); (try clear hi)))
     go_meet
     case rel => exact ⟨_, ((t238 != t227)), eqA, H', ⟨by have := HJ3.out; first | omega | exact Nat.le_refl _⟩, ⟨by (with_reducible repeat (first | apply Kd.R_alloc | apply Kd.R_drewN | apply Kd.R_drew)); exact Kd.R_mono HO226.out (fun _ hk => ⟨hk.1.2, hk.2⟩)⟩, ⟨by (with_reducible repeat (first | apply Kd.R_alloc | apply Kd.R_drewN | apply Kd.R_drew)); exact Kd.R_mono HO232.out (fun _ hk => ⟨hk.1.2, hk.2⟩)⟩, ⟨by (with_reducible repeat (first | apply Kd.R_alloc | apply Kd.R_drewN | apply Kd.R_drew)); exact Kd.R_mono HO237.out (fun _ hk => ⟨hk.1.2, hk.2⟩)⟩, ⟨by exact Bz BK217⟩, ⟨by exact Bz BK228⟩, ⟨by exact Bz BK233⟩, ⟨by exact Bz BK239⟩, ⟨by first | exact Lz HB | repeat (first | (with_reducible first | exact HB.out | apply below_alloc | apply pw_below_drewN | apply below_drew1 | refine below_set ?_ GE217.out | refine below_set ?_ GE228.out | refine below_set ?_ GE233.out | refine below_set ?_ GE239.out) | exact HB.out)⟩⟩
    replace c37 := Bool.eq_false_iff.mpr c37
    subst c37
    have H1 : (laws_FnExactDropEdge.j1 kj3 a1 t227 t238 true a0_0 l0_1 t223 t224 t229 t230 t234 t235) = some r := by rw [if_neg (show ¬ (false = true) by decide)] at H; exact H
    clear H
    have H := H1
    clear H1
    have H' := Aside0.mk H
    clear H
    have hnb46 := NB239_217.out
    have hnc46 := NB217_239.out
    have hnb47 := NB239_228.out
    have hnc47 := NB228_239.out
    have hnb48 := NB239_233.out
    have hnc48 := NB233_239.out
    have hcz49_0 : w30.cell? ⟨gb239, 0, none⟩ = some (.int .i64 0) := (blk_cell BK239.out 0).trans rfl
    have hcz49_1 : w30.cell? ⟨gb239, 1, none⟩ = some (.slice none 0 0) := (blk_cell BK239.out 1).trans rfl
    have hfz49_0 := blk_frozen BK239.out 0
    have hfz49_1 := blk_frozen BK239.out 1
    have hnb50 := NB228_217.out
    have hnc50 := NB217_228.out
    have hnb51 := NB228_233.out
    have hnc51 := NB233_228.out
    have hcz52_0 : w30.cell? ⟨gb228, 0, none⟩ = some (.int .i64 t223) := (blk_cell BK228.out 0).trans rfl
    have hcz52_1 : w30.cell? ⟨gb228, 1, none⟩ = some (.slice Ao21 t224.length co21) := (blk_cell BK228.out 1).trans rfl
    have hfz52_0 := blk_frozen BK228.out 0
    have hfz52_1 := blk_frozen BK228.out 1
    go_wp2_with (first | ((with_reducible refine gate_callee (f := 16) rfl ?_); refine goesM_ (some 38) rfl rfl Try.func16 (by kernel_rfl) rfl #[.agg #[.int .i64 t234, .slice Ao35 t235.length co35], .agg #[.int .i64 t223, .slice Ao21 t224.length co21]] rfl ?_; (with_reducible refine (laws_eqGraph.calls kj3 t234 _ _ t235 t223 _ _ t224 false _ ?side1 ?side2 ?side3 ?side4 A36.out).mono ?_); (case side1 => refine (Kd.R_reads' (e := 57) (base := w.heap.size) (ok := fun k_ => (((True ∧ some k_ ≠ (.slice Ao16 t220.length co16 : Value).ownBlock) ∧ some k_ ≠ (.slice Ao21 t224.length co21 : Value).ownBlock) ∧ some k_ ≠ (.slice Ao28 t230.length co28 : Value).ownBlock)) (n := t235.length) (c := co35) ?_).2.2; exact (by (with_reducible repeat (first | apply Kd.R_alloc | apply Kd.R_drewN | apply Kd.R_drew)); exact (Kd.R_mono (Kd.R_far (p := ⟨gb239, 1, none⟩) (Kd.R_far (p := ⟨gb239, 0, none⟩) (Kd.R_types HO237.out BK239.out (by decide)) (fun _ hk => hk.2) (.int .i64 t234)) (fun _ hk => hk.2) (.slice Ao35 t235.length co35)) (fun _ h_ => h_.1)))); (case side2 => exact (Kd.R_reads' HO237.out).2.1); (case side3 => refine (Kd.R_reads' (e := 57) (base := w.heap.size) (ok := fun k_ => (((True ∧ some k_ ≠ (.slice Ao16 t220.length co16 : Value).ownBlock) ∧ some k_ ≠ (.slice Ao28 t230.length co28 : Value).ownBlock) ∧ some k_ ≠ (.slice Ao35 t235.length co35 : Value).ownBlock)) (n := t224.length) (c := co21) ?_).2.2; exact (by (with_reducible repeat (first | apply Kd.R_alloc | apply Kd.R_drewN | apply Kd.R_drew)); exact (Kd.R_mono (Kd.R_far (p := ⟨gb239, 1, none⟩) (Kd.R_far (p := ⟨gb239, 0, none⟩) (Kd.R_types HO226.out BK239.out (by decide)) (fun _ hk => hk.2) (.int .i64 t234)) (fun _ hk => hk.2) (.slice Ao35 t235.length co35)) (fun _ h_ => h_.1)))); (case side4 => exact (Kd.R_reads' HO226.out).2.1); rintro e w53 ⟨rfl, hb⟩; refine ⟨_, rfl, ?_⟩; replace HO222 := Aside0.mk (Kd.R_below (by (with_reducible repeat (first | apply Kd.R_alloc | apply Kd.R_drewN | apply Kd.R_drew)); exact (Kd.R_mono (Kd.R_far (p := ⟨gb239, 1, none⟩) (Kd.R_far (p := ⟨gb239, 0, none⟩) (Kd.R_types HO222.out BK239.out (by decide)) (fun _ hk => hk.2) (.int .i64 t234)) (fun _ hk => hk.2) (.slice Ao35 t235.length co35)) (fun _ h_ => h_.1))) hb); replace HO226 := Aside0.mk (Kd.R_below (by (with_reducible repeat (first | apply Kd.R_alloc | apply Kd.R_drewN | apply Kd.R_drew)); exact (Kd.R_mono (Kd.R_far (p := ⟨gb239, 1, none⟩) (Kd.R_far (p := ⟨gb239, 0, none⟩) (Kd.R_types HO226.out BK239.out (by decide)) (fun _ hk => hk.2) (.int .i64 t234)) (fun _ hk => hk.2) (.slice Ao35 t235.length co35)) (fun _ h_ => h_.1))) hb); replace HO232 := Aside0.mk (Kd.R_below (by (with_reducible repeat (first | apply Kd.R_alloc | apply Kd.R_drewN | apply Kd.R_drew)); exact (Kd.R_mono (Kd.R_far (p := ⟨gb239, 1, none⟩) (Kd.R_far (p := ⟨gb239, 0, none⟩) (Kd.R_types HO232.out BK239.out (by decide)) (fun _ hk => hk.2) (.int .i64 t234)) (fun _ hk => hk.2) (.slice Ao35 t235.length co35)) (fun _ h_ => h_.1))) hb); replace HO237 := Aside0.mk (Kd.R_below (by (with_reducible repeat (first | apply Kd.R_alloc | apply Kd.R_drewN | apply Kd.R_drew)); exact (Kd.R_mono (Kd.R_far (p := ⟨gb239, 1, none⟩) (Kd.R_far (p := ⟨gb239, 0, none⟩) (Kd.R_types HO237.out BK239.out (by decide)) (fun _ hk => hk.2) (.int .i64 t234)) (fun _ hk => hk.2) (.slice Ao35 t235.length co35)) (fun _ h_ => h_.1))) hb); replace BK217 := Aside0.mk (blk_below (g := gb217) (o := .cells #[.int .i64 a0_0, .slice A0_1 l0_1.length c0_1] 24 (0, 0)) (by (with_reducible repeat (first | refine blk_drewN ?_ _ | refine blk_drew ?_ | refine blk_alloc ?_ _)); refine blk_far ?_ NB217_239.out _; (with_reducible repeat (first | refine blk_drewN ?_ _ | refine blk_drew ?_ | refine blk_alloc ?_ _)); refine blk_far ?_ NB217_239.out _; exact Bz BK217) hb); replace BK228 := Aside0.mk (blk_below (g := gb228) (o := .cells #[.int .i64 t223, .slice Ao21 t224.length co21] 30 (0, 0)) (by (with_reducible repeat (first | refine blk_drewN ?_ _ | refine blk_drew ?_ | refine blk_alloc ?_ _)); refine blk_far ?_ NB228_239.out _; (with_reducible repeat (first | refine blk_drewN ?_ _ | refine blk_drew ?_ | refine blk_alloc ?_ _)); refine blk_far ?_ NB228_239.out _; exact Bz BK228) hb); replace BK233 := Aside0.mk (blk_below (g := gb233) (o := .cells #[.int .i64 t229, .slice Ao28 t230.length co28] 30 (0, 0)) (by (with_reducible repeat (first | refine blk_drewN ?_ _ | refine blk_drew ?_ | refine blk_alloc ?_ _)); refine blk_far ?_ NB233_239.out _; (with_reducible repeat (first | refine blk_drewN ?_ _ | refine blk_drew ?_ | refine blk_alloc ?_ _)); refine blk_far ?_ NB233_239.out _; exact Bz BK233) hb); replace BK239 := Aside0.mk (blk_below (g := gb239) (o := .cells #[.int .i64 t234, .slice Ao35 t235.length co35] 30 (0, 0)) (by (with_reducible repeat (first | refine blk_drewN ?_ _ | refine blk_drew ?_ | refine blk_alloc ?_ _)); refine blk_put (cs := #[.int .i64 t234, .slice none 0 0]) ?_ 1 _ rfl; (with_reducible repeat (first | refine blk_drewN ?_ _ | refine blk_drew ?_ | refine blk_alloc ?_ _)); refine blk_put (cs := #[.int .i64 0, .slice none 0 0]) ?_ 0 _ rfl; exact Bz BK239) hb); replace HB := Aside0.mk (below_step (by first | exact Lz HB | repeat (first | (with_reducible first | exact HB.out | apply below_alloc | apply pw_below_drewN | apply below_drew1 | refine below_set ?_ GE217.out | refine below_set ?_ GE228.out | refine below_set ?_ GE233.out | refine below_set ?_ GE239.out) | exact HB.out)) hb); (try clear hb); (try clear hb2); (try clear hk); (try clear hi)))
    go_meet
    case rel => exact ⟨_, (true), eqA, H', ⟨by have := HJ3.out; first | omega | exact Nat.le_refl _⟩, ⟨by (with_reducible repeat (first | apply Kd.R_alloc | apply Kd.R_drewN | apply Kd.R_drew)); exact Kd.R_mono HO226.out (fun _ hk => ⟨hk.1.2, hk.2⟩)⟩, ⟨by (with_reducible repeat (first | apply Kd.R_alloc | apply Kd.R_drewN | apply Kd.R_drew)); exact Kd.R_mono HO232.out (fun _ hk => ⟨hk.1.2, hk.2⟩)⟩, ⟨by (with_reducible repeat (first | apply Kd.R_alloc | apply Kd.R_drewN | apply Kd.R_drew)); exact Kd.R_mono HO237.out (fun _ hk => ⟨hk.1.2, hk.2⟩)⟩, ⟨by exact Bz BK217⟩, ⟨by exact Bz BK228⟩, ⟨by exact Bz BK233⟩, ⟨by exact Bz BK239⟩, ⟨by first | exact Lz HB | repeat (first | (with_reducible first | exact HB.out | apply below_alloc | apply pw_below_drewN | apply below_drew1 | refine below_set ?_ GE217.out | refine below_set ?_ GE228.out | refine below_set ?_ GE233.out | refine below_set ?_ GE239.out) | exact HB.out)⟩⟩
   case rest =>
    clear HC13
    try clear c8
    try clear c8b0
    try clear c37
    obtain ⟨kq, x44_12, rfl, HA, HJ12, HO_229001, HO_234001, HO_240001, BK217, BK228, BK233, BK239, HB⟩ := hcut
    cases kq with
    | zero => exact absurd HA.out (by simp [laws_FnExactDropEdge.j1])
    | succ kj12 =>
     have H := HA.out
     clear HA
     simp only [laws_FnExactDropEdge.j1] at H
     have HC54 := Aside0.mk H
     clear H
     go_upto_if 44 with (fail)
     go_cut [] (fun wc => ∃ (kq : Nat), Aside0 (laws_FnExactDropEdge.j2 kq a1 t227 t238 a0_0 l0_1 t223 t224 t229 t230 t234 t235 = some r) ∧ Aside0 (kq ≤ kj12) ∧ Aside0 (Kd.R k57 57 wc w.heap.size (fun k_ => some k_ ≠ ((.slice Ao28 t230.length co28) : Value).ownBlock ∧ some k_ ≠ ((.slice Ao35 t235.length co35) : Value).ownBlock) (.slice Ao21 t224.length co21) t224) ∧ Aside0 (Kd.R k57 57 wc w.heap.size (fun k_ => some k_ ≠ ((.slice Ao21 t224.length co21) : Value).ownBlock ∧ some k_ ≠ ((.slice Ao35 t235.length co35) : Value).ownBlock) (.slice Ao28 t230.length co28) t230) ∧ Aside0 (Kd.R k57 57 wc w.heap.size (fun k_ => some k_ ≠ ((.slice Ao21 t224.length co21) : Value).ownBlock ∧ some k_ ≠ ((.slice Ao28 t230.length co28) : Value).ownBlock) (.slice Ao35 t235.length co35) t235) ∧ Aside0 (wc.heap[gb217]? = some (.cells #[.int .i64 a0_0, (.slice A0_1 l0_1.length c0_1)] 24 (0, 0))) ∧ Aside0 (wc.heap[gb228]? = some (.cells #[.int .i64 t223, (.slice Ao21 t224.length co21)] 30 (0, 0))) ∧ Aside0 (wc.heap[gb233]? = some (.cells #[.int .i64 t229, (.slice Ao28 t230.length co28)] 30 (0, 0))) ∧ Aside0 (wc.heap[gb239]? = some (.cells #[.int .i64 t234, (.slice Ao35 t235.length co35)] 30 (0, 0))) ∧ Aside0 (Below w.heap.size w wc))
     case first =>
      have H := HC54.out
      clear HC54
      by_cases c55 : x44_12 = true
      ·subst c55
       have H1 : (some false) = some r := by rw [if_pos rfl] at H; exact H
       clear H
       have H := H1
       clear H1
       exact absurd (Option.some.inj H) (by rw [HR_.out]; decide)
      replace c55 := Bool.eq_false_iff.mpr c55
      subst c55
      have H1 : (laws_FnExactDropEdge.j2 kj12 a1 t227 t238 a0_0 l0_1 t223 t224 t229 t230 t234 t235) = some r := by rw [if_neg (show ¬ (false = true) by decide)] at H; exact H
      clear H
      have H := H1
      clear H1
      have H' := Aside0.mk H
      clear H
      go_wp2
      go_meet
      case rel => exact ⟨_, H', ⟨by have := HJ3.out; have := HJ12.out; first | omega | exact Nat.le_refl _⟩, ⟨by exact Rz HO_229001⟩, ⟨by exact Rz HO_234001⟩, ⟨by exact Rz HO_240001⟩, ⟨by exact Bz BK217⟩, ⟨by exact Bz BK228⟩, ⟨by exact Bz BK233⟩, ⟨by exact Bz BK239⟩, ⟨by first | exact Lz HB | repeat (first | (with_reducible first | exact HB.out | apply below_alloc | apply pw_below_drewN | apply below_drew1 | refine below_set ?_ GE217.out | refine below_set ?_ GE228.out | refine below_set ?_ GE233.out | refine below_set ?_ GE239.out) | exact HB.out)⟩⟩
     case rest =>
      clear HC54
      try clear c8
      try clear c8b0
      try clear c37
      try clear c55
      obtain ⟨kq, HA, HJ53, HO_229001, HO_234001, HO_240001, BK217, BK228, BK233, BK239, HB⟩ := hcut
      cases kq with
      | zero => exact absurd HA.out (by simp [laws_FnExactDropEdge.j2])
      | succ kj53 =>
       have H := HA.out
       clear HA
       simp only [laws_FnExactDropEdge.j2] at H
       replace H := Option.bind_eq_some_iff.mp H
       obtain ⟨⟨t241, t242⟩, A560, H⟩ := H
       replace H : ((laws_eqGraph.f kj53 t229 t230 t241 t242).bind fun t245 => (if t245 = true then (laws_FnExactDropEdge.j3 kj53 a1 t227 t238 a0_0 l0_1 t223 t224 t229 t230 t234 t235) else (some false))) = some r := H
       have A56 := Aside0.mk A560
       clear A560
       replace H := Option.bind_eq_some_iff.mp H
       obtain ⟨t245, A570, H⟩ := H
       replace H : (if t245 = true then (laws_FnExactDropEdge.j3 kj53 a1 t227 t238 a0_0 l0_1 t223 t224 t229 t230 t234 t235) else (some false)) = some r := H
       have A57 := Aside0.mk A570
       clear A570
       have HC58 := Aside0.mk H
       clear H
       try go_wp2
       replace HO_229001 := Aside0.mk (Kd.R_drew HO_229001.out)
       replace HO_234001 := Aside0.mk (Kd.R_drew HO_234001.out)
       replace HO_240001 := Aside0.mk (Kd.R_drew HO_240001.out)
       replace BK217 := Aside0.mk (blk_drew BK217.out)
       replace BK228 := Aside0.mk (blk_drew BK228.out)
       replace BK233 := Aside0.mk (blk_drew BK233.out)
       replace BK239 := Aside0.mk (blk_drew BK239.out)
       replace HB := Aside0.mk (below_drew1 HB.out)
       refine start_ (n := 5) (S := fun w' => w'.cell? ⟨gb233, 0, none⟩ = some (.int .i64 t229) ∧ w'.cell? ⟨gb233, 1, none⟩ = some (.slice Ao28 t230.length co28) ∧ w'.cell? ⟨gb217, 0, none⟩ = some (.int .i64 a0_0) ∧ w'.cell? ⟨gb217, 1, none⟩ = some (.slice A0_1 l0_1.length c0_1)) (ds := []) #[false, false, false, false, false] (by kernel_rfl) rfl rfl ⟨(blk_cell BK233.out 0).trans rfl, (blk_cell BK233.out 1).trans rfl, (blk_cell BK217.out 0).trans rfl, (blk_cell BK217.out 1).trans rfl⟩ (fun hHeld => ?_)
       generalize wc.drew = w59 at HO_229001 HO_234001 HO_240001 BK217 BK228 BK233 BK239 HB hHeld ⊢
       refine take_ (i := 0) (N := some 45) (v := ?_) (a' := ?_) #[true, false, false, false, false] rfl rfl (by kernel_rfl) (fun _ _ _ h => h) (Or.inl ⟨by rfl, ?_⟩) hHeld ?_ ?_
       rotate_left
       ·rintro w' ⟨s0, s1, s2, s3⟩
        go_simp
        with_reducible rfl
       rotate_left
       ·simp only [Act.put, List.setIfInBounds_toArray, List.set_cons_zero, List.set_cons_succ, i64_w, i32_w]
        rfl
       refine take_ (i := 1) (N := some 46) (v := ?_) (a' := ?_) #[true, true, false, false, false] rfl rfl (by kernel_rfl) (fun _ _ _ h => h) (Or.inl ⟨by rfl, ?_⟩) hHeld ?_ ?_
       rotate_left
       ·rintro w' ⟨s0, s1, s2, s3⟩
        go_simp
        with_reducible rfl
       rotate_left
       ·simp only [Act.put, List.setIfInBounds_toArray, List.set_cons_zero, List.set_cons_succ, i64_w, i32_w]
        rfl
       refine one_ (i := 2) (N := some 47) #[true, true, true, false, false] rfl rfl (by kernel_rfl) (by decide) (fun K hK => ?_)
       refine goes_ Try.func13 (by kernel_rfl) rfl #[.agg #[.int .i64 a0_0, .slice A0_1 l0_1.length c0_1]] (by rfl) rfl rfl (by (try simp only [List.map_toArray, List.map_cons, List.map_nil]); first | done | rfl | (simp only [List.length_drop, List.length_take]; rfl)) ?_
       with_reducible refine (laws_toGraph.calls kj53 a0_0 _ _ l0_1 t241 t242 _ ?side1 ?side2 A56.out).mono ?_
       (case side1 => exact Cz ((Kd.C_below HR0_1.out HB.out)))
       (case side2 => exact HC0_1.out)
       rintro e w60 ⟨v243, rfl, ho0, hb⟩
       refine ⟨_, rfl, ?_⟩
       have HO244 := Aside0.mk (Kd.R_lower (Kd.R_new' (Kd.R_new' (Kd.R_new' ho0 (Kd.R_lt (Rz HO_229001))) (Kd.R_lt (Rz HO_234001))) (Kd.R_lt (Rz HO_240001))) (below_size (by first | exact Lz HB | repeat (first | (with_reducible first | exact HB.out | apply below_alloc | apply pw_below_drewN | apply below_drew1 | refine below_set ?_ GE217.out | refine below_set ?_ GE228.out | refine below_set ?_ GE233.out | refine below_set ?_ GE239.out) | exact HB.out))))
       replace HO_229001 := Aside0.mk (Kd.R_elder' (Rz HO_229001) (Kd.R_base ho0) hb)
       replace HO_234001 := Aside0.mk (Kd.R_elder' (Rz HO_234001) (Kd.R_base ho0) hb)
       replace HO_240001 := Aside0.mk (Kd.R_elder' (Rz HO_240001) (Kd.R_base ho0) hb)
       replace BK217 := Aside0.mk (blk_below (g := gb217) (o := .cells #[.int .i64 a0_0, .slice A0_1 l0_1.length c0_1] 24 (0, 0)) (Bz BK217) hb)
       replace BK228 := Aside0.mk (blk_below (g := gb228) (o := .cells #[.int .i64 t223, .slice Ao21 t224.length co21] 30 (0, 0)) (Bz BK228) hb)
       replace BK233 := Aside0.mk (blk_below (g := gb233) (o := .cells #[.int .i64 t229, .slice Ao28 t230.length co28] 30 (0, 0)) (Bz BK233) hb)
       replace BK239 := Aside0.mk (blk_below (g := gb239) (o := .cells #[.int .i64 t234, .slice Ao35 t235.length co35] 30 (0, 0)) (Bz BK239) hb)
       replace HB := Aside0.mk (below_step (by first | exact Lz HB | repeat (first | (with_reducible first | exact HB.out | apply below_alloc | apply pw_below_drewN | apply below_drew1 | refine below_set ?_ GE217.out | refine below_set ?_ GE228.out | refine below_set ?_ GE233.out | refine below_set ?_ GE239.out) | exact HB.out)) hb)
       (try clear hb)
       (try clear hb2)
       (try clear hk)
       (try clear hi)
       (try clear ho0)
       obtain ⟨Ao61, co61, eo61⟩ := Kd.R_slice HO244.out
       (first | subst eo61 | (injection eo61 with f1_ f2_ f3_; have f4_ := f1_.symm; have f5_ := f3_.symm; clear f1_ f2_ f3_; subst f4_; subst f5_))
       refine hK.out _ _ ⟨(blk_cell BK233.out 0).trans rfl, (blk_cell BK233.out 1).trans rfl, (blk_cell BK217.out 0).trans rfl, (blk_cell BK217.out 1).trans rfl⟩ (fun hHeld => ?_)
       clear hK K
       refine norm_ (a' := ?_) ?_ ?_
       rotate_left
       ·show Act.put _ (some 47) _ = _
        simp only [Act.put, List.setIfInBounds_toArray, List.set_cons_zero, List.set_cons_succ, i64_w, i32_w]
        rfl
       refine one_ (i := 3) (N := some 48) #[true, true, true, true, false] rfl rfl (by kernel_rfl) (by decide) (fun K hK => ?_)
       refine goes_ Try.func16 (by kernel_rfl) rfl #[.agg #[.int .i64 t229, .slice Ao28 t230.length co28], .agg #[.int .i64 t241, .slice Ao61 t242.length co61]] (by rfl) rfl rfl (by (try simp only [List.map_toArray, List.map_cons, List.map_nil]); first | done | rfl | (simp only [List.length_drop, List.length_take]; rfl)) ?_
       with_reducible refine (laws_eqGraph.calls kj53 t229 _ _ t230 t241 _ _ t242 t245 _ ?side1 ?side2 ?side3 ?side4 A57.out).mono ?_
       (case side1 => exact Cz ((Kd.R_reads' HO_234001.out).2.2))
       (case side2 => exact (Kd.R_reads' HO_234001.out).2.1)
       (case side3 => exact Cz ((Kd.R_reads' HO244.out).2.2))
       (case side4 => exact (Kd.R_reads' HO244.out).2.1)
       rintro e w62 ⟨rfl, hb⟩
       refine ⟨_, rfl, ?_⟩
       replace HO_229001 := Aside0.mk (Kd.R_below (Rz HO_229001) hb)
       replace HO_234001 := Aside0.mk (Kd.R_below (Rz HO_234001) hb)
       replace HO_240001 := Aside0.mk (Kd.R_below (Rz HO_240001) hb)
       replace HO244 := Aside0.mk (Kd.R_below (Rz HO244) hb)
       replace BK217 := Aside0.mk (blk_below (g := gb217) (o := .cells #[.int .i64 a0_0, .slice A0_1 l0_1.length c0_1] 24 (0, 0)) (Bz BK217) hb)
       replace BK228 := Aside0.mk (blk_below (g := gb228) (o := .cells #[.int .i64 t223, .slice Ao21 t224.length co21] 30 (0, 0)) (Bz BK228) hb)
       replace BK233 := Aside0.mk (blk_below (g := gb233) (o := .cells #[.int .i64 t229, .slice Ao28 t230.length co28] 30 (0, 0)) (Bz BK233) hb)
       replace BK239 := Aside0.mk (blk_below (g := gb239) (o := .cells #[.int .i64 t234, .slice Ao35 t235.length co35] 30 (0, 0)) (Bz BK239) hb)
       replace HB := Aside0.mk (below_step (by first | exact Lz HB | repeat (first | (with_reducible first | exact HB.out | apply below_alloc | apply pw_below_drewN | apply below_drew1 | refine below_set ?_ GE217.out | refine below_set ?_ GE228.out | refine below_set ?_ GE233.out | refine below_set ?_ GE239.out) | exact HB.out)) hb)
       (try clear hb)
       (try clear hb2)
       (try clear hk)
       (try clear hi)
       refine hK.out _ _ ⟨(blk_cell BK233.out 0).trans rfl, (blk_cell BK233.out 1).trans rfl, (blk_cell BK217.out 0).trans rfl, (blk_cell BK217.out 1).trans rfl⟩ (fun hHeld => ?_)
       clear hK K
       refine norm_ (a' := ?_) ?_ ?_
       rotate_left
       ·show Act.put _ (some 48) _ = _
        simp only [Act.put, List.setIfInBounds_toArray, List.set_cons_zero, List.set_cons_succ, i64_w, i32_w]
        rfl
       refine pure_ (i := 4) (N := some 49) (v := ?_) (a' := ?_) #[true, true, true, true, true] rfl rfl (by kernel_rfl) (fun _ _ _ h => h) (Or.inl ⟨by rfl, ?_⟩) ?_ ?_
       rotate_left
       ·intro w'
        go_simp
        with_reducible rfl
       rotate_left
       ·simp only [Act.put, List.setIfInBounds_toArray, List.set_cons_zero, List.set_cons_succ, i64_w, i32_w]
        rfl
       refine done_ (by kernel_rfl) ?_
       go_upto_if 49 with (fail)
       go_cut [] (fun wc => ∃ (kq : Nat), Aside0 (laws_FnExactDropEdge.j3 kq a1 t227 t238 a0_0 l0_1 t223 t224 t229 t230 t234 t235 = some r) ∧ Aside0 (kq ≤ kj53) ∧ Aside0 (Kd.R k57 57 wc w.heap.size (fun k_ => some k_ ≠ ((.slice Ao28 t230.length co28) : Value).ownBlock ∧ some k_ ≠ ((.slice Ao35 t235.length co35) : Value).ownBlock) (.slice Ao21 t224.length co21) t224) ∧ Aside0 (Kd.R k57 57 wc w.heap.size (fun k_ => some k_ ≠ ((.slice Ao21 t224.length co21) : Value).ownBlock ∧ some k_ ≠ ((.slice Ao35 t235.length co35) : Value).ownBlock) (.slice Ao28 t230.length co28) t230) ∧ Aside0 (Kd.R k57 57 wc w.heap.size (fun k_ => some k_ ≠ ((.slice Ao21 t224.length co21) : Value).ownBlock ∧ some k_ ≠ ((.slice Ao28 t230.length co28) : Value).ownBlock) (.slice Ao35 t235.length co35) t235) ∧ Aside0 (wc.heap[gb217]? = some (.cells #[.int .i64 a0_0, (.slice A0_1 l0_1.length c0_1)] 24 (0, 0))) ∧ Aside0 (wc.heap[gb228]? = some (.cells #[.int .i64 t223, (.slice Ao21 t224.length co21)] 30 (0, 0))) ∧ Aside0 (wc.heap[gb233]? = some (.cells #[.int .i64 t229, (.slice Ao28 t230.length co28)] 30 (0, 0))) ∧ Aside0 (wc.heap[gb239]? = some (.cells #[.int .i64 t234, (.slice Ao35 t235.length co35)] 30 (0, 0))) ∧ Aside0 (Below w.heap.size w wc))
       case first =>
        have H := HC58.out
        clear HC58
        by_cases c63 : t245 = true
        ·subst c63
         have H1 : (laws_FnExactDropEdge.j3 kj53 a1 t227 t238 a0_0 l0_1 t223 t224 t229 t230 t234 t235) = some r := by rw [if_pos rfl] at H; exact H
         clear H
         have H := H1
         clear H1
         have H' := Aside0.mk H
         clear H
         go_wp2
         go_meet
         case rel => exact ⟨_, H', ⟨by have := HJ3.out; have := HJ12.out; have := HJ53.out; first | omega | exact Nat.le_refl _⟩, ⟨by (with_reducible repeat (first | apply Kd.R_alloc | apply Kd.R_drewN | apply Kd.R_drew)); exact Kd.R_mono HO_229001.out (fun _ hk => ⟨hk.1.1, hk.1.2⟩)⟩, ⟨by (with_reducible repeat (first | apply Kd.R_alloc | apply Kd.R_drewN | apply Kd.R_drew)); exact Kd.R_mono HO_234001.out (fun _ hk => ⟨hk.1.1, hk.1.2⟩)⟩, ⟨by (with_reducible repeat (first | apply Kd.R_alloc | apply Kd.R_drewN | apply Kd.R_drew)); exact Kd.R_mono HO_240001.out (fun _ hk => ⟨hk.1.1, hk.1.2⟩)⟩, ⟨by exact Bz BK217⟩, ⟨by exact Bz BK228⟩, ⟨by exact Bz BK233⟩, ⟨by exact Bz BK239⟩, ⟨by first | exact Lz HB | repeat (first | (with_reducible first | exact HB.out | apply below_alloc | apply pw_below_drewN | apply below_drew1 | refine below_set ?_ GE217.out | refine below_set ?_ GE228.out | refine below_set ?_ GE233.out | refine below_set ?_ GE239.out) | exact HB.out)⟩⟩
        replace c63 := Bool.eq_false_iff.mpr c63
        subst c63
        have H1 : (some false) = some r := by rw [if_neg (show ¬ (false = true) by decide)] at H; exact H
        clear H
        have H := H1
        clear H1
        exact absurd (Option.some.inj H) (by rw [HR_.out]; decide)
       case rest =>
        clear HC58
        try clear c8
        try clear c8b0
        try clear c37
        try clear c55
        try clear c63
        obtain ⟨kq, HA, HJ57, HO_229001, HO_234001, HO_240001, BK217, BK228, BK233, BK239, HB⟩ := hcut
        cases kq with
        | zero => exact absurd HA.out (by simp [laws_FnExactDropEdge.j3])
        | succ kj57 =>
         have H := HA.out
         clear HA
         simp only [laws_FnExactDropEdge.j3] at H
         replace H := Option.bind_eq_some_iff.mp H
         obtain ⟨⟨t246, t247⟩, A640, H⟩ := H
         replace H : (if t246 < 0 then (laws_FnExactDropEdge.j4 kj57 a1 t227 true a0_0 l0_1 t223 t224 t234 t235) else ((laws_eqGraph.f kj57 t234 t235 t223 t224).bind fun t248 => (if t248 = true then (laws_FnExactDropEdge.j4 kj57 a1 t227 (t238 != t227) a0_0 l0_1 t223 t224 t234 t235) else (laws_FnExactDropEdge.j4 kj57 a1 t227 true a0_0 l0_1 t223 t224 t234 t235)))) = some r := H
         have A64 := Aside0.mk A640
         clear A640
         have HC65 := Aside0.mk H
         clear H
         have hnb66 := NB233_217.out
         have hnc66 := NB217_233.out
         have hnb67 := NB233_228.out
         have hnc67 := NB228_233.out
         have hnb68 := NB233_239.out
         have hnc68 := NB239_233.out
         have hcz69_0 : wc.cell? ⟨gb233, 0, none⟩ = some (.int .i64 t229) := (blk_cell BK233.out 0).trans rfl
         have hcz69_1 : wc.cell? ⟨gb233, 1, none⟩ = some (.slice Ao28 t230.length co28) := (blk_cell BK233.out 1).trans rfl
         have hfz69_0 := blk_frozen BK233.out 0
         have hfz69_1 := blk_frozen BK233.out 1
         go_upto_region 14 with (first | ((with_reducible refine gate_callee (f := 17) rfl ?_); refine goesM_ (some 52) rfl rfl Try.func17 (by kernel_rfl) rfl #[.agg #[.int .i64 t229, .slice Ao28 t230.length co28], .int .i64 1] rfl ?_; (with_reducible refine (laws_markGraph.calls kj57 t229 (fun k_ => some k_ = (.slice Ao28 t230.length co28 : Value).ownBlock) (.slice Ao28 t230.length co28) t230 1 t246 t247 w _ ?side1 ?side2 A64.out).mono ?_); (case side1 => first | exact Lz HB | repeat (first | (with_reducible first | exact HB.out | apply below_alloc | apply pw_below_drewN | apply below_drew1 | refine below_set ?_ GE217.out | refine below_set ?_ GE228.out | refine below_set ?_ GE233.out | refine below_set ?_ GE239.out) | exact HB.out)); (case side2 => exact Kd.R_tight rfl HO_234001.out); rintro e w70 ⟨rfl, hy0, hb, hkp⟩; refine ⟨_, rfl, ?_⟩; replace HO_229001 := Aside0.mk (Kd.R_mono (ok' := fun k_ => some k_ ≠ (.slice Ao28 t230.length co28 : Value).ownBlock ∧ some k_ ≠ (.slice Ao35 t235.length co35 : Value).ownBlock) (Kd.R_keptB (HO_229001.out) hkp (fun k_ hk_ hs_ => (hk_.1) hs_)) (fun k_ hk_ => ⟨hk_.1.1, hk_.1.2⟩)); replace HO_240001 := Aside0.mk (Kd.R_mono (ok' := fun k_ => some k_ ≠ (.slice Ao21 t224.length co21 : Value).ownBlock ∧ some k_ ≠ (.slice Ao28 t230.length co28 : Value).ownBlock) (Kd.R_keptB (HO_240001.out) hkp (fun k_ hk_ hs_ => (hk_.2) hs_)) (fun k_ hk_ => ⟨hk_.1.1, hk_.1.2⟩)); replace BK217 := Aside0.mk (blk_kept (Bz BK217) hkp (fun hs_ => (fun e_ => (Kd.R_ne HO_234001.out BK217.out (by decide)) e_) hs_)); replace BK228 := Aside0.mk (blk_kept (Bz BK228) hkp (fun hs_ => (fun e_ => (Kd.R_ne HO_234001.out BK228.out (by decide)) e_) hs_)); replace BK233 := Aside0.mk (blk_kept (Bz BK233) hkp (fun hs_ => (fun e_ => (Kd.R_ne HO_234001.out BK233.out (by decide)) e_) hs_)); replace BK239 := Aside0.mk (blk_kept (Bz BK239) hkp (fun hs_ => (fun e_ => (Kd.R_ne HO_234001.out BK239.out (by decide)) e_) hs_)); replace HO_234001 := Aside0.mk (Kd.R_reok rfl hy0 (fun k_ e_ => HO_234001.out.1 k_ e_)); replace HB := Aside0.mk (hb); (try clear hb); (try clear hkp); (try clear hy0)))
         (try simp only [Act.put, List.setIfInBounds_toArray, List.set_cons_zero, List.set_cons_succ])
         go_cut [65] (fun v65 wc => ∃ (kq : Nat) (x65_64 : Bool), v65 = .bool x65_64 ∧ Aside0 (laws_FnExactDropEdge.j4 kq a1 t227 x65_64 a0_0 l0_1 t223 t224 t234 t235 = some r) ∧ Aside0 (kq ≤ kj57) ∧ Aside0 (Kd.R k57 57 wc w.heap.size (fun k_ => some k_ ≠ ((.slice Ao28 t230.length co28) : Value).ownBlock ∧ some k_ ≠ ((.slice Ao35 t235.length co35) : Value).ownBlock) (.slice Ao21 t224.length co21) t224) ∧ Aside0 (Kd.R k57 57 wc w.heap.size (fun k_ => some k_ ≠ ((.slice Ao21 t224.length co21) : Value).ownBlock ∧ some k_ ≠ ((.slice Ao35 t235.length co35) : Value).ownBlock) (.slice Ao28 t230.length co28) t247) ∧ Aside0 (Kd.R k57 57 wc w.heap.size (fun k_ => some k_ ≠ ((.slice Ao21 t224.length co21) : Value).ownBlock ∧ some k_ ≠ ((.slice Ao28 t230.length co28) : Value).ownBlock) (.slice Ao35 t235.length co35) t235) ∧ Aside0 (wc.heap[gb217]? = some (.cells #[.int .i64 a0_0, (.slice A0_1 l0_1.length c0_1)] 24 (0, 0))) ∧ Aside0 (wc.heap[gb228]? = some (.cells #[.int .i64 t223, (.slice Ao21 t224.length co21)] 30 (0, 0))) ∧ Aside0 (wc.heap[gb233]? = some (.cells #[.int .i64 t229, (.slice Ao28 t230.length co28)] 30 (0, 0))) ∧ Aside0 (wc.heap[gb239]? = some (.cells #[.int .i64 t234, (.slice Ao35 t235.length co35)] 30 (0, 0))) ∧ Aside0 (Below w.heap.size w wc))
         case first =>
          have H := HC65.out
          clear HC65
          by_cases c71 : t246 < 0
          ·rw [if_pos c71] at H
           have c71b0 : decide (t246 < 0) = true := decide_eq_true c71
           clear c71
           (first | rw [c71b0] | (simp only [i64_w, i32_w]; rw [c71b0]) | skip)
           have H' := Aside0.mk H
           clear H
           go_wp2
           go_meet
           case rel => exact ⟨_, (true), eqA, H', ⟨by have := HJ3.out; have := HJ12.out; have := HJ53.out; have := HJ57.out; first | omega | exact Nat.le_refl _⟩, ⟨by exact Rz HO_229001⟩, ⟨by exact Rz HO_234001⟩, ⟨by exact Rz HO_240001⟩, ⟨by exact Bz BK217⟩, ⟨by exact Bz BK228⟩, ⟨by exact Bz BK233⟩, ⟨by exact Bz BK239⟩, ⟨by first | exact Lz HB | repeat (first | (with_reducible first | exact HB.out | apply below_alloc | apply pw_below_drewN | apply below_drew1 | refine below_set ?_ GE217.out | refine below_set ?_ GE228.out | refine below_set ?_ GE233.out | refine below_set ?_ GE239.out) | exact HB.out)⟩⟩
          rw [if_neg c71] at H
          have c71b0 : decide (t246 < 0) = false := decide_eq_false c71
          clear c71
          (first | rw [c71b0] | (simp only [i64_w, i32_w]; rw [c71b0]) | skip)
          replace H := Option.bind_eq_some_iff.mp H
          obtain ⟨t248, A720, H⟩ := H
          replace H : (if t248 = true then (laws_FnExactDropEdge.j4 kj57 a1 t227 (t238 != t227) a0_0 l0_1 t223 t224 t234 t235) else (laws_FnExactDropEdge.j4 kj57 a1 t227 true a0_0 l0_1 t223 t224 t234 t235)) = some r := H
          have A72 := Aside0.mk A720
          clear A720
          by_cases c73 : t248 = true
          ·subst c73
           have H1 : (laws_FnExactDropEdge.j4 kj57 a1 t227 (t238 != t227) a0_0 l0_1 t223 t224 t234 t235) = some r := by rw [if_pos rfl] at H; exact H
           clear H
           have H := H1
           clear H1
           have H' := Aside0.mk H
           clear H
           have hnb74 := NB239_217.out
           have hnc74 := NB217_239.out
           have hnb75 := NB239_228.out
           have hnc75 := NB228_239.out
           have hnb76 := NB239_233.out
           have hnc76 := NB233_239.out
           have hcz77_0 : w70.cell? ⟨gb239, 0, none⟩ = some (.int .i64 t234) := (blk_cell BK239.out 0).trans rfl
           have hcz77_1 : w70.cell? ⟨gb239, 1, none⟩ = some (.slice Ao35 t235.length co35) := (blk_cell BK239.out 1).trans rfl
           have hfz77_0 := blk_frozen BK239.out 0
           have hfz77_1 := blk_frozen BK239.out 1
           have hnb78 := NB228_217.out
           have hnc78 := NB217_228.out
           have hnb79 := NB228_233.out
           have hnc79 := NB233_228.out
           have hcz80_0 : w70.cell? ⟨gb228, 0, none⟩ = some (.int .i64 t223) := (blk_cell BK228.out 0).trans rfl
           have hcz80_1 : w70.cell? ⟨gb228, 1, none⟩ = some (.slice Ao21 t224.length co21) := (blk_cell BK228.out 1).trans rfl
           have hfz80_0 := blk_frozen BK228.out 0
           have hfz80_1 := blk_frozen BK228.out 1
           go_wp2_with (first | (go_at_call 16; (with_reducible refine (laws_eqGraph.calls kj57 t234 _ _ t235 t223 _ _ t224 true _ ?side1 ?side2 ?side3 ?side4 A72.out).mono ?_); (case side1 => exact Cz ((Kd.R_reads' HO_240001.out).2.2)); (case side2 => exact (Kd.R_reads' HO_240001.out).2.1); (case side3 => exact Cz ((Kd.R_reads' HO_229001.out).2.2)); (case side4 => exact (Kd.R_reads' HO_229001.out).2.1); rintro e w81 ⟨rfl, hb⟩; replace HO_229001 := Aside0.mk (Kd.R_below (Rz HO_229001) hb); replace HO_234001 := Aside0.mk (Kd.R_below (Rz HO_234001) hb); replace HO_240001 := Aside0.mk (Kd.R_below (Rz HO_240001) hb); replace BK217 := Aside0.mk (blk_below (g := gb217) (o := .cells #[.int .i64 a0_0, .slice A0_1 l0_1.length c0_1] 24 (0, 0)) (Bz BK217) hb); replace BK228 := Aside0.mk (blk_below (g := gb228) (o := .cells #[.int .i64 t223, .slice Ao21 t224.length co21] 30 (0, 0)) (Bz BK228) hb); replace BK233 := Aside0.mk (blk_below (g := gb233) (o := .cells #[.int .i64 t229, .slice Ao28 t230.length co28] 30 (0, 0)) (Bz BK233) hb); replace BK239 := Aside0.mk (blk_below (g := gb239) (o := .cells #[.int .i64 t234, .slice Ao35 t235.length co35] 30 (0, 0)) (Bz BK239) hb); replace HB := Aside0.mk (below_step (by first | exact Lz HB | repeat (first | (with_reducible first | exact HB.out | apply below_alloc | apply pw_below_drewN | apply below_drew1 | refine below_set ?_ GE217.out | refine below_set ?_ GE228.out | refine below_set ?_ GE233.out | refine below_set ?_ GE239.out) | exact HB.out)) hb); (try clear hb); (try clear hb2); (try clear hk); (try clear hi)))
           go_meet
           case rel => exact ⟨_, ((t238 != t227)), eqA, H', ⟨by have := HJ3.out; have := HJ12.out; have := HJ53.out; have := HJ57.out; first | omega | exact Nat.le_refl _⟩, ⟨by exact Rz HO_229001⟩, ⟨by exact Rz HO_234001⟩, ⟨by exact Rz HO_240001⟩, ⟨by exact Bz BK217⟩, ⟨by exact Bz BK228⟩, ⟨by exact Bz BK233⟩, ⟨by exact Bz BK239⟩, ⟨by first | exact Lz HB | repeat (first | (with_reducible first | exact HB.out | apply below_alloc | apply pw_below_drewN | apply below_drew1 | refine below_set ?_ GE217.out | refine below_set ?_ GE228.out | refine below_set ?_ GE233.out | refine below_set ?_ GE239.out) | exact HB.out)⟩⟩
          replace c73 := Bool.eq_false_iff.mpr c73
          subst c73
          have H1 : (laws_FnExactDropEdge.j4 kj57 a1 t227 true a0_0 l0_1 t223 t224 t234 t235) = some r := by rw [if_neg (show ¬ (false = true) by decide)] at H; exact H
          clear H
          have H := H1
          clear H1
          have H' := Aside0.mk H
          clear H
          have hnb82 := NB239_217.out
          have hnc82 := NB217_239.out
          have hnb83 := NB239_228.out
          have hnc83 := NB228_239.out
          have hnb84 := NB239_233.out
          have hnc84 := NB233_239.out
          have hcz85_0 : w70.cell? ⟨gb239, 0, none⟩ = some (.int .i64 t234) := (blk_cell BK239.out 0).trans rfl
          have hcz85_1 : w70.cell? ⟨gb239, 1, none⟩ = some (.slice Ao35 t235.length co35) := (blk_cell BK239.out 1).trans rfl
          have hfz85_0 := blk_frozen BK239.out 0
          have hfz85_1 := blk_frozen BK239.out 1
          have hnb86 := NB228_217.out
          have hnc86 := NB217_228.out
          have hnb87 := NB228_233.out
          have hnc87 := NB233_228.out
          have hcz88_0 : w70.cell? ⟨gb228, 0, none⟩ = some (.int .i64 t223) := (blk_cell BK228.out 0).trans rfl
          have hcz88_1 : w70.cell? ⟨gb228, 1, none⟩ = some (.slice Ao21 t224.length co21) := (blk_cell BK228.out 1).trans rfl
          have hfz88_0 := blk_frozen BK228.out 0
          have hfz88_1 := blk_frozen BK228.out 1
          go_wp2_with (first | (go_at_call 16; (with_reducible refine (laws_eqGraph.calls kj57 t234 _ _ t235 t223 _ _ t224 false _ ?side1 ?side2 ?side3 ?side4 A72.out).mono ?_); (case side1 => exact Cz ((Kd.R_reads' HO_240001.out).2.2)); (case side2 => exact (Kd.R_reads' HO_240001.out).2.1); (case side3 => exact Cz ((Kd.R_reads' HO_229001.out).2.2)); (case side4 => exact (Kd.R_reads' HO_229001.out).2.1); rintro e w89 ⟨rfl, hb⟩; replace HO_229001 := Aside0.mk (Kd.R_below (Rz HO_229001) hb); replace HO_234001 := Aside0.mk (Kd.R_below (Rz HO_234001) hb); replace HO_240001 := Aside0.mk (Kd.R_below (Rz HO_240001) hb); replace BK217 := Aside0.mk (blk_below (g := gb217) (o := .cells #[.int .i64 a0_0, .slice A0_1 l0_1.length c0_1] 24 (0, 0)) (Bz BK217) hb); replace BK228 := Aside0.mk (blk_below (g := gb228) (o := .cells #[.int .i64 t223, .slice Ao21 t224.length co21] 30 (0, 0)) (Bz BK228) hb); replace BK233 := Aside0.mk (blk_below (g := gb233) (o := .cells #[.int .i64 t229, .slice Ao28 t230.length co28] 30 (0, 0)) (Bz BK233) hb); replace BK239 := Aside0.mk (blk_below (g := gb239) (o := .cells #[.int .i64 t234, .slice Ao35 t235.length co35] 30 (0, 0)) (Bz BK239) hb); replace HB := Aside0.mk (below_step (by first | exact Lz HB | repeat (first | (with_reducible first | exact HB.out | apply below_alloc | apply pw_below_drewN | apply below_drew1 | refine below_set ?_ GE217.out | refine below_set ?_ GE228.out | refine below_set ?_ GE233.out | refine below_set ?_ GE239.out) | exact HB.out)) hb); (try clear hb); (try clear hb2); (try clear hk); (try clear hi)))
          go_meet
          case rel => exact ⟨_, (true), eqA, H', ⟨by have := HJ3.out; have := HJ12.out; have := HJ53.out; have := HJ57.out; first | omega | exact Nat.le_refl _⟩, ⟨by exact Rz HO_229001⟩, ⟨by exact Rz HO_234001⟩, ⟨by exact Rz HO_240001⟩, ⟨by exact Bz BK217⟩, ⟨by exact Bz BK228⟩, ⟨by exact Bz BK233⟩, ⟨by exact Bz BK239⟩, ⟨by first | exact Lz HB | repeat (first | (with_reducible first | exact HB.out | apply below_alloc | apply pw_below_drewN | apply below_drew1 | refine below_set ?_ GE217.out | refine below_set ?_ GE228.out | refine below_set ?_ GE233.out | refine below_set ?_ GE239.out) | exact HB.out)⟩⟩
         case rest =>
          clear HC65
          try clear c8
          try clear c8b0
          try clear c37
          try clear c55
          try clear c63
          try clear c71
          try clear c71b0
          try clear c73
          obtain ⟨kq, x65_64, rfl, HA, HJ64, HO_229001, HO_234001, HO_240001, BK217, BK228, BK233, BK239, HB⟩ := hcut
          have hl234001_64 := (Kd.R_reads' HO_234001.out).1
          rw [hl234001_64] at HO_234001
          (try simp only [hl234001_64])
          (try simp only [hl234001_64] at BK217)
          (try simp only [hl234001_64] at BK228)
          (try simp only [hl234001_64] at BK233)
          (try simp only [hl234001_64] at BK239)
          (try simp only [hl234001_64] at HO_229001)
          (try simp only [hl234001_64] at HO_240001)
          cases kq with
          | zero => exact absurd HA.out (by simp [laws_FnExactDropEdge.j4])
          | succ kj64 =>
           have H := HA.out
           clear HA
           simp only [laws_FnExactDropEdge.j4] at H
           have HC90 := Aside0.mk H
           clear H
           go_upto_if 65 with (fail)
           go_cut [] (fun wc => ∃ (kq : Nat), Aside0 (laws_FnExactDropEdge.j5 kq a1 t227 a0_0 l0_1 t223 t224 t234 t235 = some r) ∧ Aside0 (kq ≤ kj64) ∧ Aside0 (Kd.R k57 57 wc w.heap.size (fun k_ => some k_ ≠ ((.slice Ao28 t247.length co28) : Value).ownBlock ∧ some k_ ≠ ((.slice Ao35 t235.length co35) : Value).ownBlock) (.slice Ao21 t224.length co21) t224) ∧ Aside0 (Kd.R k57 57 wc w.heap.size (fun k_ => some k_ ≠ ((.slice Ao21 t224.length co21) : Value).ownBlock ∧ some k_ ≠ ((.slice Ao35 t235.length co35) : Value).ownBlock) (.slice Ao28 t247.length co28) t247) ∧ Aside0 (Kd.R k57 57 wc w.heap.size (fun k_ => some k_ ≠ ((.slice Ao21 t224.length co21) : Value).ownBlock ∧ some k_ ≠ ((.slice Ao28 t247.length co28) : Value).ownBlock) (.slice Ao35 t235.length co35) t235) ∧ Aside0 (wc.heap[gb217]? = some (.cells #[.int .i64 a0_0, (.slice A0_1 l0_1.length c0_1)] 24 (0, 0))) ∧ Aside0 (wc.heap[gb228]? = some (.cells #[.int .i64 t223, (.slice Ao21 t224.length co21)] 30 (0, 0))) ∧ Aside0 (wc.heap[gb233]? = some (.cells #[.int .i64 t229, (.slice Ao28 t247.length co28)] 30 (0, 0))) ∧ Aside0 (wc.heap[gb239]? = some (.cells #[.int .i64 t234, (.slice Ao35 t235.length co35)] 30 (0, 0))) ∧ Aside0 (Below w.heap.size w wc))
           case first =>
            have H := HC90.out
            clear HC90
            by_cases c91 : x65_64 = true
            ·subst c91
             have H1 : (some false) = some r := by rw [if_pos rfl] at H; exact H
             clear H
             have H := H1
             clear H1
             exact absurd (Option.some.inj H) (by rw [HR_.out]; decide)
            replace c91 := Bool.eq_false_iff.mpr c91
            subst c91
            have H1 : (laws_FnExactDropEdge.j5 kj64 a1 t227 a0_0 l0_1 t223 t224 t234 t235) = some r := by rw [if_neg (show ¬ (false = true) by decide)] at H; exact H
            clear H
            have H := H1
            clear H1
            have H' := Aside0.mk H
            clear H
            go_wp2
            go_meet
            case rel => exact ⟨_, H', ⟨by have := HJ3.out; have := HJ12.out; have := HJ53.out; have := HJ57.out; have := HJ64.out; first | omega | exact Nat.le_refl _⟩, ⟨by (try simp only [hl234001_64]); exact Rz HO_229001⟩, ⟨by (try simp only [hl234001_64]); exact Rz HO_234001⟩, ⟨by (try simp only [hl234001_64]); exact Rz HO_240001⟩, ⟨by (try simp only [hl234001_64]); exact Bz BK217⟩, ⟨by (try simp only [hl234001_64]); exact Bz BK228⟩, ⟨by (try simp only [hl234001_64]); exact Bz BK233⟩, ⟨by (try simp only [hl234001_64]); exact Bz BK239⟩, ⟨by first | exact Lz HB | repeat (first | (with_reducible first | exact HB.out | apply below_alloc | apply pw_below_drewN | apply below_drew1 | refine below_set ?_ GE217.out | refine below_set ?_ GE228.out | refine below_set ?_ GE233.out | refine below_set ?_ GE239.out) | exact HB.out)⟩⟩
           case rest =>
            clear HC90
            try clear c8
            try clear c8b0
            try clear c37
            try clear c55
            try clear c63
            try clear c71
            try clear c71b0
            try clear c73
            try clear c91
            obtain ⟨kq, HA, HJ89, HO_229001, HO_234001, HO_240001, BK217, BK228, BK233, BK239, HB⟩ := hcut
            cases kq with
            | zero => exact absurd HA.out (by simp [laws_FnExactDropEdge.j5])
            | succ kj89 =>
             have H := HA.out
             clear HA
             simp only [laws_FnExactDropEdge.j5] at H
             replace H := Option.bind_eq_some_iff.mp H
             obtain ⟨⟨t249, t250⟩, A920, H⟩ := H
             replace H : ((laws_heldGraph.f kj89 t234 t250 1).bind fun t251 => (if t251 < 0 then (some false) else (laws_FnExactDropEdge.j6 kj89 a1 t227 t249 t251 a0_0 l0_1 t223 t224 t234 t250))) = some r := H
             have A92 := Aside0.mk A920
             clear A920
             replace H := Option.bind_eq_some_iff.mp H
             obtain ⟨t251, A930, H⟩ := H
             replace H : (if t251 < 0 then (some false) else (laws_FnExactDropEdge.j6 kj89 a1 t227 t249 t251 a0_0 l0_1 t223 t224 t234 t250)) = some r := H
             have A93 := Aside0.mk A930
             clear A930
             have HC94 := Aside0.mk H
             clear H
             have hnb95 := NB239_217.out
             have hnc95 := NB217_239.out
             have hnb96 := NB239_228.out
             have hnc96 := NB228_239.out
             have hnb97 := NB239_233.out
             have hnc97 := NB233_239.out
             have hcz98_0 : wc.cell? ⟨gb239, 0, none⟩ = some (.int .i64 t234) := (blk_cell BK239.out 0).trans rfl
             have hcz98_1 : wc.cell? ⟨gb239, 1, none⟩ = some (.slice Ao35 t235.length co35) := (blk_cell BK239.out 1).trans rfl
             have hfz98_0 := blk_frozen BK239.out 0
             have hfz98_1 := blk_frozen BK239.out 1
             go_upto_if 73 with (first | ((with_reducible refine gate_callee (f := 17) rfl ?_); refine goesM_ (some 68) rfl rfl Try.func17 (by kernel_rfl) rfl #[.agg #[.int .i64 t234, .slice Ao35 t235.length co35], .int .i64 1] rfl ?_; (with_reducible refine (laws_markGraph.calls kj89 t234 (fun k_ => some k_ = (.slice Ao35 t235.length co35 : Value).ownBlock) (.slice Ao35 t235.length co35) t235 1 t249 t250 w _ ?side1 ?side2 A92.out).mono ?_); (case side1 => first | exact Lz HB | repeat (first | (with_reducible first | exact HB.out | apply below_alloc | apply pw_below_drewN | apply below_drew1 | refine below_set ?_ GE217.out | refine below_set ?_ GE228.out | refine below_set ?_ GE233.out | refine below_set ?_ GE239.out) | exact HB.out)); (case side2 => exact Kd.R_tight rfl HO_240001.out); rintro e w99 ⟨rfl, hy0, hb, hkp⟩; refine ⟨_, rfl, ?_⟩; replace HO_229001 := Aside0.mk (Kd.R_mono (ok' := fun k_ => some k_ ≠ (.slice Ao28 t247.length co28 : Value).ownBlock ∧ some k_ ≠ (.slice Ao35 t235.length co35 : Value).ownBlock) (Kd.R_keptB (HO_229001.out) hkp (fun k_ hk_ hs_ => (hk_.2) hs_)) (fun k_ hk_ => ⟨hk_.1.1, hk_.1.2⟩)); replace HO_234001 := Aside0.mk (Kd.R_mono (ok' := fun k_ => some k_ ≠ (.slice Ao21 t224.length co21 : Value).ownBlock ∧ some k_ ≠ (.slice Ao35 t235.length co35 : Value).ownBlock) (Kd.R_keptB (HO_234001.out) hkp (fun k_ hk_ hs_ => (hk_.2) hs_)) (fun k_ hk_ => ⟨hk_.1.1, hk_.1.2⟩)); replace BK217 := Aside0.mk (blk_kept (Bz BK217) hkp (fun hs_ => (fun e_ => (Kd.R_ne HO_240001.out BK217.out (by decide)) e_) hs_)); replace BK228 := Aside0.mk (blk_kept (Bz BK228) hkp (fun hs_ => (fun e_ => (Kd.R_ne HO_240001.out BK228.out (by decide)) e_) hs_)); replace BK233 := Aside0.mk (blk_kept (Bz BK233) hkp (fun hs_ => (fun e_ => (Kd.R_ne HO_240001.out BK233.out (by decide)) e_) hs_)); replace BK239 := Aside0.mk (blk_kept (Bz BK239) hkp (fun hs_ => (fun e_ => (Kd.R_ne HO_240001.out BK239.out (by decide)) e_) hs_)); replace HO_240001 := Aside0.mk (Kd.R_reok rfl hy0 (fun k_ e_ => HO_240001.out.1 k_ e_)); replace HB := Aside0.mk (hb); (try clear hb); (try clear hkp); (try clear hy0); have hcz100_0 : w99.cell? ⟨gb239, 0, none⟩ = some (.int .i64 t234) := (blk_cell BK239.out 0).trans rfl; have hcz100_1 : w99.cell? ⟨gb239, 1, none⟩ = some (.slice Ao35 t235.length co35) := (blk_cell BK239.out 1).trans rfl; have hfz100_0 := blk_frozen BK239.out 0; have hfz100_1 := blk_frozen BK239.out 1) | ((with_reducible refine gate_callee (f := 35) rfl ?_); refine goesL_ (some 71) rfl rfl Try.func35 (by kernel_rfl) rfl #[.agg #[.int .i64 t234, .slice Ao35 t250.length co35], .int .i64 1] rfl (by (try simp only [List.map_toArray, List.map_cons, List.map_nil]); first | done | (rw [show t250.length = t235.length from (Kd.R_reads' HO_240001.out).1.symm] <;> rfl) | rfl | (simp only [List.length_drop, List.length_take]; rfl)) ?_; (with_reducible refine (laws_heldGraph.calls kj89 t234 _ _ t250 1 t251 _ ?side1 ?side2 A93.out).mono ?_); (case side1 => exact Cz ((Kd.R_reads' HO_240001.out).2.2)); (case side2 => rw [show t250.length = t235.length from (Kd.R_reads' HO_240001.out).1.symm]; exact (Kd.R_reads' HO_240001.out).2.1); rintro e w101 ⟨rfl, hb⟩; refine ⟨_, rfl, ?_⟩; replace HO_229001 := Aside0.mk (Kd.R_below (Rz HO_229001) hb); replace HO_234001 := Aside0.mk (Kd.R_below (Rz HO_234001) hb); replace HO_240001 := Aside0.mk (Kd.R_below (Rz HO_240001) hb); replace BK217 := Aside0.mk (blk_below (g := gb217) (o := .cells #[.int .i64 a0_0, .slice A0_1 l0_1.length c0_1] 24 (0, 0)) (Bz BK217) hb); replace BK228 := Aside0.mk (blk_below (g := gb228) (o := .cells #[.int .i64 t223, .slice Ao21 t224.length co21] 30 (0, 0)) (Bz BK228) hb); replace BK233 := Aside0.mk (blk_below (g := gb233) (o := .cells #[.int .i64 t229, .slice Ao28 t247.length co28] 30 (0, 0)) (Bz BK233) hb); replace BK239 := Aside0.mk (blk_below (g := gb239) (o := .cells #[.int .i64 t234, .slice Ao35 t235.length co35] 30 (0, 0)) (Bz BK239) hb); replace HB := Aside0.mk (below_step (by first | exact Lz HB | repeat (first | (with_reducible first | exact HB.out | apply below_alloc | apply pw_below_drewN | apply below_drew1 | refine below_set ?_ GE217.out | refine below_set ?_ GE228.out | refine below_set ?_ GE233.out | refine below_set ?_ GE239.out) | exact HB.out)) hb); (try clear hb); (try clear hb2); (try clear hk); (try clear hi)))
             (try simp only [Act.put, List.setIfInBounds_toArray, List.set_cons_zero, List.set_cons_succ])
             go_cut [] (fun wc => ∃ (kq : Nat), Aside0 (laws_FnExactDropEdge.j6 kq a1 t227 t249 t251 a0_0 l0_1 t223 t224 t234 t250 = some r) ∧ Aside0 (kq ≤ kj89) ∧ Aside0 (Kd.R k57 57 wc w.heap.size (fun k_ => some k_ ≠ ((.slice Ao28 t247.length co28) : Value).ownBlock ∧ some k_ ≠ ((.slice Ao35 t235.length co35) : Value).ownBlock) (.slice Ao21 t224.length co21) t224) ∧ Aside0 (Kd.R k57 57 wc w.heap.size (fun k_ => some k_ ≠ ((.slice Ao21 t224.length co21) : Value).ownBlock ∧ some k_ ≠ ((.slice Ao35 t235.length co35) : Value).ownBlock) (.slice Ao28 t247.length co28) t247) ∧ Aside0 (Kd.R k57 57 wc w.heap.size (fun k_ => some k_ ≠ ((.slice Ao21 t224.length co21) : Value).ownBlock ∧ some k_ ≠ ((.slice Ao28 t247.length co28) : Value).ownBlock) (.slice Ao35 t235.length co35) t250) ∧ Aside0 (wc.heap[gb217]? = some (.cells #[.int .i64 a0_0, (.slice A0_1 l0_1.length c0_1)] 24 (0, 0))) ∧ Aside0 (wc.heap[gb228]? = some (.cells #[.int .i64 t223, (.slice Ao21 t224.length co21)] 30 (0, 0))) ∧ Aside0 (wc.heap[gb233]? = some (.cells #[.int .i64 t229, (.slice Ao28 t247.length co28)] 30 (0, 0))) ∧ Aside0 (wc.heap[gb239]? = some (.cells #[.int .i64 t234, (.slice Ao35 t235.length co35)] 30 (0, 0))) ∧ Aside0 (Below w.heap.size w wc))
             case first =>
              have H := HC94.out
              clear HC94
              by_cases c102 : t251 < 0
              ·rw [if_pos c102] at H
               have c102b0 : decide (t251 < 0) = true := decide_eq_true c102
               clear c102
               (first | rw [c102b0] | (simp only [i64_w, i32_w]; rw [c102b0]) | skip)
               obtain rfl := Option.some.inj H
               go_wp2
               go_ret
               exact ⟨by first | rfl | (simp [errW_none, errW_some] <;> rfl) | (simp [*, errW_none, errW_some] <;> rfl), by first | exact Lz HB | repeat (first | (with_reducible first | exact HB.out | apply below_alloc | apply pw_below_drewN | apply below_drew1 | refine below_set ?_ GE217.out | refine below_set ?_ GE228.out | refine below_set ?_ GE233.out | refine below_set ?_ GE239.out) | exact HB.out)⟩
              rw [if_neg c102] at H
              have c102b0 : decide (t251 < 0) = false := decide_eq_false c102
              clear c102
              (first | rw [c102b0] | (simp only [i64_w, i32_w]; rw [c102b0]) | skip)
              have H' := Aside0.mk H
              clear H
              go_wp2
              go_meet
              case rel => exact ⟨_, H', ⟨by have := HJ3.out; have := HJ12.out; have := HJ53.out; have := HJ57.out; have := HJ64.out; have := HJ89.out; first | omega | exact Nat.le_refl _⟩, ⟨by (try simp only [hl234001_64]); exact Rz HO_229001⟩, ⟨by (try simp only [hl234001_64]); exact Rz HO_234001⟩, ⟨by (try simp only [hl234001_64]); exact Rz HO_240001⟩, ⟨by (try simp only [hl234001_64]); exact Bz BK217⟩, ⟨by (try simp only [hl234001_64]); exact Bz BK228⟩, ⟨by (try simp only [hl234001_64]); exact Bz BK233⟩, ⟨by (try simp only [hl234001_64]); exact Bz BK239⟩, ⟨by first | exact Lz HB | repeat (first | (with_reducible first | exact HB.out | apply below_alloc | apply pw_below_drewN | apply below_drew1 | refine below_set ?_ GE217.out | refine below_set ?_ GE228.out | refine below_set ?_ GE233.out | refine below_set ?_ GE239.out) | exact HB.out)⟩⟩
             case rest =>
              clear HC94
              try clear c8
              try clear c8b0
              try clear c37
              try clear c55
              try clear c63
              try clear c71
              try clear c71b0
              try clear c73
              try clear c91
              try clear c102
              try clear c102b0
              obtain ⟨kq, HA, HJ93, HO_229001, HO_234001, HO_240001, BK217, BK228, BK233, BK239, HB⟩ := hcut
              have hl240001_93 := (Kd.R_reads' HO_240001.out).1
              rw [hl240001_93] at HO_240001
              (try simp only [hl240001_93])
              (try simp only [hl240001_93] at BK217)
              (try simp only [hl240001_93] at BK228)
              (try simp only [hl240001_93] at BK233)
              (try simp only [hl240001_93] at BK239)
              (try simp only [hl240001_93] at HO_229001)
              (try simp only [hl240001_93] at HO_234001)
              cases kq with
              | zero => exact absurd HA.out (by simp [laws_FnExactDropEdge.j6])
              | succ kj93 =>
               have H := HA.out
               clear HA
               simp only [laws_FnExactDropEdge.j6] at H
               have HC103 := Aside0.mk H
               clear H
               go_upto_if 76 with (fail)
               go_cut [] (fun wc => ∃ (kq : Nat), Aside0 (laws_FnExactDropEdge.j7 kq a1 t227 t249 a0_0 l0_1 t223 t224 t234 t250 = some r) ∧ Aside0 (kq ≤ kj93) ∧ Aside0 (Kd.R k57 57 wc w.heap.size (fun k_ => some k_ ≠ ((.slice Ao28 t247.length co28) : Value).ownBlock ∧ some k_ ≠ ((.slice Ao35 t250.length co35) : Value).ownBlock) (.slice Ao21 t224.length co21) t224) ∧ Aside0 (Kd.R k57 57 wc w.heap.size (fun k_ => some k_ ≠ ((.slice Ao21 t224.length co21) : Value).ownBlock ∧ some k_ ≠ ((.slice Ao35 t250.length co35) : Value).ownBlock) (.slice Ao28 t247.length co28) t247) ∧ Aside0 (Kd.R k57 57 wc w.heap.size (fun k_ => some k_ ≠ ((.slice Ao21 t224.length co21) : Value).ownBlock ∧ some k_ ≠ ((.slice Ao28 t247.length co28) : Value).ownBlock) (.slice Ao35 t250.length co35) t250) ∧ Aside0 (wc.heap[gb217]? = some (.cells #[.int .i64 a0_0, (.slice A0_1 l0_1.length c0_1)] 24 (0, 0))) ∧ Aside0 (wc.heap[gb228]? = some (.cells #[.int .i64 t223, (.slice Ao21 t224.length co21)] 30 (0, 0))) ∧ Aside0 (wc.heap[gb233]? = some (.cells #[.int .i64 t229, (.slice Ao28 t247.length co28)] 30 (0, 0))) ∧ Aside0 (wc.heap[gb239]? = some (.cells #[.int .i64 t234, (.slice Ao35 t250.length co35)] 30 (0, 0))) ∧ Aside0 (Below w.heap.size w wc))
               case first =>
                have H := HC103.out
                clear HC103
                by_cases c104 : t251 = t249
                ·rw [if_pos c104] at H
                 have c104b0 : (t251 == t249) = true := beq_iff_eq.mpr c104
                 have c104b1 : (t251 != t249) = false := bne_eq_false_iff_eq.mpr c104
                 clear c104
                 (first | rw [c104b0] | (simp only [i64_w, i32_w]; rw [c104b0]) | skip)
                 have H' := Aside0.mk H
                 clear H
                 go_wp2
                 go_meet
                 case rel => exact ⟨_, H', ⟨by have := HJ3.out; have := HJ12.out; have := HJ53.out; have := HJ57.out; have := HJ64.out; have := HJ89.out; have := HJ93.out; first | omega | exact Nat.le_refl _⟩, ⟨by (try simp only [hl234001_64]); (try simp only [hl240001_93]); exact Rz HO_229001⟩, ⟨by (try simp only [hl234001_64]); (try simp only [hl240001_93]); exact Rz HO_234001⟩, ⟨by (try simp only [hl234001_64]); (try simp only [hl240001_93]); exact Rz HO_240001⟩, ⟨by (try simp only [hl234001_64]); (try simp only [hl240001_93]); exact Bz BK217⟩, ⟨by (try simp only [hl234001_64]); (try simp only [hl240001_93]); exact Bz BK228⟩, ⟨by (try simp only [hl234001_64]); (try simp only [hl240001_93]); exact Bz BK233⟩, ⟨by (try simp only [hl234001_64]); (try simp only [hl240001_93]); exact Bz BK239⟩, ⟨by first | exact Lz HB | repeat (first | (with_reducible first | exact HB.out | apply below_alloc | apply pw_below_drewN | apply below_drew1 | refine below_set ?_ GE217.out | refine below_set ?_ GE228.out | refine below_set ?_ GE233.out | refine below_set ?_ GE239.out) | exact HB.out)⟩⟩
                rw [if_neg c104] at H
                have c104b0 : (t251 == t249) = false := beq_eq_false_iff_ne.mpr c104
                have c104b1 : (t251 != t249) = true := bne_iff_ne.mpr c104
                (first | rw [c104b0] | (simp only [i64_w, i32_w]; rw [c104b0]) | skip)
                obtain rfl := Option.some.inj H
                go_wp2
                go_ret
                exact ⟨by first | rfl | (simp [errW_none, errW_some] <;> rfl) | (simp [*, errW_none, errW_some] <;> rfl), by first | exact Lz HB | repeat (first | (with_reducible first | exact HB.out | apply below_alloc | apply pw_below_drewN | apply below_drew1 | refine below_set ?_ GE217.out | refine below_set ?_ GE228.out | refine below_set ?_ GE233.out | refine below_set ?_ GE239.out) | exact HB.out)⟩
               case rest =>
                clear HC103
                try clear c8
                try clear c8b0
                try clear c37
                try clear c55
                try clear c63
                try clear c71
                try clear c71b0
                try clear c73
                try clear c91
                try clear c102
                try clear c102b0
                try clear c104
                try clear c104b0
                try clear c104b1
                obtain ⟨kq, HA, HJ102, HO_229001, HO_234001, HO_240001, BK217, BK228, BK233, BK239, HB⟩ := hcut
                cases kq with
                | zero => exact absurd HA.out (by simp [laws_FnExactDropEdge.j7])
                | succ kj102 =>
                 have H := HA.out
                 clear HA
                 simp only [laws_FnExactDropEdge.j7] at H
                 replace H := Option.bind_eq_some_iff.mp H
                 obtain ⟨⟨t252, t253⟩, A1050, H⟩ := H
                 replace H : ((impl_DropEdge.f kj102 t252 t253 a1).bind fun bt256 => ((laws_eqGraph.f kj102 bt256.1 bt256.2.1 t223 t224).bind fun t262 => (if t262 = true then (laws_FnExactDropEdge.j8 kj102 t249 (bt256.2.2 != t227) t234 t250) else (laws_FnExactDropEdge.j8 kj102 t249 true t234 t250)))) = some r := H
                 have A105 := Aside0.mk A1050
                 clear A1050
                 replace H := Option.bind_eq_some_iff.mp H
                 obtain ⟨⟨t256, t257, t260⟩, A1060, H⟩ := H
                 replace H : ((laws_eqGraph.f kj102 t256 t257 t223 t224).bind fun t262 => (if t262 = true then (laws_FnExactDropEdge.j8 kj102 t249 (t260 != t227) t234 t250) else (laws_FnExactDropEdge.j8 kj102 t249 true t234 t250))) = some r := H
                 have A106 := Aside0.mk A1060
                 clear A1060
                 have HC107 := Aside0.mk H
                 clear H
                 have hnb108 := NB217_228.out
                 have hnc108 := NB228_217.out
                 have hnb109 := NB217_233.out
                 have hnc109 := NB233_217.out
                 have hnb110 := NB217_239.out
                 have hnc110 := NB239_217.out
                 have hcz111_0 : wc.cell? ⟨gb217, 0, none⟩ = some (.int .i64 a0_0) := (blk_cell BK217.out 0).trans rfl
                 have hcz111_1 : wc.cell? ⟨gb217, 1, none⟩ = some (.slice A0_1 l0_1.length c0_1) := (blk_cell BK217.out 1).trans rfl
                 have hfz111_0 := blk_frozen BK217.out 0
                 have hfz111_1 := blk_frozen BK217.out 1
                 go_upto_region 25 with (first | ((with_reducible refine gate_callee (f := 13) rfl ?_); refine goesM_ (some 79) rfl rfl Try.func13 (by kernel_rfl) rfl #[.agg #[.int .i64 a0_0, .slice A0_1 l0_1.length c0_1]] rfl ?_; (with_reducible refine (laws_toGraph.calls kj102 a0_0 _ _ l0_1 t252 t253 _ ?side1 ?side2 A105.out).mono ?_); (case side1 => exact Cz ((Kd.C_below HR0_1.out HB.out))); (case side2 => exact HC0_1.out); rintro e w112 ⟨v254, rfl, ho0, hb⟩; refine ⟨_, rfl, ?_⟩; have HO255 := Aside0.mk (Kd.R_lower (Kd.R_new' (Kd.R_new' (Kd.R_new' ho0 (Kd.R_lt (Rz HO_229001))) (Kd.R_lt (Rz HO_234001))) (Kd.R_lt (Rz HO_240001))) (below_size (by first | exact Lz HB | repeat (first | (with_reducible first | exact HB.out | apply below_alloc | apply pw_below_drewN | apply below_drew1 | refine below_set ?_ GE217.out | refine below_set ?_ GE228.out | refine below_set ?_ GE233.out | refine below_set ?_ GE239.out) | exact HB.out)))); replace HO_229001 := Aside0.mk (Kd.R_elder' (Rz HO_229001) (Kd.R_base ho0) hb); replace HO_234001 := Aside0.mk (Kd.R_elder' (Rz HO_234001) (Kd.R_base ho0) hb); replace HO_240001 := Aside0.mk (Kd.R_elder' (Rz HO_240001) (Kd.R_base ho0) hb); replace BK217 := Aside0.mk (blk_below (g := gb217) (o := .cells #[.int .i64 a0_0, .slice A0_1 l0_1.length c0_1] 24 (0, 0)) (Bz BK217) hb); replace BK228 := Aside0.mk (blk_below (g := gb228) (o := .cells #[.int .i64 t223, .slice Ao21 t224.length co21] 30 (0, 0)) (Bz BK228) hb); replace BK233 := Aside0.mk (blk_below (g := gb233) (o := .cells #[.int .i64 t229, .slice Ao28 t247.length co28] 30 (0, 0)) (Bz BK233) hb); replace BK239 := Aside0.mk (blk_below (g := gb239) (o := .cells #[.int .i64 t234, .slice Ao35 t250.length co35] 30 (0, 0)) (Bz BK239) hb); replace HB := Aside0.mk (below_step (by first | exact Lz HB | repeat (first | (with_reducible first | exact HB.out | apply below_alloc | apply pw_below_drewN | apply below_drew1 | refine below_set ?_ GE217.out | refine below_set ?_ GE228.out | refine below_set ?_ GE233.out | refine below_set ?_ GE239.out) | exact HB.out)) hb); (try clear hb); (try clear ho0); obtain ⟨Ao113, co113, eo113⟩ := Kd.R_slice HO255.out; subst eo113) | ((with_reducible refine gate_callee (f := 34) rfl ?_); refine goesM_ (some 81) rfl rfl Try.func34 (by kernel_rfl) rfl #[.agg #[.int .i64 t252, .slice Ao113 t253.length co113], .int .i64 a1] rfl ?_; (with_reducible refine (impl_DropEdge.calls kj102 t252 _ _ t253 a1 t256 t257 t260 _ ?side1 ?side2 A106.out).mono ?_); (case side1 => exact Cz ((Kd.R_reads' HO255.out).2.2)); (case side2 => exact (Kd.R_reads' HO255.out).2.1); rintro e w114 ⟨v258, rfl, ho0, hb⟩; refine ⟨_, rfl, ?_⟩; have HO259 := Aside0.mk (Kd.R_lower (Kd.R_new' (Kd.R_new' (Kd.R_new' (Kd.R_new' ho0 (Kd.R_lt (Rz HO_229001))) (Kd.R_lt (Rz HO_234001))) (Kd.R_lt (Rz HO_240001))) (Kd.R_lt (Rz HO255))) (below_size (by first | exact Lz HB | repeat (first | (with_reducible first | exact HB.out | apply below_alloc | apply pw_below_drewN | apply below_drew1 | refine below_set ?_ GE217.out | refine below_set ?_ GE228.out | refine below_set ?_ GE233.out | refine below_set ?_ GE239.out) | exact HB.out)))); replace HO_229001 := Aside0.mk (Kd.R_elder' (Rz HO_229001) (Kd.R_base ho0) hb); replace HO_234001 := Aside0.mk (Kd.R_elder' (Rz HO_234001) (Kd.R_base ho0) hb); replace HO_240001 := Aside0.mk (Kd.R_elder' (Rz HO_240001) (Kd.R_base ho0) hb); replace HO255 := Aside0.mk (Kd.R_elder' (Rz HO255) (Kd.R_base ho0) hb); replace BK217 := Aside0.mk (blk_below (g := gb217) (o := .cells #[.int .i64 a0_0, .slice A0_1 l0_1.length c0_1] 24 (0, 0)) (Bz BK217) hb); replace BK228 := Aside0.mk (blk_below (g := gb228) (o := .cells #[.int .i64 t223, .slice Ao21 t224.length co21] 30 (0, 0)) (Bz BK228) hb); replace BK233 := Aside0.mk (blk_below (g := gb233) (o := .cells #[.int .i64 t229, .slice Ao28 t247.length co28] 30 (0, 0)) (Bz BK233) hb); replace BK239 := Aside0.mk (blk_below (g := gb239) (o := .cells #[.int .i64 t234, .slice Ao35 t250.length co35] 30 (0, 0)) (Bz BK239) hb); replace HB := Aside0.mk (below_step (by first | exact Lz HB | repeat (first | (with_reducible first | exact HB.out | apply below_alloc | apply pw_below_drewN | apply below_drew1 | refine below_set ?_ GE217.out | refine below_set ?_ GE228.out | refine below_set ?_ GE233.out | refine below_set ?_ GE239.out) | exact HB.out)) hb); (try clear hb); (try clear ho0)) | ((with_reducible refine gate_dst (N := 14) rfl ?_); refine box_event ?hg (N := 14) ?hd (cs := #[.int .i64 0, .slice none 0 0]) (t := 30) ?hr ?_; (case hd => rfl); (case hg => rfl); (case hr => first | (go_simp; done) | (go_simp; rfl)); intro gb261 hg w115 hbox hb; replace HO_229001 := Aside0.mk (Kd.R_below (Rz HO_229001) hb); replace HO_234001 := Aside0.mk (Kd.R_below (Rz HO_234001) hb); replace HO_240001 := Aside0.mk (Kd.R_below (Rz HO_240001) hb); replace HO255 := Aside0.mk (Kd.R_below (Rz HO255) hb); replace HO259 := Aside0.mk (Kd.R_below (Rz HO259) hb); have BK261 := Aside0.mk (hbox); have GW261 := Aside0.mk ((by rw [hg]; exact (below_size (by first | exact Lz HB | repeat (first | (with_reducible first | exact HB.out | apply below_alloc | apply pw_below_drewN | apply below_drew1 | refine below_set ?_ GE217.out | refine below_set ?_ GE228.out | refine below_set ?_ GE233.out | refine below_set ?_ GE239.out) | exact HB.out))) : w.heap.size ≤ gb261)); have GE261 := Aside0.mk ((by rw [hg]; exact (below_size (by first | exact Lz HB | repeat (first | (with_reducible first | exact HB.out | apply below_alloc | apply pw_below_drewN | apply below_drew1 | refine below_set ?_ GE217.out | refine below_set ?_ GE228.out | refine below_set ?_ GE233.out | refine below_set ?_ GE239.out) | exact HB.out))) : w.heap.size ≤ gb261)); replace HB := Aside0.mk (below_step (by first | exact Lz HB | repeat (first | (with_reducible first | exact HB.out | apply below_alloc | apply pw_below_drewN | apply below_drew1 | refine below_set ?_ GE217.out | refine below_set ?_ GE228.out | refine below_set ?_ GE233.out | refine below_set ?_ GE239.out) | exact HB.out)) hb); have NB217_261 := Aside0.mk ((by rw [hg]; exact Nat.ne_of_lt (blk_lt (g := gb217) (o := .cells #[.int .i64 a0_0, .slice A0_1 l0_1.length c0_1] 24 (0, 0)) (Bz BK217)) : gb217 ≠ gb261)); have NB261_217 := Aside0.mk ((by rw [hg]; exact Nat.ne_of_gt (blk_lt (g := gb217) (o := .cells #[.int .i64 a0_0, .slice A0_1 l0_1.length c0_1] 24 (0, 0)) (Bz BK217)) : gb261 ≠ gb217)); replace BK217 := Aside0.mk (blk_below (g := gb217) (o := .cells #[.int .i64 a0_0, .slice A0_1 l0_1.length c0_1] 24 (0, 0)) (Bz BK217) hb); have NB228_261 := Aside0.mk ((by rw [hg]; exact Nat.ne_of_lt (blk_lt (g := gb228) (o := .cells #[.int .i64 t223, .slice Ao21 t224.length co21] 30 (0, 0)) (Bz BK228)) : gb228 ≠ gb261)); have NB261_228 := Aside0.mk ((by rw [hg]; exact Nat.ne_of_gt (blk_lt (g := gb228) (o := .cells #[.int .i64 t223, .slice Ao21 t224.length co21] 30 (0, 0)) (Bz BK228)) : gb261 ≠ gb228)); replace BK228 := Aside0.mk (blk_below (g := gb228) (o := .cells #[.int .i64 t223, .slice Ao21 t224.length co21] 30 (0, 0)) (Bz BK228) hb); have NB233_261 := Aside0.mk ((by rw [hg]; exact Nat.ne_of_lt (blk_lt (g := gb233) (o := .cells #[.int .i64 t229, .slice Ao28 t247.length co28] 30 (0, 0)) (Bz BK233)) : gb233 ≠ gb261)); have NB261_233 := Aside0.mk ((by rw [hg]; exact Nat.ne_of_gt (blk_lt (g := gb233) (o := .cells #[.int .i64 t229, .slice Ao28 t247.length co28] 30 (0, 0)) (Bz BK233)) : gb261 ≠ gb233)); replace BK233 := Aside0.mk (blk_below (g := gb233) (o := .cells #[.int .i64 t229, .slice Ao28 t247.length co28] 30 (0, 0)) (Bz BK233) hb); have NB239_261 := Aside0.mk ((by rw [hg]; exact Nat.ne_of_lt (blk_lt (g := gb239) (o := .cells #[.int .i64 t234, .slice Ao35 t250.length co35] 30 (0, 0)) (Bz BK239)) : gb239 ≠ gb261)); have NB261_239 := Aside0.mk ((by rw [hg]; exact Nat.ne_of_gt (blk_lt (g := gb239) (o := .cells #[.int .i64 t234, .slice Ao35 t250.length co35] 30 (0, 0)) (Bz BK239)) : gb261 ≠ gb239)); replace BK239 := Aside0.mk (blk_below (g := gb239) (o := .cells #[.int .i64 t234, .slice Ao35 t250.length co35] 30 (0, 0)) (Bz BK239) hb); clear hb hbox hg; have hnb116 := NB261_217.out; have hnc116 := NB217_261.out; have hnb117 := NB261_228.out; have hnc117 := NB228_261.out; have hnb118 := NB261_233.out; have hnc118 := NB233_261.out; have hnb119 := NB261_239.out; have hnc119 := NB239_261.out; have hcz120_0 : w115.cell? ⟨gb261, 0, none⟩ = some (.int .i64 0) := (blk_cell BK261.out 0).trans rfl; have hcz120_1 : w115.cell? ⟨gb261, 1, none⟩ = some (.slice none 0 0) := (blk_cell BK261.out 1).trans rfl; have hfz120_0 := blk_frozen BK261.out 0; have hfz120_1 := blk_frozen BK261.out 1; obtain ⟨Ao121, co121, eo121⟩ := Kd.R_slice HO259.out; subst eo121))
                 (try simp only [Act.put, List.setIfInBounds_toArray, List.set_cons_zero, List.set_cons_succ])
                 go_cut [92] (fun v92 wc => ∃ (kq : Nat) (x92_106 : Bool), v92 = .bool x92_106 ∧ Aside0 (laws_FnExactDropEdge.j8 kq t249 x92_106 t234 t250 = some r) ∧ Aside0 (kq ≤ kj102) ∧ Aside0 (Kd.R k57 57 wc w.heap.size (fun k_ => some k_ ≠ ((.slice Ao28 t247.length co28) : Value).ownBlock ∧ some k_ ≠ ((.slice Ao35 t250.length co35) : Value).ownBlock ∧ some k_ ≠ ((.slice Ao121 t257.length co121) : Value).ownBlock) (.slice Ao21 t224.length co21) t224) ∧ Aside0 (Kd.R k57 57 wc w.heap.size (fun k_ => some k_ ≠ ((.slice Ao21 t224.length co21) : Value).ownBlock ∧ some k_ ≠ ((.slice Ao35 t250.length co35) : Value).ownBlock ∧ some k_ ≠ ((.slice Ao121 t257.length co121) : Value).ownBlock) (.slice Ao28 t247.length co28) t247) ∧ Aside0 (Kd.R k57 57 wc w.heap.size (fun k_ => some k_ ≠ ((.slice Ao21 t224.length co21) : Value).ownBlock ∧ some k_ ≠ ((.slice Ao28 t247.length co28) : Value).ownBlock ∧ some k_ ≠ ((.slice Ao121 t257.length co121) : Value).ownBlock) (.slice Ao35 t250.length co35) t250) ∧ Aside0 (Kd.R k57 57 wc w.heap.size (fun k_ => some k_ ≠ ((.slice Ao21 t224.length co21) : Value).ownBlock ∧ some k_ ≠ ((.slice Ao28 t247.length co28) : Value).ownBlock ∧ some k_ ≠ ((.slice Ao35 t250.length co35) : Value).ownBlock) (.slice Ao121 t257.length co121) t257) ∧ Aside0 (wc.heap[gb217]? = some (.cells #[.int .i64 a0_0, (.slice A0_1 l0_1.length c0_1)] 24 (0, 0))) ∧ Aside0 (wc.heap[gb228]? = some (.cells #[.int .i64 t223, (.slice Ao21 t224.length co21)] 30 (0, 0))) ∧ Aside0 (wc.heap[gb233]? = some (.cells #[.int .i64 t229, (.slice Ao28 t247.length co28)] 30 (0, 0))) ∧ Aside0 (wc.heap[gb239]? = some (.cells #[.int .i64 t234, (.slice Ao35 t250.length co35)] 30 (0, 0))) ∧ Aside0 (wc.heap[gb261]? = some (.cells #[.int .i64 t256, (.slice Ao121 t257.length co121)] 30 (0, 0))) ∧ Aside0 (Below w.heap.size w wc))
                 case first =>
                  have H := HC107.out
                  clear HC107
                  replace H := Option.bind_eq_some_iff.mp H
                  obtain ⟨t262, A1220, H⟩ := H
                  replace H : (if t262 = true then (laws_FnExactDropEdge.j8 kj102 t249 (t260 != t227) t234 t250) else (laws_FnExactDropEdge.j8 kj102 t249 true t234 t250)) = some r := H
                  have A122 := Aside0.mk A1220
                  clear A1220
                  by_cases c123 : t262 = true
                  ·subst c123
                   have H1 : (laws_FnExactDropEdge.j8 kj102 t249 (t260 != t227) t234 t250) = some r := by rw [if_pos rfl] at H; exact H
                   clear H
                   have H := H1
                   clear H1
                   have H' := Aside0.mk H
                   clear H
                   have hnb124 := NB261_217.out
                   have hnc124 := NB217_261.out
                   have hnb125 := NB261_228.out
                   have hnc125 := NB228_261.out
                   have hnb126 := NB261_233.out
                   have hnc126 := NB233_261.out
                   have hnb127 := NB261_239.out
                   have hnc127 := NB239_261.out
                   have hcz128_0 : w115.cell? ⟨gb261, 0, none⟩ = some (.int .i64 0) := (blk_cell BK261.out 0).trans rfl
                   have hcz128_1 : w115.cell? ⟨gb261, 1, none⟩ = some (.slice none 0 0) := (blk_cell BK261.out 1).trans rfl
                   have hfz128_0 := blk_frozen BK261.out 0
                   have hfz128_1 := blk_frozen BK261.out 1
                   have hnb129 := NB228_217.out
                   have hnc129 := NB217_228.out
                   have hnb130 := NB228_233.out
                   have hnc130 := NB233_228.out
                   have hnb131 := NB228_239.out
                   have hnc131 := NB239_228.out
                   have hcz132_0 : w115.cell? ⟨gb228, 0, none⟩ = some (.int .i64 t223) := (blk_cell BK228.out 0).trans rfl
                   have hcz132_1 : w115.cell? ⟨gb228, 1, none⟩ = some (.slice Ao21 t224.length co21) := (blk_cell BK228.out 1).trans rfl
                   have hfz132_0 := blk_frozen BK228.out 0
                   have hfz132_1 := blk_frozen BK228.out 1
                   go_wp2_with (first | ((with_reducible refine gate_callee (f := 16) rfl ?_); refine goesM_ (some 86) rfl rfl Try.func16 (by kernel_rfl) rfl #[.agg #[.int .i64 t256, .slice Ao121 t257.length co121], .agg #[.int .i64 t223, .slice Ao21 t224.length co21]] rfl ?_; (with_reducible refine (laws_eqGraph.calls kj102 t256 _ _ t257 t223 _ _ t224 true _ ?side1 ?side2 ?side3 ?side4 A122.out).mono ?_); (case side1 => refine (Kd.R_reads' (e := 57) (base := w.heap.size) (ok := fun k_ => ((((True ∧ some k_ ≠ (.slice Ao21 t224.length co21 : Value).ownBlock) ∧ some k_ ≠ (.slice Ao28 t247.length co28 : Value).ownBlock) ∧ some k_ ≠ (.slice Ao35 t250.length co35 : Value).ownBlock) ∧ some k_ ≠ (.slice Ao113 t253.length co113 : Value).ownBlock)) (n := t257.length) (c := co121) ?_).2.2; exact (by (with_reducible repeat (first | apply Kd.R_alloc | apply Kd.R_drewN | apply Kd.R_drew)); exact (Kd.R_mono (Kd.R_far (p := ⟨gb261, 1, none⟩) (Kd.R_far (p := ⟨gb261, 0, none⟩) (Kd.R_types HO259.out BK261.out (by decide)) (fun _ hk => hk.2) (.int .i64 t256)) (fun _ hk => hk.2) (.slice Ao121 t257.length co121)) (fun _ h_ => h_.1)))); (case side2 => exact (Kd.R_reads' HO259.out).2.1); (case side3 => refine (Kd.R_reads' (e := 57) (base := w.heap.size) (ok := fun k_ => (((some k_ ≠ (.slice Ao28 t247.length co28 : Value).ownBlock ∧ some k_ ≠ (.slice Ao35 t250.length co35 : Value).ownBlock) ∧ some k_ ≠ (.slice Ao113 t253.length co113 : Value).ownBlock) ∧ some k_ ≠ (.slice Ao121 t257.length co121 : Value).ownBlock)) (n := t224.length) (c := co21) ?_).2.2; exact (by (with_reducible repeat (first | apply Kd.R_alloc | apply Kd.R_drewN | apply Kd.R_drew)); exact (Kd.R_mono (Kd.R_far (p := ⟨gb261, 1, none⟩) (Kd.R_far (p := ⟨gb261, 0, none⟩) (Kd.R_types HO_229001.out BK261.out (by decide)) (fun _ hk => hk.2) (.int .i64 t256)) (fun _ hk => hk.2) (.slice Ao121 t257.length co121)) (fun _ h_ => h_.1)))); (case side4 => exact (Kd.R_reads' HO_229001.out).2.1); rintro e w133 ⟨rfl, hb⟩; refine ⟨_, rfl, ?_⟩; replace HO_229001 := Aside0.mk (Kd.R_below (by (with_reducible repeat (first | apply Kd.R_alloc | apply Kd.R_drewN | apply Kd.R_drew)); exact (Kd.R_mono (Kd.R_far (p := ⟨gb261, 1, none⟩) (Kd.R_far (p := ⟨gb261, 0, none⟩) (Kd.R_types HO_229001.out BK261.out (by decide)) (fun _ hk => hk.2) (.int .i64 t256)) (fun _ hk => hk.2) (.slice Ao121 t257.length co121)) (fun _ h_ => h_.1))) hb); replace HO_234001 := Aside0.mk (Kd.R_below (by (with_reducible repeat (first | apply Kd.R_alloc | apply Kd.R_drewN | apply Kd.R_drew)); exact (Kd.R_mono (Kd.R_far (p := ⟨gb261, 1, none⟩) (Kd.R_far (p := ⟨gb261, 0, none⟩) (Kd.R_types HO_234001.out BK261.out (by decide)) (fun _ hk => hk.2) (.int .i64 t256)) (fun _ hk => hk.2) (.slice Ao121 t257.length co121)) (fun _ h_ => h_.1))) hb); replace HO_240001 := Aside0.mk (Kd.R_below (by (with_reducible repeat (first | apply Kd.R_alloc | apply Kd.R_drewN | apply Kd.R_drew)); exact (Kd.R_mono (Kd.R_far (p := ⟨gb261, 1, none⟩) (Kd.R_far (p := ⟨gb261, 0, none⟩) (Kd.R_types HO_240001.out BK261.out (by decide)) (fun _ hk => hk.2) (.int .i64 t256)) (fun _ hk => hk.2) (.slice Ao121 t257.length co121)) (fun _ h_ => h_.1))) hb); replace HO255 := Aside0.mk (Kd.R_below (by (with_reducible repeat (first | apply Kd.R_alloc | apply Kd.R_drewN | apply Kd.R_drew)); exact (Kd.R_mono (Kd.R_far (p := ⟨gb261, 1, none⟩) (Kd.R_far (p := ⟨gb261, 0, none⟩) (Kd.R_types HO255.out BK261.out (by decide)) (fun _ hk => hk.2) (.int .i64 t256)) (fun _ hk => hk.2) (.slice Ao121 t257.length co121)) (fun _ h_ => h_.1))) hb); replace HO259 := Aside0.mk (Kd.R_below (by (with_reducible repeat (first | apply Kd.R_alloc | apply Kd.R_drewN | apply Kd.R_drew)); exact (Kd.R_mono (Kd.R_far (p := ⟨gb261, 1, none⟩) (Kd.R_far (p := ⟨gb261, 0, none⟩) (Kd.R_types HO259.out BK261.out (by decide)) (fun _ hk => hk.2) (.int .i64 t256)) (fun _ hk => hk.2) (.slice Ao121 t257.length co121)) (fun _ h_ => h_.1))) hb); replace BK217 := Aside0.mk (blk_below (g := gb217) (o := .cells #[.int .i64 a0_0, .slice A0_1 l0_1.length c0_1] 24 (0, 0)) (by (with_reducible repeat (first | refine blk_drewN ?_ _ | refine blk_drew ?_ | refine blk_alloc ?_ _)); refine blk_far ?_ NB217_261.out _; (with_reducible repeat (first | refine blk_drewN ?_ _ | refine blk_drew ?_ | refine blk_alloc ?_ _)); refine blk_far ?_ NB217_261.out _; exact Bz BK217) hb); replace BK228 := Aside0.mk (blk_below (g := gb228) (o := .cells #[.int .i64 t223, .slice Ao21 t224.length co21] 30 (0, 0)) (by (with_reducible repeat (first | refine blk_drewN ?_ _ | refine blk_drew ?_ | refine blk_alloc ?_ _)); refine blk_far ?_ NB228_261.out _; (with_reducible repeat (first | refine blk_drewN ?_ _ | refine blk_drew ?_ | refine blk_alloc ?_ _)); refine blk_far ?_ NB228_261.out _; exact Bz BK228) hb); replace BK233 := Aside0.mk (blk_below (g := gb233) (o := .cells #[.int .i64 t229, .slice Ao28 t247.length co28] 30 (0, 0)) (by (with_reducible repeat (first | refine blk_drewN ?_ _ | refine blk_drew ?_ | refine blk_alloc ?_ _)); refine blk_far ?_ NB233_261.out _; (with_reducible repeat (first | refine blk_drewN ?_ _ | refine blk_drew ?_ | refine blk_alloc ?_ _)); refine blk_far ?_ NB233_261.out _; exact Bz BK233) hb); replace BK239 := Aside0.mk (blk_below (g := gb239) (o := .cells #[.int .i64 t234, .slice Ao35 t250.length co35] 30 (0, 0)) (by (with_reducible repeat (first | refine blk_drewN ?_ _ | refine blk_drew ?_ | refine blk_alloc ?_ _)); refine blk_far ?_ NB239_261.out _; (with_reducible repeat (first | refine blk_drewN ?_ _ | refine blk_drew ?_ | refine blk_alloc ?_ _)); refine blk_far ?_ NB239_261.out _; exact Bz BK239) hb); replace BK261 := Aside0.mk (blk_below (g := gb261) (o := .cells #[.int .i64 t256, .slice Ao121 t257.length co121] 30 (0, 0)) (by (with_reducible repeat (first | refine blk_drewN ?_ _ | refine blk_drew ?_ | refine blk_alloc ?_ _)); refine blk_put (cs := #[.int .i64 t256, .slice none 0 0]) ?_ 1 _ rfl; (with_reducible repeat (first | refine blk_drewN ?_ _ | refine blk_drew ?_ | refine blk_alloc ?_ _)); refine blk_put (cs := #[.int .i64 0, .slice none 0 0]) ?_ 0 _ rfl; exact Bz BK261) hb); replace HB := Aside0.mk (below_step (by first | exact Lz HB | repeat (first | (with_reducible first | exact HB.out | apply below_alloc | apply pw_below_drewN | apply below_drew1 | refine below_set ?_ GE217.out | refine below_set ?_ GE228.out | refine below_set ?_ GE233.out | refine below_set ?_ GE239.out | refine below_set ?_ GE261.out) | exact HB.out)) hb); (try clear hb); (try clear hb2); (try clear hk); (try clear hi)))
                   go_meet
                   case rel => exact ⟨_, ((t260 != t227)), eqA, H', ⟨by have := HJ3.out; have := HJ12.out; have := HJ53.out; have := HJ57.out; have := HJ64.out; have := HJ89.out; have := HJ93.out; have := HJ102.out; first | omega | exact Nat.le_refl _⟩, ⟨by (try simp only [hl234001_64]); (try simp only [hl240001_93]); (with_reducible repeat (first | apply Kd.R_alloc | apply Kd.R_drewN | apply Kd.R_drew)); exact Kd.R_mono HO_229001.out (fun _ hk => ⟨hk.1.1.1, ⟨hk.1.1.2, hk.2⟩⟩)⟩, ⟨by (try simp only [hl234001_64]); (try simp only [hl240001_93]); (with_reducible repeat (first | apply Kd.R_alloc | apply Kd.R_drewN | apply Kd.R_drew)); exact Kd.R_mono HO_234001.out (fun _ hk => ⟨hk.1.1.1, ⟨hk.1.1.2, hk.2⟩⟩)⟩, ⟨by (try simp only [hl234001_64]); (try simp only [hl240001_93]); (with_reducible repeat (first | apply Kd.R_alloc | apply Kd.R_drewN | apply Kd.R_drew)); exact Kd.R_mono HO_240001.out (fun _ hk => ⟨hk.1.1.1, ⟨hk.1.1.2, hk.2⟩⟩)⟩, ⟨by (try simp only [hl234001_64]); (try simp only [hl240001_93]); (with_reducible repeat (first | apply Kd.R_alloc | apply Kd.R_drewN | apply Kd.R_drew)); exact Kd.R_mono HO259.out (fun _ hk => ⟨hk.1.1.1.2, ⟨hk.1.1.2, hk.1.2⟩⟩)⟩, ⟨by (try simp only [hl234001_64]); (try simp only [hl240001_93]); exact Bz BK217⟩, ⟨by (try simp only [hl234001_64]); (try simp only [hl240001_93]); exact Bz BK228⟩, ⟨by (try simp only [hl234001_64]); (try simp only [hl240001_93]); exact Bz BK233⟩, ⟨by (try simp only [hl234001_64]); (try simp only [hl240001_93]); exact Bz BK239⟩, ⟨by (try simp only [hl234001_64]); (try simp only [hl240001_93]); exact Bz BK261⟩, ⟨by first | exact Lz HB | repeat (first | (with_reducible first | exact HB.out | apply below_alloc | apply pw_below_drewN | apply below_drew1 | refine below_set ?_ GE217.out | refine below_set ?_ GE228.out | refine below_set ?_ GE233.out | refine below_set ?_ GE239.out | refine below_set ?_ GE261.out) | exact HB.out)⟩⟩
                  replace c123 := Bool.eq_false_iff.mpr c123
                  subst c123
                  have H1 : (laws_FnExactDropEdge.j8 kj102 t249 true t234 t250) = some r := by rw [if_neg (show ¬ (false = true) by decide)] at H; exact H
                  clear H
                  have H := H1
                  clear H1
                  have H' := Aside0.mk H
                  clear H
                  have hnb134 := NB261_217.out
                  have hnc134 := NB217_261.out
                  have hnb135 := NB261_228.out
                  have hnc135 := NB228_261.out
                  have hnb136 := NB261_233.out
                  have hnc136 := NB233_261.out
                  have hnb137 := NB261_239.out
                  have hnc137 := NB239_261.out
                  have hcz138_0 : w115.cell? ⟨gb261, 0, none⟩ = some (.int .i64 0) := (blk_cell BK261.out 0).trans rfl
                  have hcz138_1 : w115.cell? ⟨gb261, 1, none⟩ = some (.slice none 0 0) := (blk_cell BK261.out 1).trans rfl
                  have hfz138_0 := blk_frozen BK261.out 0
                  have hfz138_1 := blk_frozen BK261.out 1
                  have hnb139 := NB228_217.out
                  have hnc139 := NB217_228.out
                  have hnb140 := NB228_233.out
                  have hnc140 := NB233_228.out
                  have hnb141 := NB228_239.out
                  have hnc141 := NB239_228.out
                  have hcz142_0 : w115.cell? ⟨gb228, 0, none⟩ = some (.int .i64 t223) := (blk_cell BK228.out 0).trans rfl
                  have hcz142_1 : w115.cell? ⟨gb228, 1, none⟩ = some (.slice Ao21 t224.length co21) := (blk_cell BK228.out 1).trans rfl
                  have hfz142_0 := blk_frozen BK228.out 0
                  have hfz142_1 := blk_frozen BK228.out 1
                  go_wp2_with (first | ((with_reducible refine gate_callee (f := 16) rfl ?_); refine goesM_ (some 86) rfl rfl Try.func16 (by kernel_rfl) rfl #[.agg #[.int .i64 t256, .slice Ao121 t257.length co121], .agg #[.int .i64 t223, .slice Ao21 t224.length co21]] rfl ?_; (with_reducible refine (laws_eqGraph.calls kj102 t256 _ _ t257 t223 _ _ t224 false _ ?side1 ?side2 ?side3 ?side4 A122.out).mono ?_); (case side1 => refine (Kd.R_reads' (e := 57) (base := w.heap.size) (ok := fun k_ => ((((True ∧ some k_ ≠ (.slice Ao21 t224.length co21 : Value).ownBlock) ∧ some k_ ≠ (.slice Ao28 t247.length co28 : Value).ownBlock) ∧ some k_ ≠ (.slice Ao35 t250.length co35 : Value).ownBlock) ∧ some k_ ≠ (.slice Ao113 t253.length co113 : Value).ownBlock)) (n := t257.length) (c := co121) ?_).2.2; exact (by (with_reducible repeat (first | apply Kd.R_alloc | apply Kd.R_drewN | apply Kd.R_drew)); exact (Kd.R_mono (Kd.R_far (p := ⟨gb261, 1, none⟩) (Kd.R_far (p := ⟨gb261, 0, none⟩) (Kd.R_types HO259.out BK261.out (by decide)) (fun _ hk => hk.2) (.int .i64 t256)) (fun _ hk => hk.2) (.slice Ao121 t257.length co121)) (fun _ h_ => h_.1)))); (case side2 => exact (Kd.R_reads' HO259.out).2.1); (case side3 => refine (Kd.R_reads' (e := 57) (base := w.heap.size) (ok := fun k_ => (((some k_ ≠ (.slice Ao28 t247.length co28 : Value).ownBlock ∧ some k_ ≠ (.slice Ao35 t250.length co35 : Value).ownBlock) ∧ some k_ ≠ (.slice Ao113 t253.length co113 : Value).ownBlock) ∧ some k_ ≠ (.slice Ao121 t257.length co121 : Value).ownBlock)) (n := t224.length) (c := co21) ?_).2.2; exact (by (with_reducible repeat (first | apply Kd.R_alloc | apply Kd.R_drewN | apply Kd.R_drew)); exact (Kd.R_mono (Kd.R_far (p := ⟨gb261, 1, none⟩) (Kd.R_far (p := ⟨gb261, 0, none⟩) (Kd.R_types HO_229001.out BK261.out (by decide)) (fun _ hk => hk.2) (.int .i64 t256)) (fun _ hk => hk.2) (.slice Ao121 t257.length co121)) (fun _ h_ => h_.1)))); (case side4 => exact (Kd.R_reads' HO_229001.out).2.1); rintro e w143 ⟨rfl, hb⟩; refine ⟨_, rfl, ?_⟩; replace HO_229001 := Aside0.mk (Kd.R_below (by (with_reducible repeat (first | apply Kd.R_alloc | apply Kd.R_drewN | apply Kd.R_drew)); exact (Kd.R_mono (Kd.R_far (p := ⟨gb261, 1, none⟩) (Kd.R_far (p := ⟨gb261, 0, none⟩) (Kd.R_types HO_229001.out BK261.out (by decide)) (fun _ hk => hk.2) (.int .i64 t256)) (fun _ hk => hk.2) (.slice Ao121 t257.length co121)) (fun _ h_ => h_.1))) hb); replace HO_234001 := Aside0.mk (Kd.R_below (by (with_reducible repeat (first | apply Kd.R_alloc | apply Kd.R_drewN | apply Kd.R_drew)); exact (Kd.R_mono (Kd.R_far (p := ⟨gb261, 1, none⟩) (Kd.R_far (p := ⟨gb261, 0, none⟩) (Kd.R_types HO_234001.out BK261.out (by decide)) (fun _ hk => hk.2) (.int .i64 t256)) (fun _ hk => hk.2) (.slice Ao121 t257.length co121)) (fun _ h_ => h_.1))) hb); replace HO_240001 := Aside0.mk (Kd.R_below (by (with_reducible repeat (first | apply Kd.R_alloc | apply Kd.R_drewN | apply Kd.R_drew)); exact (Kd.R_mono (Kd.R_far (p := ⟨gb261, 1, none⟩) (Kd.R_far (p := ⟨gb261, 0, none⟩) (Kd.R_types HO_240001.out BK261.out (by decide)) (fun _ hk => hk.2) (.int .i64 t256)) (fun _ hk => hk.2) (.slice Ao121 t257.length co121)) (fun _ h_ => h_.1))) hb); replace HO255 := Aside0.mk (Kd.R_below (by (with_reducible repeat (first | apply Kd.R_alloc | apply Kd.R_drewN | apply Kd.R_drew)); exact (Kd.R_mono (Kd.R_far (p := ⟨gb261, 1, none⟩) (Kd.R_far (p := ⟨gb261, 0, none⟩) (Kd.R_types HO255.out BK261.out (by decide)) (fun _ hk => hk.2) (.int .i64 t256)) (fun _ hk => hk.2) (.slice Ao121 t257.length co121)) (fun _ h_ => h_.1))) hb); replace HO259 := Aside0.mk (Kd.R_below (by (with_reducible repeat (first | apply Kd.R_alloc | apply Kd.R_drewN | apply Kd.R_drew)); exact (Kd.R_mono (Kd.R_far (p := ⟨gb261, 1, none⟩) (Kd.R_far (p := ⟨gb261, 0, none⟩) (Kd.R_types HO259.out BK261.out (by decide)) (fun _ hk => hk.2) (.int .i64 t256)) (fun _ hk => hk.2) (.slice Ao121 t257.length co121)) (fun _ h_ => h_.1))) hb); replace BK217 := Aside0.mk (blk_below (g := gb217) (o := .cells #[.int .i64 a0_0, .slice A0_1 l0_1.length c0_1] 24 (0, 0)) (by (with_reducible repeat (first | refine blk_drewN ?_ _ | refine blk_drew ?_ | refine blk_alloc ?_ _)); refine blk_far ?_ NB217_261.out _; (with_reducible repeat (first | refine blk_drewN ?_ _ | refine blk_drew ?_ | refine blk_alloc ?_ _)); refine blk_far ?_ NB217_261.out _; exact Bz BK217) hb); replace BK228 := Aside0.mk (blk_below (g := gb228) (o := .cells #[.int .i64 t223, .slice Ao21 t224.length co21] 30 (0, 0)) (by (with_reducible repeat (first | refine blk_drewN ?_ _ | refine blk_drew ?_ | refine blk_alloc ?_ _)); refine blk_far ?_ NB228_261.out _; (with_reducible repeat (first | refine blk_drewN ?_ _ | refine blk_drew ?_ | refine blk_alloc ?_ _)); refine blk_far ?_ NB228_261.out _; exact Bz BK228) hb); replace BK233 := Aside0.mk (blk_below (g := gb233) (o := .cells #[.int .i64 t229, .slice Ao28 t247.length co28] 30 (0, 0)) (by (with_reducible repeat (first | refine blk_drewN ?_ _ | refine blk_drew ?_ | refine blk_alloc ?_ _)); refine blk_far ?_ NB233_261.out _; (with_reducible repeat (first | refine blk_drewN ?_ _ | refine blk_drew ?_ | refine blk_alloc ?_ _)); refine blk_far ?_ NB233_261.out _; exact Bz BK233) hb); replace BK239 := Aside0.mk (blk_below (g := gb239) (o := .cells #[.int .i64 t234, .slice Ao35 t250.length co35] 30 (0, 0)) (by (with_reducible repeat (first | refine blk_drewN ?_ _ | refine blk_drew ?_ | refine blk_alloc ?_ _)); refine blk_far ?_ NB239_261.out _; (with_reducible repeat (first | refine blk_drewN ?_ _ | refine blk_drew ?_ | refine blk_alloc ?_ _)); refine blk_far ?_ NB239_261.out _; exact Bz BK239) hb); replace BK261 := Aside0.mk (blk_below (g := gb261) (o := .cells #[.int .i64 t256, .slice Ao121 t257.length co121] 30 (0, 0)) (by (with_reducible repeat (first | refine blk_drewN ?_ _ | refine blk_drew ?_ | refine blk_alloc ?_ _)); refine blk_put (cs := #[.int .i64 t256, .slice none 0 0]) ?_ 1 _ rfl; (with_reducible repeat (first | refine blk_drewN ?_ _ | refine blk_drew ?_ | refine blk_alloc ?_ _)); refine blk_put (cs := #[.int .i64 0, .slice none 0 0]) ?_ 0 _ rfl; exact Bz BK261) hb); replace HB := Aside0.mk (below_step (by first | exact Lz HB | repeat (first | (with_reducible first | exact HB.out | apply below_alloc | apply pw_below_drewN | apply below_drew1 | refine below_set ?_ GE217.out | refine below_set ?_ GE228.out | refine below_set ?_ GE233.out | refine below_set ?_ GE239.out | refine below_set ?_ GE261.out) | exact HB.out)) hb); (try clear hb); (try clear hb2); (try clear hk); (try clear hi)))
                  go_meet
                  case rel => exact ⟨_, (true), eqA, H', ⟨by have := HJ3.out; have := HJ12.out; have := HJ53.out; have := HJ57.out; have := HJ64.out; have := HJ89.out; have := HJ93.out; have := HJ102.out; first | omega | exact Nat.le_refl _⟩, ⟨by (try simp only [hl234001_64]); (try simp only [hl240001_93]); (with_reducible repeat (first | apply Kd.R_alloc | apply Kd.R_drewN | apply Kd.R_drew)); exact Kd.R_mono HO_229001.out (fun _ hk => ⟨hk.1.1.1, ⟨hk.1.1.2, hk.2⟩⟩)⟩, ⟨by (try simp only [hl234001_64]); (try simp only [hl240001_93]); (with_reducible repeat (first | apply Kd.R_alloc | apply Kd.R_drewN | apply Kd.R_drew)); exact Kd.R_mono HO_234001.out (fun _ hk => ⟨hk.1.1.1, ⟨hk.1.1.2, hk.2⟩⟩)⟩, ⟨by (try simp only [hl234001_64]); (try simp only [hl240001_93]); (with_reducible repeat (first | apply Kd.R_alloc | apply Kd.R_drewN | apply Kd.R_drew)); exact Kd.R_mono HO_240001.out (fun _ hk => ⟨hk.1.1.1, ⟨hk.1.1.2, hk.2⟩⟩)⟩, ⟨by (try simp only [hl234001_64]); (try simp only [hl240001_93]); (with_reducible repeat (first | apply Kd.R_alloc | apply Kd.R_drewN | apply Kd.R_drew)); exact Kd.R_mono HO259.out (fun _ hk => ⟨hk.1.1.1.2, ⟨hk.1.1.2, hk.1.2⟩⟩)⟩, ⟨by (try simp only [hl234001_64]); (try simp only [hl240001_93]); exact Bz BK217⟩, ⟨by (try simp only [hl234001_64]); (try simp only [hl240001_93]); exact Bz BK228⟩, ⟨by (try simp only [hl234001_64]); (try simp only [hl240001_93]); exact Bz BK233⟩, ⟨by (try simp only [hl234001_64]); (try simp only [hl240001_93]); exact Bz BK239⟩, ⟨by (try simp only [hl234001_64]); (try simp only [hl240001_93]); exact Bz BK261⟩, ⟨by first | exact Lz HB | repeat (first | (with_reducible first | exact HB.out | apply below_alloc | apply pw_below_drewN | apply below_drew1 | refine below_set ?_ GE217.out | refine below_set ?_ GE228.out | refine below_set ?_ GE233.out | refine below_set ?_ GE239.out | refine below_set ?_ GE261.out) | exact HB.out)⟩⟩
                 case rest =>
                  clear HC107
                  try clear c8
                  try clear c8b0
                  try clear c37
                  try clear c55
                  try clear c63
                  try clear c71
                  try clear c71b0
                  try clear c73
                  try clear c91
                  try clear c102
                  try clear c102b0
                  try clear c104
                  try clear c104b0
                  try clear c104b1
                  try clear c123
                  obtain ⟨kq, x92_106, rfl, HA, HJ106, HO_229001, HO_234001, HO_240001, HO_262001, BK217, BK228, BK233, BK239, BK261, HB⟩ := hcut
                  cases kq with
                  | zero => exact absurd HA.out (by simp [laws_FnExactDropEdge.j8])
                  | succ kj106 =>
                   have H := HA.out
                   clear HA
                   simp only [laws_FnExactDropEdge.j8] at H
                   have HC144 := Aside0.mk H
                   clear H
                   go_upto_if 92 with (fail)
                   go_cut [] (fun wc => ∃ (kq : Nat), Aside0 (laws_FnExactDropEdge.j9 kq t249 t234 t250 = some r) ∧ Aside0 (kq ≤ kj106) ∧ Aside0 (Kd.R k57 57 wc w.heap.size (fun k_ => some k_ ≠ ((.slice Ao28 t247.length co28) : Value).ownBlock ∧ some k_ ≠ ((.slice Ao35 t250.length co35) : Value).ownBlock ∧ some k_ ≠ ((.slice Ao121 t257.length co121) : Value).ownBlock) (.slice Ao21 t224.length co21) t224) ∧ Aside0 (Kd.R k57 57 wc w.heap.size (fun k_ => some k_ ≠ ((.slice Ao21 t224.length co21) : Value).ownBlock ∧ some k_ ≠ ((.slice Ao35 t250.length co35) : Value).ownBlock ∧ some k_ ≠ ((.slice Ao121 t257.length co121) : Value).ownBlock) (.slice Ao28 t247.length co28) t247) ∧ Aside0 (Kd.R k57 57 wc w.heap.size (fun k_ => some k_ ≠ ((.slice Ao21 t224.length co21) : Value).ownBlock ∧ some k_ ≠ ((.slice Ao28 t247.length co28) : Value).ownBlock ∧ some k_ ≠ ((.slice Ao121 t257.length co121) : Value).ownBlock) (.slice Ao35 t250.length co35) t250) ∧ Aside0 (Kd.R k57 57 wc w.heap.size (fun k_ => some k_ ≠ ((.slice Ao21 t224.length co21) : Value).ownBlock ∧ some k_ ≠ ((.slice Ao28 t247.length co28) : Value).ownBlock ∧ some k_ ≠ ((.slice Ao35 t250.length co35) : Value).ownBlock) (.slice Ao121 t257.length co121) t257) ∧ Aside0 (wc.heap[gb217]? = some (.cells #[.int .i64 a0_0, (.slice A0_1 l0_1.length c0_1)] 24 (0, 0))) ∧ Aside0 (wc.heap[gb228]? = some (.cells #[.int .i64 t223, (.slice Ao21 t224.length co21)] 30 (0, 0))) ∧ Aside0 (wc.heap[gb233]? = some (.cells #[.int .i64 t229, (.slice Ao28 t247.length co28)] 30 (0, 0))) ∧ Aside0 (wc.heap[gb239]? = some (.cells #[.int .i64 t234, (.slice Ao35 t250.length co35)] 30 (0, 0))) ∧ Aside0 (wc.heap[gb261]? = some (.cells #[.int .i64 t256, (.slice Ao121 t257.length co121)] 30 (0, 0))) ∧ Aside0 (Below w.heap.size w wc))
                   case first =>
                    have H := HC144.out
                    clear HC144
                    by_cases c145 : x92_106 = true
                    ·subst c145
                     have H1 : (some false) = some r := by rw [if_pos rfl] at H; exact H
                     clear H
                     have H := H1
                     clear H1
                     exact absurd (Option.some.inj H) (by rw [HR_.out]; decide)
                    replace c145 := Bool.eq_false_iff.mpr c145
                    subst c145
                    have H1 : (laws_FnExactDropEdge.j9 kj106 t249 t234 t250) = some r := by rw [if_neg (show ¬ (false = true) by decide)] at H; exact H
                    clear H
                    have H := H1
                    clear H1
                    have H' := Aside0.mk H
                    clear H
                    go_wp2
                    go_meet
                    case rel => exact ⟨_, H', ⟨by have := HJ3.out; have := HJ12.out; have := HJ53.out; have := HJ57.out; have := HJ64.out; have := HJ89.out; have := HJ93.out; have := HJ102.out; have := HJ106.out; first | omega | exact Nat.le_refl _⟩, ⟨by (try simp only [hl234001_64]); (try simp only [hl240001_93]); exact Rz HO_229001⟩, ⟨by (try simp only [hl234001_64]); (try simp only [hl240001_93]); exact Rz HO_234001⟩, ⟨by (try simp only [hl234001_64]); (try simp only [hl240001_93]); exact Rz HO_240001⟩, ⟨by (try simp only [hl234001_64]); (try simp only [hl240001_93]); exact Rz HO_262001⟩, ⟨by (try simp only [hl234001_64]); (try simp only [hl240001_93]); exact Bz BK217⟩, ⟨by (try simp only [hl234001_64]); (try simp only [hl240001_93]); exact Bz BK228⟩, ⟨by (try simp only [hl234001_64]); (try simp only [hl240001_93]); exact Bz BK233⟩, ⟨by (try simp only [hl234001_64]); (try simp only [hl240001_93]); exact Bz BK239⟩, ⟨by (try simp only [hl234001_64]); (try simp only [hl240001_93]); exact Bz BK261⟩, ⟨by first | exact Lz HB | repeat (first | (with_reducible first | exact HB.out | apply below_alloc | apply pw_below_drewN | apply below_drew1 | refine below_set ?_ GE217.out | refine below_set ?_ GE228.out | refine below_set ?_ GE233.out | refine below_set ?_ GE239.out | refine below_set ?_ GE261.out) | exact HB.out)⟩⟩
                   case rest =>
                    clear HC144
                    try clear c8
                    try clear c8b0
                    try clear c37
                    try clear c55
                    try clear c63
                    try clear c71
                    try clear c71b0
                    try clear c73
                    try clear c91
                    try clear c102
                    try clear c102b0
                    try clear c104
                    try clear c104b0
                    try clear c104b1
                    try clear c123
                    try clear c145
                    obtain ⟨kq, HA, HJ143, HO_229001, HO_234001, HO_240001, HO_262001, BK217, BK228, BK233, BK239, BK261, HB⟩ := hcut
                    cases kq with
                    | zero => exact absurd HA.out (by simp [laws_FnExactDropEdge.j9])
                    | succ kj143 =>
                     have H := HA.out
                     clear HA
                     simp only [laws_FnExactDropEdge.j9] at H
                     replace H := Option.bind_eq_some_iff.mp H
                     obtain ⟨t263, A1460, H⟩ := H
                     replace H : (if t263 < 0 then (some false) else (laws_FnExactDropEdge.j10 kj143 t249 t263)) = some r := H
                     have A146 := Aside0.mk A1460
                     clear A1460
                     have HC147 := Aside0.mk H
                     clear H
                     have hnb148 := NB239_217.out
                     have hnc148 := NB217_239.out
                     have hnb149 := NB239_228.out
                     have hnc149 := NB228_239.out
                     have hnb150 := NB239_233.out
                     have hnc150 := NB233_239.out
                     have hnb151 := NB239_261.out
                     have hnc151 := NB261_239.out
                     have hcz152_0 : wc.cell? ⟨gb239, 0, none⟩ = some (.int .i64 t234) := (blk_cell BK239.out 0).trans rfl
                     have hcz152_1 : wc.cell? ⟨gb239, 1, none⟩ = some (.slice Ao35 t250.length co35) := (blk_cell BK239.out 1).trans rfl
                     have hfz152_0 := blk_frozen BK239.out 0
                     have hfz152_1 := blk_frozen BK239.out 1
                     go_upto_if 97 with (first | ((with_reducible refine gate_callee (f := 35) rfl ?_); refine goesM_ (some 95) rfl rfl Try.func35 (by kernel_rfl) rfl #[.agg #[.int .i64 t234, .slice Ao35 t250.length co35], .int .i64 1] rfl ?_; (with_reducible refine (laws_heldGraph.calls kj143 t234 _ _ t250 1 t263 _ ?side1 ?side2 A146.out).mono ?_); (case side1 => exact Cz ((Kd.R_reads' HO_240001.out).2.2)); (case side2 => exact (Kd.R_reads' HO_240001.out).2.1); rintro e w153 ⟨rfl, hb⟩; refine ⟨_, rfl, ?_⟩; replace HO_229001 := Aside0.mk (Kd.R_below (Rz HO_229001) hb); replace HO_234001 := Aside0.mk (Kd.R_below (Rz HO_234001) hb); replace HO_240001 := Aside0.mk (Kd.R_below (Rz HO_240001) hb); replace HO_262001 := Aside0.mk (Kd.R_below (Rz HO_262001) hb); replace BK217 := Aside0.mk (blk_below (g := gb217) (o := .cells #[.int .i64 a0_0, .slice A0_1 l0_1.length c0_1] 24 (0, 0)) (Bz BK217) hb); replace BK228 := Aside0.mk (blk_below (g := gb228) (o := .cells #[.int .i64 t223, .slice Ao21 t224.length co21] 30 (0, 0)) (Bz BK228) hb); replace BK233 := Aside0.mk (blk_below (g := gb233) (o := .cells #[.int .i64 t229, .slice Ao28 t247.length co28] 30 (0, 0)) (Bz BK233) hb); replace BK239 := Aside0.mk (blk_below (g := gb239) (o := .cells #[.int .i64 t234, .slice Ao35 t250.length co35] 30 (0, 0)) (Bz BK239) hb); replace BK261 := Aside0.mk (blk_below (g := gb261) (o := .cells #[.int .i64 t256, .slice Ao121 t257.length co121] 30 (0, 0)) (Bz BK261) hb); replace HB := Aside0.mk (below_step (by first | exact Lz HB | repeat (first | (with_reducible first | exact HB.out | apply below_alloc | apply pw_below_drewN | apply below_drew1 | refine below_set ?_ GE217.out | refine below_set ?_ GE228.out | refine below_set ?_ GE233.out | refine below_set ?_ GE239.out | refine below_set ?_ GE261.out) | exact HB.out)) hb); (try clear hb); (try clear hb2); (try clear hk); (try clear hi)))
                     (try simp only [Act.put, List.setIfInBounds_toArray, List.set_cons_zero, List.set_cons_succ])
                     go_cut [] (fun wc => ∃ (kq : Nat), Aside0 (laws_FnExactDropEdge.j10 kq t249 t263 = some r) ∧ Aside0 (kq ≤ kj143) ∧ Aside0 (Kd.R k57 57 wc w.heap.size (fun k_ => some k_ ≠ ((.slice Ao28 t247.length co28) : Value).ownBlock ∧ some k_ ≠ ((.slice Ao35 t250.length co35) : Value).ownBlock ∧ some k_ ≠ ((.slice Ao121 t257.length co121) : Value).ownBlock) (.slice Ao21 t224.length co21) t224) ∧ Aside0 (Kd.R k57 57 wc w.heap.size (fun k_ => some k_ ≠ ((.slice Ao21 t224.length co21) : Value).ownBlock ∧ some k_ ≠ ((.slice Ao35 t250.length co35) : Value).ownBlock ∧ some k_ ≠ ((.slice Ao121 t257.length co121) : Value).ownBlock) (.slice Ao28 t247.length co28) t247) ∧ Aside0 (Kd.R k57 57 wc w.heap.size (fun k_ => some k_ ≠ ((.slice Ao21 t224.length co21) : Value).ownBlock ∧ some k_ ≠ ((.slice Ao28 t247.length co28) : Value).ownBlock ∧ some k_ ≠ ((.slice Ao121 t257.length co121) : Value).ownBlock) (.slice Ao35 t250.length co35) t250) ∧ Aside0 (Kd.R k57 57 wc w.heap.size (fun k_ => some k_ ≠ ((.slice Ao21 t224.length co21) : Value).ownBlock ∧ some k_ ≠ ((.slice Ao28 t247.length co28) : Value).ownBlock ∧ some k_ ≠ ((.slice Ao35 t250.length co35) : Value).ownBlock) (.slice Ao121 t257.length co121) t257) ∧ Aside0 (wc.heap[gb217]? = some (.cells #[.int .i64 a0_0, (.slice A0_1 l0_1.length c0_1)] 24 (0, 0))) ∧ Aside0 (wc.heap[gb228]? = some (.cells #[.int .i64 t223, (.slice Ao21 t224.length co21)] 30 (0, 0))) ∧ Aside0 (wc.heap[gb233]? = some (.cells #[.int .i64 t229, (.slice Ao28 t247.length co28)] 30 (0, 0))) ∧ Aside0 (wc.heap[gb239]? = some (.cells #[.int .i64 t234, (.slice Ao35 t250.length co35)] 30 (0, 0))) ∧ Aside0 (wc.heap[gb261]? = some (.cells #[.int .i64 t256, (.slice Ao121 t257.length co121)] 30 (0, 0))) ∧ Aside0 (Below w.heap.size w wc))
                     case first =>
                      have H := HC147.out
                      clear HC147
                      by_cases c154 : t263 < 0
                      ·rw [if_pos c154] at H
                       have c154b0 : decide (t263 < 0) = true := decide_eq_true c154
                       clear c154
                       (first | rw [c154b0] | (simp only [i64_w, i32_w]; rw [c154b0]) | skip)
                       obtain rfl := Option.some.inj H
                       go_wp2
                       go_ret
                       exact ⟨by first | rfl | (simp [errW_none, errW_some] <;> rfl) | (simp [*, errW_none, errW_some] <;> rfl), by first | exact Lz HB | repeat (first | (with_reducible first | exact HB.out | apply below_alloc | apply pw_below_drewN | apply below_drew1 | refine below_set ?_ GE217.out | refine below_set ?_ GE228.out | refine below_set ?_ GE233.out | refine below_set ?_ GE239.out | refine below_set ?_ GE261.out) | exact HB.out)⟩
                      rw [if_neg c154] at H
                      have c154b0 : decide (t263 < 0) = false := decide_eq_false c154
                      clear c154
                      (first | rw [c154b0] | (simp only [i64_w, i32_w]; rw [c154b0]) | skip)
                      have H' := Aside0.mk H
                      clear H
                      go_wp2
                      go_meet
                      case rel => exact ⟨_, H', ⟨by have := HJ3.out; have := HJ12.out; have := HJ53.out; have := HJ57.out; have := HJ64.out; have := HJ89.out; have := HJ93.out; have := HJ102.out; have := HJ106.out; have := HJ143.out; first | omega | exact Nat.le_refl _⟩, ⟨by (try simp only [hl234001_64]); (try simp only [hl240001_93]); exact Rz HO_229001⟩, ⟨by (try simp only [hl234001_64]); (try simp only [hl240001_93]); exact Rz HO_234001⟩, ⟨by (try simp only [hl234001_64]); (try simp only [hl240001_93]); exact Rz HO_240001⟩, ⟨by (try simp only [hl234001_64]); (try simp only [hl240001_93]); exact Rz HO_262001⟩, ⟨by (try simp only [hl234001_64]); (try simp only [hl240001_93]); exact Bz BK217⟩, ⟨by (try simp only [hl234001_64]); (try simp only [hl240001_93]); exact Bz BK228⟩, ⟨by (try simp only [hl234001_64]); (try simp only [hl240001_93]); exact Bz BK233⟩, ⟨by (try simp only [hl234001_64]); (try simp only [hl240001_93]); exact Bz BK239⟩, ⟨by (try simp only [hl234001_64]); (try simp only [hl240001_93]); exact Bz BK261⟩, ⟨by first | exact Lz HB | repeat (first | (with_reducible first | exact HB.out | apply below_alloc | apply pw_below_drewN | apply below_drew1 | refine below_set ?_ GE217.out | refine below_set ?_ GE228.out | refine below_set ?_ GE233.out | refine below_set ?_ GE239.out | refine below_set ?_ GE261.out) | exact HB.out)⟩⟩
                     case rest =>
                      clear HC147
                      try clear c8
                      try clear c8b0
                      try clear c37
                      try clear c55
                      try clear c63
                      try clear c71
                      try clear c71b0
                      try clear c73
                      try clear c91
                      try clear c102
                      try clear c102b0
                      try clear c104
                      try clear c104b0
                      try clear c104b1
                      try clear c123
                      try clear c145
                      try clear c154
                      try clear c154b0
                      obtain ⟨kq, HA, HJ146, HO_229001, HO_234001, HO_240001, HO_262001, BK217, BK228, BK233, BK239, BK261, HB⟩ := hcut
                      cases kq with
                      | zero => exact absurd HA.out (by simp [laws_FnExactDropEdge.j10])
                      | succ kj146 =>
                       have H := HA.out
                       clear HA
                       simp only [laws_FnExactDropEdge.j10] at H
                       by_cases c155 : t263 = t249
                       ·rw [if_pos c155] at H
                        have c155b0 : (t263 == t249) = true := beq_iff_eq.mpr c155
                        have c155b1 : (t263 != t249) = false := bne_eq_false_iff_eq.mpr c155
                        clear c155
                        obtain rfl := Option.some.inj H
                        go_wp2
                        go_ret
                        exact ⟨by first | rfl | (simp [errW_none, errW_some] <;> rfl) | (simp [*, errW_none, errW_some] <;> rfl), by first | exact Lz HB | repeat (first | (with_reducible first | exact HB.out | apply below_alloc | apply pw_below_drewN | apply below_drew1 | refine below_set ?_ GE217.out | refine below_set ?_ GE228.out | refine below_set ?_ GE233.out | refine below_set ?_ GE239.out | refine below_set ?_ GE261.out) | exact HB.out)⟩
                       rw [if_neg c155] at H
                       have c155b0 : (t263 == t249) = false := beq_eq_false_iff_ne.mpr c155
                       have c155b1 : (t263 != t249) = true := bne_iff_ne.mpr c155
                       obtain rfl := Option.some.inj H
                       go_wp2
                       go_ret
                       exact ⟨by first | rfl | (simp [errW_none, errW_some] <;> rfl) | (simp [*, errW_none, errW_some] <;> rfl), by first | exact Lz HB | repeat (first | (with_reducible first | exact HB.out | apply below_alloc | apply pw_below_drewN | apply below_drew1 | refine below_set ?_ GE217.out | refine below_set ?_ GE228.out | refine below_set ?_ GE233.out | refine below_set ?_ GE239.out | refine below_set ?_ GE261.out) | exact HB.out)⟩
end Go.Proofs.Ytplcclifmajcfaa.P
end
section
namespace Go.Proofs.Ytplcclifmajcfaa.Pure
open Go.RowKit Go.Proofs.Ytplcclifmajcfaa.P Go.Proofs.YtplcclifmajcfaaW.PrintWords Go.Proofs.YtplcclifmajcfaaW.PrintLast Go.Proofs.YtplcclifmajcfaaW.PrintMore
def StatFnExactDropEdge : Prop := ∀ (a0_0 : Int) (l0_1 : List (S82)) (a1 : Int), ((Lit.int .i64 a0_0).wf = true ∧ (l0_1.length ≤ maxLen ∧ ∀ x4 ∈ l0_1, (Lit.int .i64 x4.f0).wf = true ∧ (Lit.int .i64 x4.f1).wf = true)) → (Lit.int .i64 a1).wf = true → ∃ k, laws_FnExactDropEdge.f k a0_0 l0_1 a1 = some true
end Go.Proofs.Ytplcclifmajcfaa.Pure
end
section
set_option linter.unusedVariables false
set_option linter.unusedSimpArgs false
namespace Go.Proofs.Ytplcclifmajcfaa.Pure
open Go.RowKit Go.Proofs.Ytplcclifmajcfaa.P Go.Proofs.YtplcclifmajcfaaW.PrintWords Go.Proofs.YtplcclifmajcfaaW.PrintLast Go.Proofs.YtplcclifmajcfaaW.PrintMore Go.Proofs.Ytplcclifmajcfaa.Base Go.Proofs.Ytplcclifmajcfaa.Loops
def cvE (e : S82) : S57 := ⟨e.f0, e.f1⟩
theorem rd_IE {l : List S57} {i : Nat} {a : S57} {r : List S57} (h : l.drop i = a :: r) : rd_T57 l (i : Int) = a := by
  unfold rd_T57
  rw [Int.toNat_natCast]
  exact get_drop h _
theorem rd_LE {l : List S82} {i : Nat} {a : S82} {r : List S82} (h : l.drop i = a :: r) : rd_T82 l (i : Int) = a := by
  unfold rd_T82
  rw [Int.toNat_natCast]
  exact get_drop h _
theorem szGraph_eq (a : Int) (l : List S82) (hl : l.length ≤ maxLen) (n : Int) (h0 : 0 ≤ n) (h1 : n ≤ 1048576) : laws_szGraph.f a l n = some (if (l.length : Int) ≤ n then n - l.length else -1) := by
  unfold maxLen at hl
  unfold laws_szGraph.f laws_szEdgeS.f
  have e : wrap64 (n - (l.length : Int)) = n - l.length := by unfold wrap64; omega
  rw [e]
  by_cases h : (l.length : Int) ≤ n
  · rw [if_neg (by omega), if_pos h]
    simp only [Option.bind_some]
    rw [if_neg (by omega)]
  · rw [if_pos (by omega), if_neg h]
    rfl
theorem toEdgeS_l0 (l : List S82) (hl : l.length < 4611686018427387904) : ∀ (d k i : Nat) (x : List S57), i + d = l.length → x.length = l.length → x.take i = (l.map cvE).take i → d < k → laws_toEdgeS.l0 k l x (i : Int) = some (l.map cvE) := by
  intro d
  induction d with
  | zero =>
    intro k i x hi hx ht hk
    obtain ⟨k, rfl⟩ := succ_of_lt hk
    simp only [laws_toEdgeS.l0]
    rw [if_neg (by omega), fill_end (x := x) (y := l.map cvE) (by simpa using hx) (by rw [List.length_map, show l.length = i by omega]; exact ht)]
  | succ d ih =>
    intro k i x hi hx ht hk
    obtain ⟨k, rfl⟩ := succ_of_lt hk
    have hlt : i < l.length := by omega
    have hd := List.drop_eq_getElem_cons hlt
    simp only [laws_toEdgeS.l0, laws_toEdge.f, Option.bind_some]
    rw [if_pos (by omega), if_pos (by omega), if_pos (by omega), wrap_succ (by omega), rd_LE hd, Int.toNat_natCast]
    refine ih k (i + 1) _ (by omega) (by simpa using hx) ?_ (by omega)
    refine fill_step (rest := (l.map cvE).drop (i + 1)) (by simpa using hx) ht ?_
    rw [List.drop_eq_getElem_cons (by simpa using hlt)]
    simp [cvE]
theorem toGraph_ev (a : Int) (l : List S82) (hl : l.length ≤ 1048576) : Ev (fun k => laws_toGraph.f k a l) (a, l.map cvE) := by
  refine ev_k l.length fun k hk => ?_
  unfold laws_toGraph.f laws_toEdgeS.f
  rw [if_pos (by omega), if_pos (by omega), show (0 : Int) = ((0 : Nat) : Int) from rfl, toEdgeS_l0 l (by omega) l.length k 0 _ (by omega) (by simp) (by simp) hk]
  rfl
theorem eqEdgeS_ev (l : List S57) (hl : l.length < 4611686018427387904) : Ev (fun k => laws_eqEdgeS.f k l l) true := by
  simp only [laws_eqEdgeS.f, if_true]
  refine ev_list0 l (fun k (_ : Unit) i => laws_eqEdgeS.l0 k l l i) (fun _ _ => true) (fun _ _ => True) (fun s _ => ev1 fun k => ?_) (fun s a rest i hlt hd _ => Or.inr ⟨(), trivial, rfl, 0, fun k _ => ?_⟩) () trivial
  · simp only [laws_eqEdgeS.l0]
    rw [if_neg (by omega)]
  · simp only [laws_eqEdgeS.l0, laws_eqEdge.f, if_true, Option.bind_some]
    rw [if_pos (by omega), if_pos (by omega), if_pos (by omega), wrap_succ (by omega)]
theorem eqGraph_ev (a : Int) (l : List S57) (hl : l.length < 4611686018427387904) : Ev (fun k => laws_eqGraph.f k a l a l) true := by
  simp only [laws_eqGraph.f, if_true]
  refine Ev.bind (eqEdgeS_ev l hl) ?_
  simp only [if_true]
  exact Ev.now _
theorem map_cv_length (l : List S82) : (l.map cvE).length = l.length := List.length_map ..
end Go.Proofs.Ytplcclifmajcfaa.Pure
end
