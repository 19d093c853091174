/- Functions of the program as plain Lean functions and that the machine's calls answer as they do, the words of the print that these use, lemmas and plain proofs of laws. Put together by a program of this work that leaves out what nothing uses; Lean checks it. -/
import Derived.Test.YtnebapnfkolflaaG1badb9adf4
import Derived.Test.YtnebapnfkolflaaG5b76c7e540
section
namespace Go.Proofs.Ytnebapnfkolflaa.P
open Go.RowKit Go.Proofs.YtnebapnfkolflaaW.PrintWords Go.Proofs.YtnebapnfkolflaaW.PrintLast Go.Proofs.YtnebapnfkolflaaW.PrintMore
attribute [local go_sem] max2_int min2_int max_two min_two max_three min_three max_four min_four
set_option linter.unusedVariables false
set_option linter.unusedSimpArgs false
mutual
def impl_Valence.j0 : Nat → Int → Bool → Int → List (S70) → Option (Int)
 | 0, _, _, _, _ => none
 | k + 1, x1, x15, x275000, x275001 => if x15 = true then (some 0) else (impl_Valence.l0 k x1 0 x275001 (x275001.length : Int) 0)
def impl_Valence.l0 : Nat → Int → Int → List (S70) → Int → Int → Option (Int)
 | 0, _, _, _, _, _ => none
 | k + 1, x1, x5, x17, x18, x19 => if x19 < x18 then (if 0 ≤ x19 then (if x19 < (x17.length : Int) then (if ((rd_T70 x17 x19).f0) = x1 then (impl_Valence.l0 k x1 (wrap64 (x5 + 1)) x17 x18 (wrap64 (x19 + 1))) else (if ((rd_T70 x17 x19).f1) = x1 then (impl_Valence.l0 k x1 (wrap64 (x5 + 1)) x17 x18 (wrap64 (x19 + 1))) else (impl_Valence.l0 k x1 x5 x17 x18 (wrap64 (x19 + 1))))) else (none)) else (none)) else (some x5)
end
def impl_Valence.f (k : Nat) (a0_0 : Int) (l0_1 : List (S70)) (a1 : Int) : Option (Int) := if a1 < 0 then (impl_Valence.j0 k a1 true a0_0 l0_1) else (impl_Valence.j0 k a1 (decide (a1 ≥ a0_0)) a0_0 l0_1)
set_option maxHeartbeats 8000000 in
set_option maxRecDepth 100000 in
theorem impl_Valence.calls (k : Nat) (a0_0 : Int) (A0_1 : Option Addr) (c0_1 : Nat) (l0_1 : List (S70)) (a1 : Int) (r : Int) (w : World) (hr0_1 : Kd.C k70 w A0_1 l0_1.length l0_1) (hc0_1 : l0_1.length ≤ c0_1) (h : impl_Valence.f k a0_0 l0_1 a1 = some r) :
  Calls Try.prog 59 #[.agg #[.int .i64 a0_0, .slice A0_1 l0_1.length c0_1], .int .i64 a1] w fun e w' => e = .returned (.int .i64 r) ∧ Below w.heap.size w w' := by
 have hu25 := Try.underlying25
 have hu70 := Try.underlying70
 have HR0_1 := Aside0.mk hr0_1
 have HC0_1 := Aside0.mk hc0_1
 clear hr0_1 hc0_1
 have HB := Aside0.mk (Below.refl w.heap.size w)
 have H : (if a1 < 0 then (impl_Valence.j0 k a1 true a0_0 l0_1) else (impl_Valence.j0 k a1 (decide (a1 ≥ a0_0)) a0_0 l0_1)) = some r := h
 clear h
 have HC3 := Aside0.mk H
 clear H
 go_enter Try.func59, Try.ntmps59
 go_upto_region 1 with (first | ((with_reducible refine gate_dst (N := 2) rfl ?_); refine box_event ?hg (N := 2) ?hd (cs := #[.int .i64 a0_0, .slice A0_1 l0_1.length c0_1]) (t := 25) ?hr ?_; (case hd => rfl); (case hg => rfl); (case hr => first | (go_simp; done) | (go_simp; rfl)); intro gb274 hg w4 hbox hb; have BK274 := Aside0.mk (hbox); have GW274 := Aside0.mk ((by rw [hg]; exact (below_size (Lz HB)) : w.heap.size ≤ gb274)); have GE274 := Aside0.mk ((by rw [hg]; exact (below_size (Lz HB)) : w.heap.size ≤ gb274)); replace HB := Aside0.mk (below_step (Lz HB) hb); clear hb hbox hg))
 (try simp only [Act.put, List.setIfInBounds_toArray, List.set_cons_zero, List.set_cons_succ])
 go_cut [15] (fun v15 wc => ∃ (kq : Nat) (x15_2 : Bool), v15 = .bool x15_2 ∧ Aside0 (impl_Valence.j0 kq a1 x15_2 a0_0 l0_1 = some r) ∧ Aside0 (kq ≤ k) ∧ Aside0 (wc.heap[gb274]? = some (.cells #[.int .i64 a0_0, (.slice A0_1 l0_1.length c0_1)] 25 (0, 0))) ∧ Aside0 (Below w.heap.size w wc))
 case first =>
  have H := HC3.out
  clear HC3
  by_cases c5 : a1 < 0
  ·rw [if_pos c5] at H
   have c5b0 : decide (a1 < 0) = true := decide_eq_true c5
   clear c5
   (first | rw [c5b0] | (simp only [i64_w, i32_w]; rw [c5b0]) | skip)
   have H' := Aside0.mk H
   clear H
   go_wp2
   go_meet
   case rel => exact ⟨_, (true), (by first | rfl | (simp; done) | (simp [*]; done)), H', ⟨by first | omega | exact Nat.le_refl _⟩, ⟨by exact Bz BK274⟩, ⟨by exact Lz1 HB GE274⟩⟩
  rw [if_neg c5] at H
  have c5b0 : decide (a1 < 0) = false := decide_eq_false c5
  clear c5
  (first | rw [c5b0] | (simp only [i64_w, i32_w]; rw [c5b0]) | skip)
  have H' := Aside0.mk H
  clear H
  have hcz6_0 : w4.cell? ⟨gb274, 0, none⟩ = some (.int .i64 a0_0) := (blk_cell BK274.out 0).trans rfl
  have hcz6_1 : w4.cell? ⟨gb274, 1, none⟩ = some (.slice A0_1 l0_1.length c0_1) := (blk_cell BK274.out 1).trans rfl
  have hfz6_0 := blk_frozen BK274.out 0
  have hfz6_1 := blk_frozen BK274.out 1
  go_wp2
  go_meet
  case rel => exact ⟨_, (decide (a1 ≥ a0_0)), (by first | rfl | (simp; done) | (simp [*]; done)), H', ⟨by first | omega | exact Nat.le_refl _⟩, ⟨by exact Bz BK274⟩, ⟨by exact Lz1 HB GE274⟩⟩
 case rest =>
  clear HC3
  try clear c5
  try clear c5b0
  obtain ⟨kq, x15_2, rfl, HA, HJ2, BK274, HB⟩ := hcut
  cases kq with
  | zero => exact absurd HA.out (by simp [impl_Valence.j0])
  | succ kj2 =>
   have H := HA.out
   clear HA
   simp only [impl_Valence.j0] at H
   by_cases c7 : x15_2 = true
   ·subst c7
    have H1 : (some 0) = some r := by rw [if_pos rfl] at H; exact H
    clear H
    have H := H1
    clear H1
    obtain rfl := Option.some.inj H
    go_wp2
    go_ret
    exact ⟨by first | rfl | (simp [errW_none, errW_some] <;> rfl) | (simp [*, errW_none, errW_some] <;> rfl), by exact Lz1 HB GE274⟩
   replace c7 := Bool.eq_false_iff.mpr c7
   subst c7
   have H1 : (impl_Valence.l0 kj2 a1 0 l0_1 (l0_1.length : Int) 0) = some r := by rw [if_neg (show ¬ (false = true) by decide)] at H; exact H
   clear H
   have H := H1
   clear H1
   have H' := Aside0.mk H
   clear H
   have hcz8_0 : wc.cell? ⟨gb274, 0, none⟩ = some (.int .i64 a0_0) := (blk_cell BK274.out 0).trans rfl
   have hcz8_1 : wc.cell? ⟨gb274, 1, none⟩ = some (.slice A0_1 l0_1.length c0_1) := (blk_cell BK274.out 1).trans rfl
   have hfz8_0 := blk_frozen BK274.out 0
   have hfz8_1 := blk_frozen BK274.out 1
   go_wp2
   go_loopg [5, 19] kj2 (fun kq v5 v19 w' => ∃ (x5_2 : Int) (x19_2 : Int), v5 = .int .i64 x5_2 ∧ v19 = .int .i64 x19_2 ∧ Aside0 (impl_Valence.l0 kq a1 x5_2 l0_1 (l0_1.length : Int) x19_2 = some r) ∧ Aside0 (kq ≤ kj2) ∧ Aside0 (w'.heap[gb274]? = some (.cells #[.int .i64 a0_0, (.slice A0_1 l0_1.length c0_1)] 25 (0, 0))) ∧ Aside0 (Below w.heap.size w w'))
   case atStart => exact ⟨(0), (0), (by first | rfl | (simp; done) | (simp [*]; done)), (by first | rfl | (simp; done) | (simp [*]; done)), H', ⟨Nat.le_refl _⟩, ⟨by exact Bz BK274⟩, ⟨by exact Lz1 HB GE274⟩⟩
   case round =>
    clear H'
    try clear c5
    try clear c5b0
    try clear c7
    obtain ⟨x5_2, x19_2, rfl, rfl, HA, HK2, BK274, HB⟩ := hrel
    cases gk with
    | zero => exact absurd HA.out (by simp [impl_Valence.l0])
    | succ k2 =>
     have H := HA.out
     clear HA
     simp only [impl_Valence.l0] at H
     by_cases c9 : x19_2 < (l0_1.length : Int)
     ·rw [if_pos c9] at H
      have c9b0 : decide (x19_2 < (l0_1.length : Int)) = true := decide_eq_true c9
      clear c9
      by_cases c10 : 0 ≤ x19_2
      ·rw [if_pos c10] at H
       have c10b0 : decide (0 ≤ x19_2) = true := decide_eq_true c10
       clear c10
       by_cases c11 : x19_2 < (l0_1.length : Int)
       ·rw [if_pos c11] at H
        have c11b0 : decide (x19_2 < (l0_1.length : Int)) = true := decide_eq_true c11
        clear c11
        by_cases c12 : ((rd_T70 l0_1 x19_2).f0) = a1
        ·rw [if_pos c12] at H
         have c12b0 : (((rd_T70 l0_1 x19_2).f0) == a1) = true := beq_iff_eq.mpr c12
         have c12b1 : (((rd_T70 l0_1 x19_2).f0) != a1) = false := bne_eq_false_iff_eq.mpr c12
         clear c12
         have H' := Aside0.mk H
         clear H
         have p275 : 0 ≤ (x19_2 : Int) := of_decide_eq_true (by first | (with_reducible assumption) | assumption)
         have q275 : x19_2 < (l0_1.length : Int) := of_decide_eq_true (by first | (with_reducible assumption) | assumption)
         obtain ⟨ad275, e275, hx275_0, hx275_1⟩ := at_T70 HR0_1.out x19_2 p275 q275
         cases e275
         replace hx275_0 := (HB.out.cell (World.block_lt_of_cell? w _ hx275_0)).trans hx275_0
         replace hx275_1 := (HB.out.cell (World.block_lt_of_cell? w _ hx275_1)).trans hx275_1
         replace p275 := eq_true p275
         replace q275 := eq_true q275
         go_wp2_with (first | ((with_reducible refine gate_dst (N := 7) rfl ?_); refine box_event ?hg (N := 7) ?hd (cs := #[.int .i64 0, .int .i64 0]) (t := 70) ?hr ?_; (case hd => rfl); (case hg => rfl); (case hr => first | (go_simp; done) | (go_simp; rfl)); intro gb276 hg w13 hbox hb; have BK276 := Aside0.mk (hbox); have GW276 := Aside0.mk ((by rw [hg]; exact (below_size (by exact Lz1 HB GE274)) : w.heap.size ≤ gb276)); have GE276 := Aside0.mk ((by rw [hg]; exact (below_size (by exact Lz1 HB GE274)) : w.heap.size ≤ gb276)); replace HB := Aside0.mk (below_step (by exact Lz1 HB GE274) hb); have NB274_276 := Aside0.mk ((by rw [hg]; exact Nat.ne_of_lt (blk_lt (g := gb274) (o := .cells #[.int .i64 a0_0, .slice (some ad275) l0_1.length c0_1] 25 (0, 0)) (Bz BK274)) : gb274 ≠ gb276)); have NB276_274 := Aside0.mk ((by rw [hg]; exact Nat.ne_of_gt (blk_lt (g := gb274) (o := .cells #[.int .i64 a0_0, .slice (some ad275) l0_1.length c0_1] 25 (0, 0)) (Bz BK274)) : gb276 ≠ gb274)); replace BK274 := Aside0.mk (blk_below (g := gb274) (o := .cells #[.int .i64 a0_0, .slice (some ad275) l0_1.length c0_1] 25 (0, 0)) (Bz BK274) hb); clear hb hbox hg; have hnb14 := NB276_274.out; have hnc14 := NB274_276.out; have hcz15_0 : w13.cell? ⟨gb276, 0, none⟩ = some (.int .i64 0) := (blk_cell BK276.out 0).trans rfl; have hcz15_1 : w13.cell? ⟨gb276, 1, none⟩ = some (.int .i64 0) := (blk_cell BK276.out 1).trans rfl; have hfz15_0 := blk_frozen BK276.out 0; have hfz15_1 := blk_frozen BK276.out 1))
         go_roundg k2
         case measure => have := HJ2.out; have := HK2.out; omega
         case rel => exact ⟨(wrap64 (x5_2 + 1)), (wrap64 (x19_2 + 1)), (by first | rfl | (simp; done) | (simp [*]; done)), (by first | rfl | (simp; done) | (simp [*]; done)), H', ⟨by have := HJ2.out; have := HK2.out; omega⟩, ⟨by (with_reducible repeat (first | refine blk_drewN ?_ _ | refine blk_drew ?_ | refine blk_alloc ?_ _)); refine blk_far ?_ NB274_276.out _; (with_reducible repeat (first | refine blk_drewN ?_ _ | refine blk_drew ?_ | refine blk_alloc ?_ _)); refine blk_far ?_ NB274_276.out _; exact Bz BK274⟩, ⟨by exact Lz2 HB GE274 GE276⟩⟩
        rw [if_neg c12] at H
        have c12b0 : (((rd_T70 l0_1 x19_2).f0) == a1) = false := beq_eq_false_iff_ne.mpr c12
        have c12b1 : (((rd_T70 l0_1 x19_2).f0) != a1) = true := bne_iff_ne.mpr c12
        by_cases c16 : ((rd_T70 l0_1 x19_2).f1) = a1
        ·rw [if_pos c16] at H
         have c16b0 : (((rd_T70 l0_1 x19_2).f1) == a1) = true := beq_iff_eq.mpr c16
         have c16b1 : (((rd_T70 l0_1 x19_2).f1) != a1) = false := bne_eq_false_iff_eq.mpr c16
         clear c16
         have H' := Aside0.mk H
         clear H
         have p275 : 0 ≤ (x19_2 : Int) := of_decide_eq_true (by first | (with_reducible assumption) | assumption)
         have q275 : x19_2 < (l0_1.length : Int) := of_decide_eq_true (by first | (with_reducible assumption) | assumption)
         obtain ⟨ad275, e275, hx275_0, hx275_1⟩ := at_T70 HR0_1.out x19_2 p275 q275
         cases e275
         replace hx275_0 := (HB.out.cell (World.block_lt_of_cell? w _ hx275_0)).trans hx275_0
         replace hx275_1 := (HB.out.cell (World.block_lt_of_cell? w _ hx275_1)).trans hx275_1
         replace p275 := eq_true p275
         replace q275 := eq_true q275
         go_wp2_with (first | ((with_reducible refine gate_dst (N := 7) rfl ?_); refine box_event ?hg (N := 7) ?hd (cs := #[.int .i64 0, .int .i64 0]) (t := 70) ?hr ?_; (case hd => rfl); (case hg => rfl); (case hr => first | (go_simp; done) | (go_simp; rfl)); intro gb276 hg w17 hbox hb; have BK276 := Aside0.mk (hbox); have GW276 := Aside0.mk ((by rw [hg]; exact (below_size (by exact Lz1 HB GE274)) : w.heap.size ≤ gb276)); have GE276 := Aside0.mk ((by rw [hg]; exact (below_size (by exact Lz1 HB GE274)) : w.heap.size ≤ gb276)); replace HB := Aside0.mk (below_step (by exact Lz1 HB GE274) hb); have NB274_276 := Aside0.mk ((by rw [hg]; exact Nat.ne_of_lt (blk_lt (g := gb274) (o := .cells #[.int .i64 a0_0, .slice (some ad275) l0_1.length c0_1] 25 (0, 0)) (Bz BK274)) : gb274 ≠ gb276)); have NB276_274 := Aside0.mk ((by rw [hg]; exact Nat.ne_of_gt (blk_lt (g := gb274) (o := .cells #[.int .i64 a0_0, .slice (some ad275) l0_1.length c0_1] 25 (0, 0)) (Bz BK274)) : gb276 ≠ gb274)); replace BK274 := Aside0.mk (blk_below (g := gb274) (o := .cells #[.int .i64 a0_0, .slice (some ad275) l0_1.length c0_1] 25 (0, 0)) (Bz BK274) hb); clear hb hbox hg; have hnb18 := NB276_274.out; have hnc18 := NB274_276.out; have hcz19_0 : w17.cell? ⟨gb276, 0, none⟩ = some (.int .i64 0) := (blk_cell BK276.out 0).trans rfl; have hcz19_1 : w17.cell? ⟨gb276, 1, none⟩ = some (.int .i64 0) := (blk_cell BK276.out 1).trans rfl; have hfz19_0 := blk_frozen BK276.out 0; have hfz19_1 := blk_frozen BK276.out 1))
         go_roundg k2
         case measure => have := HJ2.out; have := HK2.out; omega
         case rel => exact ⟨(wrap64 (x5_2 + 1)), (wrap64 (x19_2 + 1)), (by first | rfl | (simp; done) | (simp [*]; done)), (by first | rfl | (simp; done) | (simp [*]; done)), H', ⟨by have := HJ2.out; have := HK2.out; omega⟩, ⟨by (with_reducible repeat (first | refine blk_drewN ?_ _ | refine blk_drew ?_ | refine blk_alloc ?_ _)); refine blk_far ?_ NB274_276.out _; (with_reducible repeat (first | refine blk_drewN ?_ _ | refine blk_drew ?_ | refine blk_alloc ?_ _)); refine blk_far ?_ NB274_276.out _; exact Bz BK274⟩, ⟨by exact Lz2 HB GE274 GE276⟩⟩
        rw [if_neg c16] at H
        have c16b0 : (((rd_T70 l0_1 x19_2).f1) == a1) = false := beq_eq_false_iff_ne.mpr c16
        have c16b1 : (((rd_T70 l0_1 x19_2).f1) != a1) = true := bne_iff_ne.mpr c16
        have H' := Aside0.mk H
        clear H
        have p275 : 0 ≤ (x19_2 : Int) := of_decide_eq_true (by first | (with_reducible assumption) | assumption)
        have q275 : x19_2 < (l0_1.length : Int) := of_decide_eq_true (by first | (with_reducible assumption) | assumption)
        obtain ⟨ad275, e275, hx275_0, hx275_1⟩ := at_T70 HR0_1.out x19_2 p275 q275
        cases e275
        replace hx275_0 := (HB.out.cell (World.block_lt_of_cell? w _ hx275_0)).trans hx275_0
        replace hx275_1 := (HB.out.cell (World.block_lt_of_cell? w _ hx275_1)).trans hx275_1
        replace p275 := eq_true p275
        replace q275 := eq_true q275
        go_wp2_with (first | ((with_reducible refine gate_dst (N := 7) rfl ?_); refine box_event ?hg (N := 7) ?hd (cs := #[.int .i64 0, .int .i64 0]) (t := 70) ?hr ?_; (case hd => rfl); (case hg => rfl); (case hr => first | (go_simp; done) | (go_simp; rfl)); intro gb276 hg w20 hbox hb; have BK276 := Aside0.mk (hbox); have GW276 := Aside0.mk ((by rw [hg]; exact (below_size (by exact Lz1 HB GE274)) : w.heap.size ≤ gb276)); have GE276 := Aside0.mk ((by rw [hg]; exact (below_size (by exact Lz1 HB GE274)) : w.heap.size ≤ gb276)); replace HB := Aside0.mk (below_step (by exact Lz1 HB GE274) hb); have NB274_276 := Aside0.mk ((by rw [hg]; exact Nat.ne_of_lt (blk_lt (g := gb274) (o := .cells #[.int .i64 a0_0, .slice (some ad275) l0_1.length c0_1] 25 (0, 0)) (Bz BK274)) : gb274 ≠ gb276)); have NB276_274 := Aside0.mk ((by rw [hg]; exact Nat.ne_of_gt (blk_lt (g := gb274) (o := .cells #[.int .i64 a0_0, .slice (some ad275) l0_1.length c0_1] 25 (0, 0)) (Bz BK274)) : gb276 ≠ gb274)); replace BK274 := Aside0.mk (blk_below (g := gb274) (o := .cells #[.int .i64 a0_0, .slice (some ad275) l0_1.length c0_1] 25 (0, 0)) (Bz BK274) hb); clear hb hbox hg; have hnb21 := NB276_274.out; have hnc21 := NB274_276.out; have hcz22_0 : w20.cell? ⟨gb276, 0, none⟩ = some (.int .i64 0) := (blk_cell BK276.out 0).trans rfl; have hcz22_1 : w20.cell? ⟨gb276, 1, none⟩ = some (.int .i64 0) := (blk_cell BK276.out 1).trans rfl; have hfz22_0 := blk_frozen BK276.out 0; have hfz22_1 := blk_frozen BK276.out 1))
        go_roundg k2
        case measure => have := HJ2.out; have := HK2.out; omega
        case rel => exact ⟨(x5_2), (wrap64 (x19_2 + 1)), (by first | rfl | (simp; done) | (simp [*]; done)), (by first | rfl | (simp; done) | (simp [*]; done)), H', ⟨by have := HJ2.out; have := HK2.out; omega⟩, ⟨by (with_reducible repeat (first | refine blk_drewN ?_ _ | refine blk_drew ?_ | refine blk_alloc ?_ _)); refine blk_far ?_ NB274_276.out _; (with_reducible repeat (first | refine blk_drewN ?_ _ | refine blk_drew ?_ | refine blk_alloc ?_ _)); refine blk_far ?_ NB274_276.out _; exact Bz BK274⟩, ⟨by exact Lz2 HB GE274 GE276⟩⟩
       rw [if_neg c11] at H
       exact absurd H (by simp)
      rw [if_neg c10] at H
      exact absurd H (by simp)
     rw [if_neg c9] at H
     have c9b0 : decide (x19_2 < (l0_1.length : Int)) = false := decide_eq_false c9
     clear c9
     obtain rfl := Option.some.inj H
     go_wp2
     go_ret
     exact ⟨by first | rfl | (simp [errW_none, errW_some] <;> rfl) | (simp [*, errW_none, errW_some] <;> rfl), by exact Lz1 HB GE274⟩
end Go.Proofs.Ytnebapnfkolflaa.P
end
section
namespace Go.Proofs.Ytnebapnfkolflaa.P
open Go.RowKit Go.Proofs.YtnebapnfkolflaaW.PrintWords Go.Proofs.YtnebapnfkolflaaW.PrintLast Go.Proofs.YtnebapnfkolflaaW.PrintMore
attribute [local go_sem] max2_int min2_int max_two min_two max_three min_three max_four min_four
set_option linter.unusedVariables false
set_option linter.unusedSimpArgs false
def impl_inDebt.l0 : Nat → Int → List Int → Int → Int → Option (Int)
 | 0, _, _, _, _ => none
 | k + 1, x1, x7, x8, x9 => if x9 < x8 then (if 0 ≤ x9 then (if x9 < (x7.length : Int) then (if x9 = x1 then (impl_inDebt.l0 k x1 x7 x8 (wrap64 (x9 + 1))) else (if (rd x7 x9) < 0 then (some x9) else (impl_inDebt.l0 k x1 x7 x8 (wrap64 (x9 + 1))))) else (none)) else (none)) else (some (-1))
def impl_inDebt.f (k : Nat) (l0 : List Int) (a1 : Int) : Option (Int) := impl_inDebt.l0 k a1 l0 (l0.length : Int) 0
set_option maxHeartbeats 8000000 in
set_option maxRecDepth 100000 in
theorem impl_inDebt.calls (k : Nat) (A0 : Option Addr) (c0 : Nat) (l0 : List Int) (a1 : Int) (r : Int) (w : World) (hr0 : Kd.C (Kd.int .i64) w A0 l0.length l0) (hc0 : l0.length ≤ c0) (h : impl_inDebt.f k l0 a1 = some r) :
  Calls Try.prog 72 #[.slice A0 l0.length c0, .int .i64 a1] w fun e w' => e = .returned (.int .i64 r) ∧ Drawn0 w w' := by
 have HR0 := Aside0.mk hr0
 have HC0 := Aside0.mk hc0
 clear hr0 hc0
 have H : (impl_inDebt.l0 k a1 l0 (l0.length : Int) 0) = some r := h
 clear h
 have H' := Aside0.mk H
 clear H
 go_enter Try.func72, Try.ntmps72
 go_wp2
 go_loopg [9] k (fun kq v9 w' => ∃ (x9_1 : Int), v9 = .int .i64 x9_1 ∧ Aside0 (impl_inDebt.l0 kq a1 l0 (l0.length : Int) x9_1 = some r) ∧ Aside0 (kq ≤ k) ∧ Drawn0 w w')
 case atStart => exact ⟨(0), (by first | rfl | (simp; done) | (simp [*]; done)), H', ⟨Nat.le_refl _⟩, by repeat (first | exact Drawn0.refl _ | apply Drawn0.step)⟩
 case round =>
  clear H'
  obtain ⟨x9_1, rfl, HA, HK1, ⟨m1, rfl⟩⟩ := hrel
  cases gk with
  | zero => exact absurd HA.out (by simp [impl_inDebt.l0])
  | succ k1 =>
   have H := HA.out
   clear HA
   simp only [impl_inDebt.l0] at H
   by_cases c3 : x9_1 < (l0.length : Int)
   ·rw [if_pos c3] at H
    have c3b0 : decide (x9_1 < (l0.length : Int)) = true := decide_eq_true c3
    clear c3
    by_cases c4 : 0 ≤ x9_1
    ·rw [if_pos c4] at H
     have c4b0 : decide (0 ≤ x9_1) = true := decide_eq_true c4
     clear c4
     by_cases c5 : x9_1 < (l0.length : Int)
     ·rw [if_pos c5] at H
      have c5b0 : decide (x9_1 < (l0.length : Int)) = true := decide_eq_true c5
      clear c5
      by_cases c6 : x9_1 = a1
      ·rw [if_pos c6] at H
       have c6b0 : (x9_1 == a1) = true := beq_iff_eq.mpr c6
       have c6b1 : (x9_1 != a1) = false := bne_eq_false_iff_eq.mpr c6
       clear c6
       have H' := Aside0.mk H
       clear H
       have p277 : 0 ≤ (x9_1 : Int) := of_decide_eq_true (by first | (with_reducible assumption) | assumption)
       have q277 : x9_1 < (l0.length : Int) := of_decide_eq_true (by first | (with_reducible assumption) | assumption)
       obtain ⟨ad277, e277, hx277_0⟩ := Kd.at_int HR0.out x9_1 p277 q277
       cases e277
       replace p277 := eq_true p277
       replace q277 := eq_true q277
       go_wp2
       go_roundg k1
       case measure => have := HK1.out; omega
       case rel => exact ⟨(wrap64 (x9_1 + 1)), (by first | rfl | (simp; done) | (simp [*]; done)), H', ⟨by have := HK1.out; omega⟩, by repeat (first | exact Drawn0.refl _ | apply Drawn0.step)⟩
      rw [if_neg c6] at H
      have c6b0 : (x9_1 == a1) = false := beq_eq_false_iff_ne.mpr c6
      have c6b1 : (x9_1 != a1) = true := bne_iff_ne.mpr c6
      by_cases c7 : (rd l0 x9_1) < 0
      ·rw [if_pos c7] at H
       have c7b0 : decide ((rd l0 x9_1) < 0) = true := decide_eq_true c7
       clear c7
       obtain rfl := Option.some.inj H
       have p277 : 0 ≤ (x9_1 : Int) := of_decide_eq_true (by first | (with_reducible assumption) | assumption)
       have q277 : x9_1 < (l0.length : Int) := of_decide_eq_true (by first | (with_reducible assumption) | assumption)
       obtain ⟨ad277, e277, hx277_0⟩ := Kd.at_int HR0.out x9_1 p277 q277
       cases e277
       replace p277 := eq_true p277
       replace q277 := eq_true q277
       go_wp2
       go_ret
       exact ⟨by first | rfl | (simp; done) | (simp [*]; done), by repeat (first | exact Drawn0.refl _ | apply Drawn0.step)⟩
      rw [if_neg c7] at H
      have c7b0 : decide ((rd l0 x9_1) < 0) = false := decide_eq_false c7
      clear c7
      have H' := Aside0.mk H
      clear H
      have p277 : 0 ≤ (x9_1 : Int) := of_decide_eq_true (by first | (with_reducible assumption) | assumption)
      have q277 : x9_1 < (l0.length : Int) := of_decide_eq_true (by first | (with_reducible assumption) | assumption)
      obtain ⟨ad277, e277, hx277_0⟩ := Kd.at_int HR0.out x9_1 p277 q277
      cases e277
      replace p277 := eq_true p277
      replace q277 := eq_true q277
      go_wp2
      go_roundg k1
      case measure => have := HK1.out; omega
      case rel => exact ⟨(wrap64 (x9_1 + 1)), (by first | rfl | (simp; done) | (simp [*]; done)), H', ⟨by have := HK1.out; omega⟩, by repeat (first | exact Drawn0.refl _ | apply Drawn0.step)⟩
     rw [if_neg c5] at H
     exact absurd H (by simp)
    rw [if_neg c4] at H
    exact absurd H (by simp)
   rw [if_neg c3] at H
   have c3b0 : decide (x9_1 < (l0.length : Int)) = false := decide_eq_false c3
   clear c3
   obtain rfl := Option.some.inj H
   go_wp2
   go_ret
   exact ⟨by first | rfl | (simp; done) | (simp [*]; done), by repeat (first | exact Drawn0.refl _ | apply Drawn0.step)⟩
end Go.Proofs.Ytnebapnfkolflaa.P
end
section
namespace Go.Proofs.Ytnebapnfkolflaa.P
open Go.RowKit Go.Proofs.YtnebapnfkolflaaW.PrintWords Go.Proofs.YtnebapnfkolflaaW.PrintLast Go.Proofs.YtnebapnfkolflaaW.PrintMore
attribute [local go_sem] max2_int min2_int max_two min_two max_three min_three max_four min_four
set_option linter.unusedVariables false
set_option linter.unusedSimpArgs false
def slices_Index_int_int.l0 : Nat → List Int → Int → Int → Int → Option (Int)
 | 0, _, _, _, _ => none
 | k + 1, x0, x1, x7, x8 => if x8 < x7 then (if 0 ≤ x8 then (if x8 < (x0.length : Int) then (if x1 = (rd x0 x8) then (some x8) else (slices_Index_int_int.l0 k x0 x1 x7 (wrap64 (x8 + 1)))) else (none)) else (none)) else (some (-1))
def slices_Index_int_int.f (k : Nat) (l0 : List Int) (a1 : Int) : Option (Int) := slices_Index_int_int.l0 k l0 a1 (l0.length : Int) 0
set_option maxHeartbeats 8000000 in
set_option maxRecDepth 100000 in
theorem slices_Index_int_int.calls (k : Nat) (A0 : Option Addr) (c0 : Nat) (l0 : List Int) (a1 : Int) (r : Int) (w : World) (hr0 : Kd.C (Kd.int .i64) w A0 l0.length l0) (hc0 : l0.length ≤ c0) (h : slices_Index_int_int.f k l0 a1 = some r) :
  Calls Try.prog 100 #[.slice A0 l0.length c0, .int .i64 a1] w fun e w' => e = .returned (.int .i64 r) ∧ Drawn0 w w' := by
 have HR0 := Aside0.mk hr0
 have HC0 := Aside0.mk hc0
 clear hr0 hc0
 have H : (slices_Index_int_int.l0 k l0 a1 (l0.length : Int) 0) = some r := h
 clear h
 have H' := Aside0.mk H
 clear H
 go_enter Try.func100, Try.ntmps100
 go_wp2
 go_loopg [8] k (fun kq v8 w' => ∃ (x8_1 : Int), v8 = .int .i64 x8_1 ∧ Aside0 (slices_Index_int_int.l0 kq l0 a1 (l0.length : Int) x8_1 = some r) ∧ Aside0 (kq ≤ k) ∧ Drawn0 w w')
 case atStart => exact ⟨(0), (by first | rfl | (simp; done) | (simp [*]; done)), H', ⟨Nat.le_refl _⟩, by repeat (first | exact Drawn0.refl _ | apply Drawn0.step)⟩
 case round =>
  clear H'
  obtain ⟨x8_1, rfl, HA, HK1, ⟨m1, rfl⟩⟩ := hrel
  cases gk with
  | zero => exact absurd HA.out (by simp [slices_Index_int_int.l0])
  | succ k1 =>
   have H := HA.out
   clear HA
   simp only [slices_Index_int_int.l0] at H
   by_cases c3 : x8_1 < (l0.length : Int)
   ·rw [if_pos c3] at H
    have c3b0 : decide (x8_1 < (l0.length : Int)) = true := decide_eq_true c3
    clear c3
    by_cases c4 : 0 ≤ x8_1
    ·rw [if_pos c4] at H
     have c4b0 : decide (0 ≤ x8_1) = true := decide_eq_true c4
     clear c4
     by_cases c5 : x8_1 < (l0.length : Int)
     ·rw [if_pos c5] at H
      have c5b0 : decide (x8_1 < (l0.length : Int)) = true := decide_eq_true c5
      clear c5
      by_cases c6 : a1 = (rd l0 x8_1)
      ·rw [if_pos c6] at H
       have c6b0 : (a1 == (rd l0 x8_1)) = true := beq_iff_eq.mpr c6
       have c6b1 : (a1 != (rd l0 x8_1)) = false := bne_eq_false_iff_eq.mpr c6
       clear c6
       obtain rfl := Option.some.inj H
       have p278 : 0 ≤ (x8_1 : Int) := of_decide_eq_true (by first | (with_reducible assumption) | assumption)
       have q278 : x8_1 < (l0.length : Int) := of_decide_eq_true (by first | (with_reducible assumption) | assumption)
       obtain ⟨ad278, e278, hx278_0⟩ := Kd.at_int HR0.out x8_1 p278 q278
       cases e278
       replace p278 := eq_true p278
       replace q278 := eq_true q278
       go_wp2
       go_ret
       exact ⟨by first | rfl | (simp; done) | (simp [*]; done), by repeat (first | exact Drawn0.refl _ | apply Drawn0.step)⟩
      rw [if_neg c6] at H
      have c6b0 : (a1 == (rd l0 x8_1)) = false := beq_eq_false_iff_ne.mpr c6
      have c6b1 : (a1 != (rd l0 x8_1)) = true := bne_iff_ne.mpr c6
      have H' := Aside0.mk H
      clear H
      have p278 : 0 ≤ (x8_1 : Int) := of_decide_eq_true (by first | (with_reducible assumption) | assumption)
      have q278 : x8_1 < (l0.length : Int) := of_decide_eq_true (by first | (with_reducible assumption) | assumption)
      obtain ⟨ad278, e278, hx278_0⟩ := Kd.at_int HR0.out x8_1 p278 q278
      cases e278
      replace p278 := eq_true p278
      replace q278 := eq_true q278
      go_wp2
      go_roundg k1
      case measure => have := HK1.out; omega
      case rel => exact ⟨(wrap64 (x8_1 + 1)), (by first | rfl | (simp; done) | (simp [*]; done)), H', ⟨by have := HK1.out; omega⟩, by repeat (first | exact Drawn0.refl _ | apply Drawn0.step)⟩
     rw [if_neg c5] at H
     exact absurd H (by simp)
    rw [if_neg c4] at H
    exact absurd H (by simp)
   rw [if_neg c3] at H
   have c3b0 : decide (x8_1 < (l0.length : Int)) = false := decide_eq_false c3
   clear c3
   obtain rfl := Option.some.inj H
   go_wp2
   go_ret
   exact ⟨by first | rfl | (simp; done) | (simp [*]; done), by repeat (first | exact Drawn0.refl _ | apply Drawn0.step)⟩
end Go.Proofs.Ytnebapnfkolflaa.P
end
section
namespace Go.Proofs.Ytnebapnfkolflaa.P
open Go.RowKit Go.Proofs.YtnebapnfkolflaaW.PrintWords Go.Proofs.YtnebapnfkolflaaW.PrintLast Go.Proofs.YtnebapnfkolflaaW.PrintMore
attribute [local go_sem] max2_int min2_int max_two min_two max_three min_three max_four min_four
set_option linter.unusedVariables false
set_option linter.unusedSimpArgs false
def slices_Contains_int_int.f (k : Nat) (l0 : List Int) (a1 : Int) : Option (Bool) := (slices_Index_int_int.f k l0 a1).bind fun t279 => (some (decide (t279 ≥ 0)))
set_option maxHeartbeats 8000000 in
set_option maxRecDepth 100000 in
theorem slices_Contains_int_int.calls (k : Nat) (A0 : Option Addr) (c0 : Nat) (l0 : List Int) (a1 : Int) (r : Bool) (w : World) (hr0 : Kd.C (Kd.int .i64) w A0 l0.length l0) (hc0 : l0.length ≤ c0) (h : slices_Contains_int_int.f k l0 a1 = some r) :
  Calls Try.prog 73 #[.slice A0 l0.length c0, .int .i64 a1] w fun e w' => e = .returned (.bool r) ∧ Drawn0 w w' := by
 have HR0 := Aside0.mk hr0
 have HC0 := Aside0.mk hc0
 clear hr0 hc0
 have H : ((slices_Index_int_int.f k l0 a1).bind fun t279 => (some (decide (t279 ≥ 0)))) = some r := h
 clear h
 replace H := Option.bind_eq_some_iff.mp H
 obtain ⟨t279, A30, H⟩ := H
 replace H : (some (decide (t279 ≥ 0))) = some r := H
 have A3 := Aside0.mk A30
 clear A30
 obtain rfl := Option.some.inj H
 go_enter Try.func73, Try.ntmps73
 go_wp2_with (first | ((with_reducible refine gate_callee (f := 100) rfl ?_); refine goesM_ (some 7) rfl rfl Try.func100 (by kernel_rfl) rfl #[.slice A0 l0.length c0, .int .i64 a1] rfl ?_; (with_reducible refine (slices_Index_int_int.calls k _ _ l0 a1 t279 _ ?side1 ?side2 A3.out).mono ?_); (case side1 => exact Cz (HR0.out)); (case side2 => exact HC0.out); rintro e w' ⟨rfl, ⟨nd, rfl⟩⟩; refine ⟨_, rfl, ?_⟩))
 go_ret
 exact ⟨by first | rfl | (simp; done) | (simp [*]; done), by repeat (first | exact Drawn0.refl _ | apply Drawn0.step)⟩
end Go.Proofs.Ytnebapnfkolflaa.P
end
section
namespace Go.Proofs.Ytnebapnfkolflaa.P
open Go.RowKit Go.Proofs.YtnebapnfkolflaaW.PrintWords Go.Proofs.YtnebapnfkolflaaW.PrintLast Go.Proofs.YtnebapnfkolflaaW.PrintMore
attribute [local go_sem] max2_int min2_int max_two min_two max_three min_three max_four min_four
set_option linter.unusedVariables false
set_option linter.unusedSimpArgs false
mutual
def impl_Multiplicity.j0 : Nat → Int → Int → Bool → Int → List (S70) → Option (Int)
 | 0, _, _, _, _, _ => none
 | k + 1, x1, x2, x26, x281000, x281001 => if x26 = true then (some 0) else (impl_Multiplicity.l0 k x1 x2 0 x281001 (x281001.length : Int) 0)
def impl_Multiplicity.l0 : Nat → Int → Int → Int → List (S70) → Int → Int → Option (Int)
 | 0, _, _, _, _, _, _ => none
 | k + 1, x1, x2, x7, x28, x29, x30 => if x30 < x29 then (if 0 ≤ x30 then (if x30 < (x28.length : Int) then (if ((rd_T70 x28 x30).f0) = (mn x1 x2) then (if ((rd_T70 x28 x30).f1) = (mx x1 x2) then (impl_Multiplicity.l0 k x1 x2 (wrap64 (x7 + 1)) x28 x29 (wrap64 (x30 + 1))) else (impl_Multiplicity.l0 k x1 x2 x7 x28 x29 (wrap64 (x30 + 1)))) else (impl_Multiplicity.l0 k x1 x2 x7 x28 x29 (wrap64 (x30 + 1)))) else (none)) else (none)) else (some x7)
end
def impl_Multiplicity.f (k : Nat) (a0_0 : Int) (l0_1 : List (S70)) (a1 : Int) (a2 : Int) : Option (Int) := if (mn a1 a2) < 0 then (impl_Multiplicity.j0 k a1 a2 true a0_0 l0_1) else (if (mx a1 a2) ≥ a0_0 then (impl_Multiplicity.j0 k a1 a2 true a0_0 l0_1) else (impl_Multiplicity.j0 k a1 a2 (a1 == a2) a0_0 l0_1))
set_option maxHeartbeats 8000000 in
set_option maxRecDepth 100000 in
theorem impl_Multiplicity.calls (k : Nat) (a0_0 : Int) (A0_1 : Option Addr) (c0_1 : Nat) (l0_1 : List (S70)) (a1 : Int) (a2 : Int) (r : Int) (w : World) (hr0_1 : Kd.C k70 w A0_1 l0_1.length l0_1) (hc0_1 : l0_1.length ≤ c0_1) (h : impl_Multiplicity.f k a0_0 l0_1 a1 a2 = some r) :
  Calls Try.prog 58 #[.agg #[.int .i64 a0_0, .slice A0_1 l0_1.length c0_1], .int .i64 a1, .int .i64 a2] w fun e w' => e = .returned (.int .i64 r) ∧ Below w.heap.size w w' := by
 have hu25 := Try.underlying25
 have hu70 := Try.underlying70
 have HR0_1 := Aside0.mk hr0_1
 have HC0_1 := Aside0.mk hc0_1
 clear hr0_1 hc0_1
 have HB := Aside0.mk (Below.refl w.heap.size w)
 have H : (if (mn a1 a2) < 0 then (impl_Multiplicity.j0 k a1 a2 true a0_0 l0_1) else (if (mx a1 a2) ≥ a0_0 then (impl_Multiplicity.j0 k a1 a2 true a0_0 l0_1) else (impl_Multiplicity.j0 k a1 a2 (a1 == a2) a0_0 l0_1))) = some r := h
 clear h
 have HC4 := Aside0.mk H
 clear H
 go_enter Try.func58, Try.ntmps58
 go_upto_region 1 with (first | ((with_reducible refine gate_dst (N := 3) rfl ?_); (try (refine gate_guard (by rfl) ?_; dsimp only)); refine box_event ?hg (N := 3) ?hd (cs := #[.int .i64 a0_0, .slice A0_1 l0_1.length c0_1]) (t := 25) ?hr ?_; (case hd => rfl); (case hg => rfl); (case hr => first | (go_simp; done) | (go_simp; rfl)); intro gb280 hg w5 hbox hb; have BK280 := Aside0.mk (hbox); have GW280 := Aside0.mk ((by rw [hg]; exact (below_size (Lz HB)) : w.heap.size ≤ gb280)); have GE280 := Aside0.mk ((by rw [hg]; exact (below_size (Lz HB)) : w.heap.size ≤ gb280)); replace HB := Aside0.mk (below_step (Lz HB) hb); clear hb hbox hg))
 (try simp only [Act.put, List.setIfInBounds_toArray, List.set_cons_zero, List.set_cons_succ])
 go_cut [26] (fun v26 wc => ∃ (kq : Nat) (x26_3 : Bool), v26 = .bool x26_3 ∧ Aside0 (impl_Multiplicity.j0 kq a1 a2 x26_3 a0_0 l0_1 = some r) ∧ Aside0 (kq ≤ k) ∧ Aside0 (wc.heap[gb280]? = some (.cells #[.int .i64 a0_0, (.slice A0_1 l0_1.length c0_1)] 25 (0, 0))) ∧ Aside0 (Below w.heap.size w wc))
 case first =>
  have H := HC4.out
  clear HC4
  obtain ⟨ji6, hji6⟩ : ∃ j_ : Int, (mn a1 a2) = j_ := ⟨_, rfl⟩
  replace H : (if (ji6) < 0 then (impl_Multiplicity.j0 k a1 a2 true a0_0 l0_1) else (if (mx a1 a2) ≥ a0_0 then (impl_Multiplicity.j0 k a1 a2 true a0_0 l0_1) else (impl_Multiplicity.j0 k a1 a2 (a1 == a2) a0_0 l0_1))) = some r := by first | (rw [hji6] at H; exact H) | (simp only [hji6] at H ⊢; exact H)
  have hji6_ : (if a2 < a1 then a2 else a1) = ji6 := hji6
  by_cases c7 : (ji6) < 0
  ·rw [if_pos c7] at H
   have c7b0 : decide ((ji6) < 0) = true := decide_eq_true c7
   clear c7
   (first | rw [c7b0] | (simp only [i64_w, i32_w]; rw [c7b0]) | skip)
   have H' := Aside0.mk H
   clear H
   go_wp2
   go_meet
   case rel => exact ⟨_, (true), (by first | rfl | (simp; done) | (simp [*]; done)), H', ⟨by first | omega | exact Nat.le_refl _⟩, ⟨by exact Bz BK280⟩, ⟨by exact Lz1 HB GE280⟩⟩
  rw [if_neg c7] at H
  have c7b0 : decide ((ji6) < 0) = false := decide_eq_false c7
  clear c7
  (first | rw [c7b0] | (simp only [i64_w, i32_w]; rw [c7b0]) | skip)
  obtain ⟨ji8, hji8⟩ : ∃ j_ : Int, (mx a1 a2) = j_ := ⟨_, rfl⟩
  replace H : (if (ji8) ≥ a0_0 then (impl_Multiplicity.j0 k a1 a2 true a0_0 l0_1) else (impl_Multiplicity.j0 k a1 a2 (a1 == a2) a0_0 l0_1)) = some r := by first | (rw [hji8] at H; exact H) | (simp only [hji8] at H ⊢; exact H)
  have hji8_ : (if a1 < a2 then a2 else a1) = ji8 := hji8
  by_cases c9 : (ji8) ≥ a0_0
  ·rw [if_pos c9] at H
   have c9b0 : decide (a0_0 ≤ (ji8)) = true := decide_eq_true c9
   clear c9
   have H' := Aside0.mk H
   clear H
   have hcz10_0 : w5.cell? ⟨gb280, 0, none⟩ = some (.int .i64 a0_0) := (blk_cell BK280.out 0).trans rfl
   have hcz10_1 : w5.cell? ⟨gb280, 1, none⟩ = some (.slice A0_1 l0_1.length c0_1) := (blk_cell BK280.out 1).trans rfl
   have hfz10_0 := blk_frozen BK280.out 0
   have hfz10_1 := blk_frozen BK280.out 1
   go_wp2
   go_meet
   case rel => exact ⟨_, (true), (by first | rfl | (simp; done) | (simp [*]; done)), H', ⟨by first | omega | exact Nat.le_refl _⟩, ⟨by exact Bz BK280⟩, ⟨by exact Lz1 HB GE280⟩⟩
  rw [if_neg c9] at H
  have c9b0 : decide (a0_0 ≤ (ji8)) = false := decide_eq_false c9
  clear c9
  have H' := Aside0.mk H
  clear H
  have hcz11_0 : w5.cell? ⟨gb280, 0, none⟩ = some (.int .i64 a0_0) := (blk_cell BK280.out 0).trans rfl
  have hcz11_1 : w5.cell? ⟨gb280, 1, none⟩ = some (.slice A0_1 l0_1.length c0_1) := (blk_cell BK280.out 1).trans rfl
  have hfz11_0 := blk_frozen BK280.out 0
  have hfz11_1 := blk_frozen BK280.out 1
  go_wp2
  go_meet
  case rel => exact ⟨_, ((a1 == a2)), (by first | rfl | (simp; done) | (simp [*]; done)), H', ⟨by first | omega | exact Nat.le_refl _⟩, ⟨by exact Bz BK280⟩, ⟨by exact Lz1 HB GE280⟩⟩
 case rest =>
  clear HC4
  try clear c7
  try clear c7b0
  try clear c9
  try clear c9b0
  obtain ⟨kq, x26_3, rfl, HA, HJ3, BK280, HB⟩ := hcut
  cases kq with
  | zero => exact absurd HA.out (by simp [impl_Multiplicity.j0])
  | succ kj3 =>
   have H := HA.out
   clear HA
   simp only [impl_Multiplicity.j0] at H
   by_cases c12 : x26_3 = true
   ·subst c12
    have H1 : (some 0) = some r := by rw [if_pos rfl] at H; exact H
    clear H
    have H := H1
    clear H1
    obtain rfl := Option.some.inj H
    go_wp2
    go_ret
    exact ⟨by first | rfl | (simp [errW_none, errW_some] <;> rfl) | (simp [*, errW_none, errW_some] <;> rfl), by exact Lz1 HB GE280⟩
   replace c12 := Bool.eq_false_iff.mpr c12
   subst c12
   have H1 : (impl_Multiplicity.l0 kj3 a1 a2 0 l0_1 (l0_1.length : Int) 0) = some r := by rw [if_neg (show ¬ (false = true) by decide)] at H; exact H
   clear H
   have H := H1
   clear H1
   have H' := Aside0.mk H
   clear H
   have hcz13_0 : wc.cell? ⟨gb280, 0, none⟩ = some (.int .i64 a0_0) := (blk_cell BK280.out 0).trans rfl
   have hcz13_1 : wc.cell? ⟨gb280, 1, none⟩ = some (.slice A0_1 l0_1.length c0_1) := (blk_cell BK280.out 1).trans rfl
   have hfz13_0 := blk_frozen BK280.out 0
   have hfz13_1 := blk_frozen BK280.out 1
   go_wp2
   go_loopg [7, 30] kj3 (fun kq v7 v30 w' => ∃ (x7_2 : Int) (x30_2 : Int), v7 = .int .i64 x7_2 ∧ v30 = .int .i64 x30_2 ∧ Aside0 (impl_Multiplicity.l0 kq a1 a2 x7_2 l0_1 (l0_1.length : Int) x30_2 = some r) ∧ Aside0 (kq ≤ kj3) ∧ Aside0 (w'.heap[gb280]? = some (.cells #[.int .i64 a0_0, (.slice A0_1 l0_1.length c0_1)] 25 (0, 0))) ∧ Aside0 (Below w.heap.size w w'))
   case atStart => exact ⟨(0), (0), (by first | rfl | (simp; done) | (simp [*]; done)), (by first | rfl | (simp; done) | (simp [*]; done)), H', ⟨Nat.le_refl _⟩, ⟨by exact Bz BK280⟩, ⟨by exact Lz1 HB GE280⟩⟩
   case round =>
    clear H'
    try clear c7
    try clear c7b0
    try clear c9
    try clear c9b0
    try clear c12
    obtain ⟨x7_2, x30_2, rfl, rfl, HA, HK2, BK280, HB⟩ := hrel
    cases gk with
    | zero => exact absurd HA.out (by simp [impl_Multiplicity.l0])
    | succ k2 =>
     have H := HA.out
     clear HA
     simp only [impl_Multiplicity.l0] at H
     by_cases c14 : x30_2 < (l0_1.length : Int)
     ·rw [if_pos c14] at H
      have c14b0 : decide (x30_2 < (l0_1.length : Int)) = true := decide_eq_true c14
      clear c14
      by_cases c15 : 0 ≤ x30_2
      ·rw [if_pos c15] at H
       have c15b0 : decide (0 ≤ x30_2) = true := decide_eq_true c15
       clear c15
       by_cases c16 : x30_2 < (l0_1.length : Int)
       ·rw [if_pos c16] at H
        have c16b0 : decide (x30_2 < (l0_1.length : Int)) = true := decide_eq_true c16
        clear c16
        obtain ⟨ji17, hji17⟩ : ∃ j_ : Int, (mn a1 a2) = j_ := ⟨_, rfl⟩
        replace H : (if ((rd_T70 l0_1 x30_2).f0) = (ji17) then (if ((rd_T70 l0_1 x30_2).f1) = (mx a1 a2) then (impl_Multiplicity.l0 k2 a1 a2 (wrap64 (x7_2 + 1)) l0_1 (l0_1.length : Int) (wrap64 (x30_2 + 1))) else (impl_Multiplicity.l0 k2 a1 a2 x7_2 l0_1 (l0_1.length : Int) (wrap64 (x30_2 + 1)))) else (impl_Multiplicity.l0 k2 a1 a2 x7_2 l0_1 (l0_1.length : Int) (wrap64 (x30_2 + 1)))) = some r := by first | (rw [hji17] at H; exact H) | (simp only [hji17] at H ⊢; exact H)
        have hji17_ : (if a2 < a1 then a2 else a1) = ji17 := hji17
        by_cases c18 : ((rd_T70 l0_1 x30_2).f0) = (ji17)
        ·rw [if_pos c18] at H
         have c18b0 : (((rd_T70 l0_1 x30_2).f0) == (ji17)) = true := beq_iff_eq.mpr c18
         have c18b1 : (((rd_T70 l0_1 x30_2).f0) != (ji17)) = false := bne_eq_false_iff_eq.mpr c18
         clear c18
         obtain ⟨ji19, hji19⟩ : ∃ j_ : Int, (mx a1 a2) = j_ := ⟨_, rfl⟩
         replace H : (if ((rd_T70 l0_1 x30_2).f1) = (ji19) then (impl_Multiplicity.l0 k2 a1 a2 (wrap64 (x7_2 + 1)) l0_1 (l0_1.length : Int) (wrap64 (x30_2 + 1))) else (impl_Multiplicity.l0 k2 a1 a2 x7_2 l0_1 (l0_1.length : Int) (wrap64 (x30_2 + 1)))) = some r := by first | (rw [hji19] at H; exact H) | (simp only [hji19] at H ⊢; exact H)
         have hji19_ : (if a1 < a2 then a2 else a1) = ji19 := hji19
         by_cases c20 : ((rd_T70 l0_1 x30_2).f1) = (ji19)
         ·rw [if_pos c20] at H
          have c20b0 : (((rd_T70 l0_1 x30_2).f1) == (ji19)) = true := beq_iff_eq.mpr c20
          have c20b1 : (((rd_T70 l0_1 x30_2).f1) != (ji19)) = false := bne_eq_false_iff_eq.mpr c20
          clear c20
          have H' := Aside0.mk H
          clear H
          have p281 : 0 ≤ (x30_2 : Int) := of_decide_eq_true (by first | (with_reducible assumption) | assumption)
          have q281 : x30_2 < (l0_1.length : Int) := of_decide_eq_true (by first | (with_reducible assumption) | assumption)
          obtain ⟨ad281, e281, hx281_0, hx281_1⟩ := at_T70 HR0_1.out x30_2 p281 q281
          cases e281
          replace hx281_0 := (HB.out.cell (World.block_lt_of_cell? w _ hx281_0)).trans hx281_0
          replace hx281_1 := (HB.out.cell (World.block_lt_of_cell? w _ hx281_1)).trans hx281_1
          replace p281 := eq_true p281
          replace q281 := eq_true q281
          go_wp2_with (first | ((with_reducible refine gate_dst (N := 9) rfl ?_); (try (refine gate_guard (by rfl) ?_; dsimp only)); refine box_event ?hg (N := 9) ?hd (cs := #[.int .i64 0, .int .i64 0]) (t := 70) ?hr ?_; (case hd => rfl); (case hg => rfl); (case hr => first | (go_simp; done) | (go_simp; rfl)); intro gb282 hg w21 hbox hb; have BK282 := Aside0.mk (hbox); have GW282 := Aside0.mk ((by rw [hg]; exact (below_size (by exact Lz1 HB GE280)) : w.heap.size ≤ gb282)); have GE282 := Aside0.mk ((by rw [hg]; exact (below_size (by exact Lz1 HB GE280)) : w.heap.size ≤ gb282)); replace HB := Aside0.mk (below_step (by exact Lz1 HB GE280) hb); have NB280_282 := Aside0.mk ((by rw [hg]; exact Nat.ne_of_lt (blk_lt (g := gb280) (o := .cells #[.int .i64 a0_0, .slice (some ad281) l0_1.length c0_1] 25 (0, 0)) (Bz BK280)) : gb280 ≠ gb282)); have NB282_280 := Aside0.mk ((by rw [hg]; exact Nat.ne_of_gt (blk_lt (g := gb280) (o := .cells #[.int .i64 a0_0, .slice (some ad281) l0_1.length c0_1] 25 (0, 0)) (Bz BK280)) : gb282 ≠ gb280)); replace BK280 := Aside0.mk (blk_below (g := gb280) (o := .cells #[.int .i64 a0_0, .slice (some ad281) l0_1.length c0_1] 25 (0, 0)) (Bz BK280) hb); clear hb hbox hg; have hnb22 := NB282_280.out; have hnc22 := NB280_282.out; have hcz23_0 : w21.cell? ⟨gb282, 0, none⟩ = some (.int .i64 0) := (blk_cell BK282.out 0).trans rfl; have hcz23_1 : w21.cell? ⟨gb282, 1, none⟩ = some (.int .i64 0) := (blk_cell BK282.out 1).trans rfl; have hfz23_0 := blk_frozen BK282.out 0; have hfz23_1 := blk_frozen BK282.out 1))
          go_roundg k2
          case measure => have := HJ3.out; have := HK2.out; omega
          case rel => exact ⟨(wrap64 (x7_2 + 1)), (wrap64 (x30_2 + 1)), (by first | rfl | (simp; done) | (simp [*]; done)), (by first | rfl | (simp; done) | (simp [*]; done)), H', ⟨by have := HJ3.out; have := HK2.out; omega⟩, ⟨by (with_reducible repeat (first | refine blk_drewN ?_ _ | refine blk_drew ?_ | refine blk_alloc ?_ _)); refine blk_far ?_ NB280_282.out _; (with_reducible repeat (first | refine blk_drewN ?_ _ | refine blk_drew ?_ | refine blk_alloc ?_ _)); refine blk_far ?_ NB280_282.out _; exact Bz BK280⟩, ⟨by exact Lz2 HB GE280 GE282⟩⟩
         rw [if_neg c20] at H
         have c20b0 : (((rd_T70 l0_1 x30_2).f1) == (ji19)) = false := beq_eq_false_iff_ne.mpr c20
         have c20b1 : (((rd_T70 l0_1 x30_2).f1) != (ji19)) = true := bne_iff_ne.mpr c20
         have H' := Aside0.mk H
         clear H
         have p281 : 0 ≤ (x30_2 : Int) := of_decide_eq_true (by first | (with_reducible assumption) | assumption)
         have q281 : x30_2 < (l0_1.length : Int) := of_decide_eq_true (by first | (with_reducible assumption) | assumption)
         obtain ⟨ad281, e281, hx281_0, hx281_1⟩ := at_T70 HR0_1.out x30_2 p281 q281
         cases e281
         replace hx281_0 := (HB.out.cell (World.block_lt_of_cell? w _ hx281_0)).trans hx281_0
         replace hx281_1 := (HB.out.cell (World.block_lt_of_cell? w _ hx281_1)).trans hx281_1
         replace p281 := eq_true p281
         replace q281 := eq_true q281
         go_wp2_with (first | ((with_reducible refine gate_dst (N := 9) rfl ?_); (try (refine gate_guard (by rfl) ?_; dsimp only)); refine box_event ?hg (N := 9) ?hd (cs := #[.int .i64 0, .int .i64 0]) (t := 70) ?hr ?_; (case hd => rfl); (case hg => rfl); (case hr => first | (go_simp; done) | (go_simp; rfl)); intro gb282 hg w24 hbox hb; have BK282 := Aside0.mk (hbox); have GW282 := Aside0.mk ((by rw [hg]; exact (below_size (by exact Lz1 HB GE280)) : w.heap.size ≤ gb282)); have GE282 := Aside0.mk ((by rw [hg]; exact (below_size (by exact Lz1 HB GE280)) : w.heap.size ≤ gb282)); replace HB := Aside0.mk (below_step (by exact Lz1 HB GE280) hb); have NB280_282 := Aside0.mk ((by rw [hg]; exact Nat.ne_of_lt (blk_lt (g := gb280) (o := .cells #[.int .i64 a0_0, .slice (some ad281) l0_1.length c0_1] 25 (0, 0)) (Bz BK280)) : gb280 ≠ gb282)); have NB282_280 := Aside0.mk ((by rw [hg]; exact Nat.ne_of_gt (blk_lt (g := gb280) (o := .cells #[.int .i64 a0_0, .slice (some ad281) l0_1.length c0_1] 25 (0, 0)) (Bz BK280)) : gb282 ≠ gb280)); replace BK280 := Aside0.mk (blk_below (g := gb280) (o := .cells #[.int .i64 a0_0, .slice (some ad281) l0_1.length c0_1] 25 (0, 0)) (Bz BK280) hb); clear hb hbox hg; have hnb25 := NB282_280.out; have hnc25 := NB280_282.out; have hcz26_0 : w24.cell? ⟨gb282, 0, none⟩ = some (.int .i64 0) := (blk_cell BK282.out 0).trans rfl; have hcz26_1 : w24.cell? ⟨gb282, 1, none⟩ = some (.int .i64 0) := (blk_cell BK282.out 1).trans rfl; have hfz26_0 := blk_frozen BK282.out 0; have hfz26_1 := blk_frozen BK282.out 1))
         go_roundg k2
         case measure => have := HJ3.out; have := HK2.out; omega
         case rel => exact ⟨(x7_2), (wrap64 (x30_2 + 1)), (by first | rfl | (simp; done) | (simp [*]; done)), (by first | rfl | (simp; done) | (simp [*]; done)), H', ⟨by have := HJ3.out; have := HK2.out; omega⟩, ⟨by (with_reducible repeat (first | refine blk_drewN ?_ _ | refine blk_drew ?_ | refine blk_alloc ?_ _)); refine blk_far ?_ NB280_282.out _; (with_reducible repeat (first | refine blk_drewN ?_ _ | refine blk_drew ?_ | refine blk_alloc ?_ _)); refine blk_far ?_ NB280_282.out _; exact Bz BK280⟩, ⟨by exact Lz2 HB GE280 GE282⟩⟩
        rw [if_neg c18] at H
        have c18b0 : (((rd_T70 l0_1 x30_2).f0) == (ji17)) = false := beq_eq_false_iff_ne.mpr c18
        have c18b1 : (((rd_T70 l0_1 x30_2).f0) != (ji17)) = true := bne_iff_ne.mpr c18
        have H' := Aside0.mk H
        clear H
        have p281 : 0 ≤ (x30_2 : Int) := of_decide_eq_true (by first | (with_reducible assumption) | assumption)
        have q281 : x30_2 < (l0_1.length : Int) := of_decide_eq_true (by first | (with_reducible assumption) | assumption)
        obtain ⟨ad281, e281, hx281_0, hx281_1⟩ := at_T70 HR0_1.out x30_2 p281 q281
        cases e281
        replace hx281_0 := (HB.out.cell (World.block_lt_of_cell? w _ hx281_0)).trans hx281_0
        replace hx281_1 := (HB.out.cell (World.block_lt_of_cell? w _ hx281_1)).trans hx281_1
        replace p281 := eq_true p281
        replace q281 := eq_true q281
        go_wp2_with (first | ((with_reducible refine gate_dst (N := 9) rfl ?_); (try (refine gate_guard (by rfl) ?_; dsimp only)); refine box_event ?hg (N := 9) ?hd (cs := #[.int .i64 0, .int .i64 0]) (t := 70) ?hr ?_; (case hd => rfl); (case hg => rfl); (case hr => first | (go_simp; done) | (go_simp; rfl)); intro gb282 hg w27 hbox hb; have BK282 := Aside0.mk (hbox); have GW282 := Aside0.mk ((by rw [hg]; exact (below_size (by exact Lz1 HB GE280)) : w.heap.size ≤ gb282)); have GE282 := Aside0.mk ((by rw [hg]; exact (below_size (by exact Lz1 HB GE280)) : w.heap.size ≤ gb282)); replace HB := Aside0.mk (below_step (by exact Lz1 HB GE280) hb); have NB280_282 := Aside0.mk ((by rw [hg]; exact Nat.ne_of_lt (blk_lt (g := gb280) (o := .cells #[.int .i64 a0_0, .slice (some ad281) l0_1.length c0_1] 25 (0, 0)) (Bz BK280)) : gb280 ≠ gb282)); have NB282_280 := Aside0.mk ((by rw [hg]; exact Nat.ne_of_gt (blk_lt (g := gb280) (o := .cells #[.int .i64 a0_0, .slice (some ad281) l0_1.length c0_1] 25 (0, 0)) (Bz BK280)) : gb282 ≠ gb280)); replace BK280 := Aside0.mk (blk_below (g := gb280) (o := .cells #[.int .i64 a0_0, .slice (some ad281) l0_1.length c0_1] 25 (0, 0)) (Bz BK280) hb); clear hb hbox hg; have hnb28 := NB282_280.out; have hnc28 := NB280_282.out; have hcz29_0 : w27.cell? ⟨gb282, 0, none⟩ = some (.int .i64 0) := (blk_cell BK282.out 0).trans rfl; have hcz29_1 : w27.cell? ⟨gb282, 1, none⟩ = some (.int .i64 0) := (blk_cell BK282.out 1).trans rfl; have hfz29_0 := blk_frozen BK282.out 0; have hfz29_1 := blk_frozen BK282.out 1))
        go_roundg k2
        case measure => have := HJ3.out; have := HK2.out; omega
        case rel => exact ⟨(x7_2), (wrap64 (x30_2 + 1)), (by first | rfl | (simp; done) | (simp [*]; done)), (by first | rfl | (simp; done) | (simp [*]; done)), H', ⟨by have := HJ3.out; have := HK2.out; omega⟩, ⟨by (with_reducible repeat (first | refine blk_drewN ?_ _ | refine blk_drew ?_ | refine blk_alloc ?_ _)); refine blk_far ?_ NB280_282.out _; (with_reducible repeat (first | refine blk_drewN ?_ _ | refine blk_drew ?_ | refine blk_alloc ?_ _)); refine blk_far ?_ NB280_282.out _; exact Bz BK280⟩, ⟨by exact Lz2 HB GE280 GE282⟩⟩
       rw [if_neg c16] at H
       exact absurd H (by simp)
      rw [if_neg c15] at H
      exact absurd H (by simp)
     rw [if_neg c14] at H
     have c14b0 : decide (x30_2 < (l0_1.length : Int)) = false := decide_eq_false c14
     clear c14
     obtain rfl := Option.some.inj H
     go_wp2
     go_ret
     exact ⟨by first | rfl | (simp [errW_none, errW_some] <;> rfl) | (simp [*, errW_none, errW_some] <;> rfl), by exact Lz1 HB GE280⟩
end Go.Proofs.Ytnebapnfkolflaa.P
end
section
namespace Go.Proofs.Ytnebapnfkolflaa.P
open Go.RowKit Go.Proofs.YtnebapnfkolflaaW.PrintWords Go.Proofs.YtnebapnfkolflaaW.PrintLast Go.Proofs.YtnebapnfkolflaaW.PrintMore
attribute [local go_sem] max2_int min2_int max_two min_two max_three min_three max_four min_four
set_option linter.unusedVariables false
set_option linter.unusedSimpArgs false
mutual
def impl_burn.l0 : Nat → List Int → List Int → Int → List (S70) → Option (List Int)
 | 0, _, _, _, _ => none
 | k + 1, x1, x7, x284000, x284001 => impl_burn.l1 k x1 x7 (-1) 0 x284000 x284001
def impl_burn.l1 : Nat → List Int → List Int → Int → Int → Int → List (S70) → Option (List Int)
 | 0, _, _, _, _, _, _ => none
 | k + 1, x1, x7, x8, x9, x284000, x284001 => if x9 < x284000 then (impl_burn.j2 k x1 x7 x8 x9 (decide (x8 < 0)) x284000 x284001) else (impl_burn.j2 k x1 x7 x8 x9 false x284000 x284001)
def impl_burn.j2 : Nat → List Int → List Int → Int → Int → Bool → Int → List (S70) → Option (List Int)
 | 0, _, _, _, _, _, _, _ => none
 | k + 1, x1, x7, x8, x9, x22, x284000, x284001 => if x22 = true then (impl_burn.l2 k x1 x7 x8 x9 0 x7 (x7.length : Int) 0 x284000 x284001) else (if x8 < 0 then (some x7) else (if x7.length < 17592186044416 then (impl_burn.l0 k x1 (x7 ++ [x8]) x284000 x284001) else (none)))
def impl_burn.l2 : Nat → List Int → List Int → Int → Int → Int → List Int → Int → Int → Int → List (S70) → Option (List Int)
 | 0, _, _, _, _, _, _, _, _, _, _ => none
 | k + 1, x1, x7, x8, x9, x10, x25, x26, x27, x284000, x284001 => if x27 < x26 then (if 0 ≤ x27 then (if x27 < (x25.length : Int) then ((impl_Multiplicity.f k x284000 x284001 x9 (rd x25 x27)).bind fun t288 => (impl_burn.l2 k x1 x7 x8 x9 (wrap64 (x10 + t288)) x25 x26 (wrap64 (x27 + 1)) x284000 x284001)) else (none)) else (none)) else ((slices_Contains_int_int.f k x7 x9).bind fun t289 => (if t289 = true then (impl_burn.l1 k x1 x7 x8 (wrap64 (x9 + 1)) x284000 x284001) else (if 0 ≤ x9 then (if x9 < (x1.length : Int) then (if (rd x1 x9) < x10 then (impl_burn.l1 k x1 x7 x9 (wrap64 (x9 + 1)) x284000 x284001) else (impl_burn.l1 k x1 x7 x8 (wrap64 (x9 + 1)) x284000 x284001)) else (none)) else (none))))
end
def impl_burn.f (k : Nat) (a0_0 : Int) (l0_1 : List (S70)) (l1 : List Int) (a2 : Int) : Option (List Int) := impl_burn.l0 k l1 (([a2] : List Int)) a0_0 l0_1
set_option maxHeartbeats 8000000 in
set_option maxRecDepth 100000 in
theorem impl_burn.calls (k : Nat) (a0_0 : Int) (A0_1 : Option Addr) (c0_1 : Nat) (l0_1 : List (S70)) (A1 : Option Addr) (c1 : Nat) (l1 : List Int) (a2 : Int) (r : List Int) (w : World) (hr0_1 : Kd.C k70 w A0_1 l0_1.length l0_1) (hc0_1 : l0_1.length ≤ c0_1) (hr1 : Kd.C (Kd.int .i64) w A1 l1.length l1) (hc1 : l1.length ≤ c1) (h : impl_burn.f k a0_0 l0_1 l1 a2 = some r) :
  Calls Try.prog 99 #[.agg #[.int .i64 a0_0, .slice A0_1 l0_1.length c0_1], .slice A1 l1.length c1, .int .i64 a2] w fun e w' => ∃ v0_ : Value, e = .returned (v0_) ∧ Kd.R (Kd.int .i64) 3 w' w.heap.size (fun _ => True) v0_ r ∧ Below w.heap.size w w' := by
 have hu25 := Try.underlying25
 have HR0_1 := Aside0.mk hr0_1
 have HC0_1 := Aside0.mk hc0_1
 clear hr0_1 hc0_1
 have HR1 := Aside0.mk hr1
 have HC1 := Aside0.mk hc1
 clear hr1 hc1
 have HB := Aside0.mk (Below.refl w.heap.size w)
 have H : (impl_burn.l0 k l1 (([a2] : List Int)) a0_0 l0_1) = some r := h
 clear h
 obtain ⟨y284, hy284⟩ : ∃ y_ : List Int, y_ = (([a2] : List Int)) := ⟨_, rfl⟩
 replace H : (impl_burn.l0 k l1 y284 a0_0 l0_1) = some r := by first | (rw [hy284]; with_reducible exact H) | (have H2_ := (Option.bind_some _ _).symm.trans H; rw [hy284]; with_reducible exact H2_) | (have H2_ := (Option.bind_some _ _).symm.trans H; with_reducible exact H2_) | with_reducible exact H | (rw [hy284]; exact H) | exact H
 have Ny284 := Aside0.mk hy284
 clear hy284
 have H' := Aside0.mk H
 clear H
 go_enter Try.func99, Try.ntmps99
 go_wp2_with (first | ((with_reducible refine gate_dst (N := 3) rfl ?_); refine box_event ?hg (N := 3) ?hd (cs := #[.int .i64 a0_0, .slice A0_1 l0_1.length c0_1]) (t := 25) ?hr ?_; (case hd => rfl); (case hg => rfl); (case hr => first | (go_simp; done) | (go_simp; rfl)); intro gb283 hg w4 hbox hb; have BK283 := Aside0.mk (hbox); have GW283 := Aside0.mk ((by rw [hg]; exact (below_size (Lz HB)) : w.heap.size ≤ gb283)); have GE283 := Aside0.mk ((by rw [hg]; exact (below_size (Lz HB)) : w.heap.size ≤ gb283)); replace HB := Aside0.mk (below_step (Lz HB) hb); clear hb hbox hg) | ((with_reducible refine gate_dst (N := 14) rfl ?_); refine Kd.R_lit (Kd.int .i64) _ 3 ?hg (N := 14) ?hd (xs := ([a2] : List Int)) (inner := [.int .i64 a2]) (ok := fun _ => True) (okp := fun _ => True) ?hr ?hp (fun _ hk => hk) trivial (Below.refl _ _) (Nat.le_refl _) (by simp) ?_; (case hd => rfl); (case hg => rfl); (case hr => first | (go_simp; done) | (go_simp; rfl)); (case hp => exact (Reps.one (show Kd.M (Kd.int .i64) _ _ _ a2 [.int .i64 a2] from rfl) (Reps.none _ _))); intro v285 w5 ho6 hb hg_ hnew_; clear hg_ hnew_; (first | rw [← Ny284.out] at ho6 | (simp only [Int.reduceToNat] at ho6; rw [← Ny284.out] at ho6)); have HO286 := Aside0.mk (Kd.R_lower ho6 (below_size (by exact Lz1 HB GE283))); replace BK283 := Aside0.mk (blk_below (g := gb283) (o := .cells #[.int .i64 a0_0, .slice A0_1 l0_1.length c0_1] 25 (0, 0)) (Bz BK283) hb); replace HB := Aside0.mk (below_step (by exact Lz1 HB GE283) hb); clear hb ho6))
 go_loopg [7] k (fun kq v7 w' => ∃ (x7_1 : List Int), Aside0 (impl_burn.l0 kq l1 x7_1 a0_0 l0_1 = some r) ∧ Aside0 (kq ≤ k) ∧ Aside0 (Kd.R (Kd.int .i64) 3 w' w.heap.size (fun _ => True) v7 x7_1) ∧ Aside0 (w'.heap[gb283]? = some (.cells #[.int .i64 a0_0, (.slice A0_1 l0_1.length c0_1)] 25 (0, 0))) ∧ Aside0 (Below w.heap.size w w'))
 case atStart => exact ⟨(y284), H', ⟨Nat.le_refl _⟩, ⟨by exact Rz HO286⟩, ⟨by exact Bz BK283⟩, ⟨by exact Lz1 HB GE283⟩⟩
 case round =>
  clear H'
  try clear c1
  obtain ⟨x7_1, HA, HK1, HO_7, BK283, HB⟩ := hrel
  cases gk with
  | zero => exact absurd HA.out (by simp [impl_burn.l0])
  | succ k1 =>
   have H := HA.out
   clear HA
   simp only [impl_burn.l0] at H
   have H' := Aside0.mk H
   clear H
   go_wp2
   go_loopg [8, 9] k1 (fun kq v8 v9 w' => ∃ (x8_2 : Int) (x9_2 : Int), v8 = .int .i64 x8_2 ∧ v9 = .int .i64 x9_2 ∧ Aside0 (impl_burn.l1 kq l1 x7_1 x8_2 x9_2 a0_0 l0_1 = some r) ∧ Aside0 (kq ≤ k1) ∧ Aside0 (Kd.R (Kd.int .i64) 3 w' w.heap.size (fun _ => True) u7 x7_1) ∧ Aside0 (w'.heap[gb283]? = some (.cells #[.int .i64 a0_0, (.slice A0_1 l0_1.length c0_1)] 25 (0, 0))) ∧ Aside0 (Below w.heap.size w w'))
   case atStart => exact ⟨((-1)), (0), (by first | rfl | (simp; done) | (simp [*]; done)), (by first | rfl | (simp; done) | (simp [*]; done)), H', ⟨Nat.le_refl _⟩, ⟨by exact Rz HO_7⟩, ⟨by exact Bz BK283⟩, ⟨by exact Lz1 HB GE283⟩⟩
   case round =>
    clear H'
    try clear c1
    obtain ⟨x8_2, x9_2, rfl, rfl, HA, HK2, HO_7, BK283, HB⟩ := hrel
    cases gk with
    | zero => exact absurd HA.out (by simp [impl_burn.l1])
    | succ k2 =>
     have H := HA.out
     clear HA
     simp only [impl_burn.l1] at H
     have HC7 := Aside0.mk H
     clear H
     go_upto_region 4 with (fail)
     go_cut [22] (fun v22 wc => ∃ (kq : Nat) (x22_6 : Bool), v22 = .bool x22_6 ∧ Aside0 (impl_burn.j2 kq l1 x7_1 x8_2 x9_2 x22_6 a0_0 l0_1 = some r) ∧ Aside0 (kq ≤ k2) ∧ Aside0 (Kd.R (Kd.int .i64) 3 wc w.heap.size (fun _ => True) u7 x7_1) ∧ Aside0 (wc.heap[gb283]? = some (.cells #[.int .i64 a0_0, (.slice A0_1 l0_1.length c0_1)] 25 (0, 0))) ∧ Aside0 (Below w.heap.size w wc))
     case first =>
      have H := HC7.out
      clear HC7
      by_cases c8 : x9_2 < a0_0
      ·rw [if_pos c8] at H
       have c8b0 : decide (x9_2 < a0_0) = true := decide_eq_true c8
       clear c8
       (first | rw [c8b0] | (simp only [i64_w, i32_w]; rw [c8b0]) | skip)
       have H' := Aside0.mk H
       clear H
       have hcz9_0 : wr.cell? ⟨gb283, 0, none⟩ = some (.int .i64 a0_0) := (blk_cell BK283.out 0).trans rfl
       have hcz9_1 : wr.cell? ⟨gb283, 1, none⟩ = some (.slice A0_1 l0_1.length c0_1) := (blk_cell BK283.out 1).trans rfl
       have hfz9_0 := blk_frozen BK283.out 0
       have hfz9_1 := blk_frozen BK283.out 1
       go_wp2
       go_meet
       case rel => exact ⟨_, (decide (x8_2 < 0)), (by first | rfl | (simp; done) | (simp [*]; done)), H', ⟨by have := HK1.out; have := HK2.out; first | omega | exact Nat.le_refl _⟩, ⟨by exact Rz HO_7⟩, ⟨by exact Bz BK283⟩, ⟨by exact Lz1 HB GE283⟩⟩
      rw [if_neg c8] at H
      have c8b0 : decide (x9_2 < a0_0) = false := decide_eq_false c8
      clear c8
      (first | rw [c8b0] | (simp only [i64_w, i32_w]; rw [c8b0]) | skip)
      have H' := Aside0.mk H
      clear H
      have hcz10_0 : wr.cell? ⟨gb283, 0, none⟩ = some (.int .i64 a0_0) := (blk_cell BK283.out 0).trans rfl
      have hcz10_1 : wr.cell? ⟨gb283, 1, none⟩ = some (.slice A0_1 l0_1.length c0_1) := (blk_cell BK283.out 1).trans rfl
      have hfz10_0 := blk_frozen BK283.out 0
      have hfz10_1 := blk_frozen BK283.out 1
      go_wp2
      go_meet
      case rel => exact ⟨_, (false), (by first | rfl | (simp; done) | (simp [*]; done)), H', ⟨by have := HK1.out; have := HK2.out; first | omega | exact Nat.le_refl _⟩, ⟨by exact Rz HO_7⟩, ⟨by exact Bz BK283⟩, ⟨by exact Lz1 HB GE283⟩⟩
     case rest =>
      clear HC7
      try clear c1
      try clear c8
      try clear c8b0
      obtain ⟨kq, x22_6, rfl, HA, HJ6, HO_7, BK283, HB⟩ := hcut
      cases kq with
      | zero => exact absurd HA.out (by simp [impl_burn.j2])
      | succ kj6 =>
       have H := HA.out
       clear HA
       simp only [impl_burn.j2] at H
       by_cases c11 : x22_6 = true
       ·subst c11
        have H1 : (impl_burn.l2 kj6 l1 x7_1 x8_2 x9_2 0 x7_1 (x7_1.length : Int) 0 a0_0 l0_1) = some r := by rw [if_pos rfl] at H; exact H
        clear H
        have H := H1
        clear H1
        have H' := Aside0.mk H
        clear H
        obtain ⟨Ao12, co12, eo12⟩ := Kd.R_slice HO_7.out
        subst eo12
        go_wp2
        go_loopg [10, 27] kj6 (fun kq v10 v27 w' => ∃ (x10_4 : Int) (x27_4 : Int), v10 = .int .i64 x10_4 ∧ v27 = .int .i64 x27_4 ∧ Aside0 (impl_burn.l2 kq l1 x7_1 x8_2 x9_2 x10_4 x7_1 (x7_1.length : Int) x27_4 a0_0 l0_1 = some r) ∧ Aside0 (kq ≤ kj6) ∧ Aside0 (Kd.R (Kd.int .i64) 3 w' w.heap.size (fun _ => True) (.slice Ao12 x7_1.length co12) x7_1) ∧ Aside0 (Kd.R (Kd.int .i64) 3 w' w.heap.size (fun _ => True) (.slice Ao12 x7_1.length co12) x7_1) ∧ Aside0 (w'.heap[gb283]? = some (.cells #[.int .i64 a0_0, (.slice A0_1 l0_1.length c0_1)] 25 (0, 0))) ∧ Aside0 (Below w.heap.size w w'))
        case atStart => exact ⟨(0), (0), (by first | rfl | (simp; done) | (simp [*]; done)), (by first | rfl | (simp; done) | (simp [*]; done)), H', ⟨Nat.le_refl _⟩, ⟨by exact Rz HO_7⟩, ⟨by exact Rz HO_7⟩, ⟨by exact Bz BK283⟩, ⟨by exact Lz1 HB GE283⟩⟩
        case round =>
         clear H'
         try clear c1
         try clear c8
         try clear c8b0
         try clear c11
         obtain ⟨x10_4, x27_4, rfl, rfl, HA, HK4, HO_7, HO_25, BK283, HB⟩ := hrel
         cases gk with
         | zero => exact absurd HA.out (by simp [impl_burn.l2])
         | succ k4 =>
          have H := HA.out
          clear HA
          simp only [impl_burn.l2] at H
          by_cases c13 : x27_4 < (x7_1.length : Int)
          ·rw [if_pos c13] at H
           have c13b0 : decide (x27_4 < (x7_1.length : Int)) = true := decide_eq_true c13
           clear c13
           by_cases c14 : 0 ≤ x27_4
           ·rw [if_pos c14] at H
            have c14b0 : decide (0 ≤ x27_4) = true := decide_eq_true c14
            clear c14
            by_cases c15 : x27_4 < (x7_1.length : Int)
            ·rw [if_pos c15] at H
             have c15b0 : decide (x27_4 < (x7_1.length : Int)) = true := decide_eq_true c15
             clear c15
             replace H := Option.bind_eq_some_iff.mp H
             obtain ⟨t288, A160, H⟩ := H
             replace H : (impl_burn.l2 k4 l1 x7_1 x8_2 x9_2 (wrap64 (x10_4 + t288)) x7_1 (x7_1.length : Int) (wrap64 (x27_4 + 1)) a0_0 l0_1) = some r := H
             have A16 := Aside0.mk A160
             clear A160
             have H' := Aside0.mk H
             clear H
             have p287 : 0 ≤ (x27_4 : Int) := of_decide_eq_true (by first | (with_reducible assumption) | assumption)
             have q287 : x27_4 < (x7_1.length : Int) := of_decide_eq_true (by first | (with_reducible assumption) | assumption)
             obtain ⟨ad287, e287, hx287_0⟩ := Kd.at_int (Kd.R_reads' HO_25.out).2.2 x27_4 p287 q287
             cases e287
             replace p287 := eq_true p287
             replace q287 := eq_true q287
             have hcz17_0 : wr.cell? ⟨gb283, 0, none⟩ = some (.int .i64 a0_0) := (blk_cell BK283.out 0).trans rfl
             have hcz17_1 : wr.cell? ⟨gb283, 1, none⟩ = some (.slice A0_1 l0_1.length c0_1) := (blk_cell BK283.out 1).trans rfl
             have hfz17_0 := blk_frozen BK283.out 0
             have hfz17_1 := blk_frozen BK283.out 1
             go_wp2_with (first | ((with_reducible refine gate_callee (f := 58) rfl ?_); refine goesM_ (some 35) rfl rfl Try.func58 (by kernel_rfl) rfl #[.agg #[.int .i64 a0_0, .slice A0_1 l0_1.length c0_1], .int .i64 x9_2, .int .i64 (rd x7_1 x27_4)] rfl ?_; (with_reducible refine (impl_Multiplicity.calls k4 a0_0 _ _ l0_1 x9_2 (rd x7_1 x27_4) t288 _ ?side1 ?side2 A16.out).mono ?_); (case side1 => exact Cz ((Kd.C_below HR0_1.out HB.out))); (case side2 => exact HC0_1.out); rintro e w18 ⟨rfl, hb⟩; refine ⟨_, rfl, ?_⟩; replace HO_7 := Aside0.mk (Kd.R_below (Rz HO_7) hb); replace HO_25 := Aside0.mk (Kd.R_below (Rz HO_25) hb); replace BK283 := Aside0.mk (blk_below (g := gb283) (o := .cells #[.int .i64 a0_0, .slice A0_1 l0_1.length c0_1] 25 (0, 0)) (Bz BK283) hb); replace HB := Aside0.mk (below_step (by exact Lz1 HB GE283) hb); (try clear hb); (try clear hb2); (try clear hk); (try clear hi)))
             go_roundg k4
             case measure => have := HK1.out; have := HK2.out; have := HJ6.out; have := HK4.out; omega
             case rel => exact ⟨(wrap64 (x10_4 + t288)), (wrap64 (x27_4 + 1)), (by first | rfl | (simp; done) | (simp [*]; done)), (by first | rfl | (simp; done) | (simp [*]; done)), H', ⟨by have := HK1.out; have := HK2.out; have := HJ6.out; have := HK4.out; omega⟩, ⟨by exact Rz HO_7⟩, ⟨by exact Rz HO_25⟩, ⟨by exact Bz BK283⟩, ⟨by exact Lz1 HB GE283⟩⟩
            rw [if_neg c15] at H
            exact absurd H (by simp)
           rw [if_neg c14] at H
           exact absurd H (by simp)
          rw [if_neg c13] at H
          have c13b0 : decide (x27_4 < (x7_1.length : Int)) = false := decide_eq_false c13
          clear c13
          replace H := Option.bind_eq_some_iff.mp H
          obtain ⟨t289, A190, H⟩ := H
          replace H : (if t289 = true then (impl_burn.l1 k4 l1 x7_1 x8_2 (wrap64 (x9_2 + 1)) a0_0 l0_1) else (if 0 ≤ x9_2 then (if x9_2 < (l1.length : Int) then (if (rd l1 x9_2) < x10_4 then (impl_burn.l1 k4 l1 x7_1 x9_2 (wrap64 (x9_2 + 1)) a0_0 l0_1) else (impl_burn.l1 k4 l1 x7_1 x8_2 (wrap64 (x9_2 + 1)) a0_0 l0_1)) else (none)) else (none))) = some r := H
          have A19 := Aside0.mk A190
          clear A190
          by_cases c20 : t289 = true
          ·subst c20
           have H1 : (impl_burn.l1 k4 l1 x7_1 x8_2 (wrap64 (x9_2 + 1)) a0_0 l0_1) = some r := by rw [if_pos rfl] at H; exact H
           clear H
           have H := H1
           clear H1
           have H' := Aside0.mk H
           clear H
           go_wp2_with (first | ((with_reducible refine gate_callee (f := 73) rfl ?_); refine goesM_ (some 40) rfl rfl Try.func73 (by kernel_rfl) rfl #[.slice Ao12 x7_1.length co12, .int .i64 x9_2] rfl ?_; (with_reducible refine (slices_Contains_int_int.calls k4 _ _ x7_1 x9_2 true _ ?side1 ?side2 A19.out).mono ?_); (case side1 => exact Cz ((Kd.R_reads' HO_7.out).2.2)); (case side2 => exact (Kd.R_reads' HO_7.out).2.1); rintro e w' ⟨rfl, ⟨nd, rfl⟩⟩; refine ⟨_, rfl, ?_⟩))
           go_roundg k4
           case measure => have := HK1.out; have := HK2.out; have := HJ6.out; have := HK4.out; omega
           case rel => exact ⟨(x8_2), (wrap64 (x9_2 + 1)), (by first | rfl | (simp; done) | (simp [*]; done)), (by first | rfl | (simp; done) | (simp [*]; done)), H', ⟨by have := HK1.out; have := HK2.out; have := HJ6.out; have := HK4.out; omega⟩, ⟨by exact Rz HO_7⟩, ⟨by exact Bz BK283⟩, ⟨by exact Lz1 HB GE283⟩⟩
          replace c20 := Bool.eq_false_iff.mpr c20
          subst c20
          have H1 : (if 0 ≤ x9_2 then (if x9_2 < (l1.length : Int) then (if (rd l1 x9_2) < x10_4 then (impl_burn.l1 k4 l1 x7_1 x9_2 (wrap64 (x9_2 + 1)) a0_0 l0_1) else (impl_burn.l1 k4 l1 x7_1 x8_2 (wrap64 (x9_2 + 1)) a0_0 l0_1)) else (none)) else (none)) = some r := by rw [if_neg (show ¬ (false = true) by decide)] at H; exact H
          clear H
          have H := H1
          clear H1
          by_cases c21 : 0 ≤ x9_2
          ·rw [if_pos c21] at H
           have c21b0 : decide (0 ≤ x9_2) = true := decide_eq_true c21
           clear c21
           by_cases c22 : x9_2 < (l1.length : Int)
           ·rw [if_pos c22] at H
            have c22b0 : decide (x9_2 < (l1.length : Int)) = true := decide_eq_true c22
            clear c22
            by_cases c23 : (rd l1 x9_2) < x10_4
            ·rw [if_pos c23] at H
             have c23b0 : decide ((rd l1 x9_2) < x10_4) = true := decide_eq_true c23
             clear c23
             have H' := Aside0.mk H
             clear H
             go_wp2_with (first | ((with_reducible refine gate_callee (f := 73) rfl ?_); refine goesM_ (some 40) rfl rfl Try.func73 (by kernel_rfl) rfl #[.slice Ao12 x7_1.length co12, .int .i64 x9_2] rfl ?_; (with_reducible refine (slices_Contains_int_int.calls k4 _ _ x7_1 x9_2 false _ ?side1 ?side2 A19.out).mono ?_); (case side1 => exact Cz ((Kd.R_reads' HO_7.out).2.2)); (case side2 => exact (Kd.R_reads' HO_7.out).2.1); rintro e w' ⟨rfl, ⟨nd, rfl⟩⟩; refine ⟨_, rfl, ?_⟩; have p290 : 0 ≤ (x9_2 : Int) := of_decide_eq_true (by first | (with_reducible assumption) | assumption); have q290 : x9_2 < (l1.length : Int) := of_decide_eq_true (by first | (with_reducible assumption) | assumption); obtain ⟨ad290, e290, hx290_0⟩ := Kd.at_int HR1.out x9_2 p290 q290; cases e290; replace hx290_0 := (HB.out.cell (World.block_lt_of_cell? w _ hx290_0)).trans hx290_0; replace p290 := eq_true p290; replace q290 := eq_true q290))
             go_roundg k4
             case measure => have := HK1.out; have := HK2.out; have := HJ6.out; have := HK4.out; omega
             case rel => exact ⟨(x9_2), (wrap64 (x9_2 + 1)), (by first | rfl | (simp; done) | (simp [*]; done)), (by first | rfl | (simp; done) | (simp [*]; done)), H', ⟨by have := HK1.out; have := HK2.out; have := HJ6.out; have := HK4.out; omega⟩, ⟨by exact Rz HO_7⟩, ⟨by exact Bz BK283⟩, ⟨by exact Lz1 HB GE283⟩⟩
            rw [if_neg c23] at H
            have c23b0 : decide ((rd l1 x9_2) < x10_4) = false := decide_eq_false c23
            clear c23
            have H' := Aside0.mk H
            clear H
            go_wp2_with (first | ((with_reducible refine gate_callee (f := 73) rfl ?_); refine goesM_ (some 40) rfl rfl Try.func73 (by kernel_rfl) rfl #[.slice Ao12 x7_1.length co12, .int .i64 x9_2] rfl ?_; (with_reducible refine (slices_Contains_int_int.calls k4 _ _ x7_1 x9_2 false _ ?side1 ?side2 A19.out).mono ?_); (case side1 => exact Cz ((Kd.R_reads' HO_7.out).2.2)); (case side2 => exact (Kd.R_reads' HO_7.out).2.1); rintro e w' ⟨rfl, ⟨nd, rfl⟩⟩; refine ⟨_, rfl, ?_⟩; have p290 : 0 ≤ (x9_2 : Int) := of_decide_eq_true (by first | (with_reducible assumption) | assumption); have q290 : x9_2 < (l1.length : Int) := of_decide_eq_true (by first | (with_reducible assumption) | assumption); obtain ⟨ad290, e290, hx290_0⟩ := Kd.at_int HR1.out x9_2 p290 q290; cases e290; replace hx290_0 := (HB.out.cell (World.block_lt_of_cell? w _ hx290_0)).trans hx290_0; replace p290 := eq_true p290; replace q290 := eq_true q290))
            go_roundg k4
            case measure => have := HK1.out; have := HK2.out; have := HJ6.out; have := HK4.out; omega
            case rel => exact ⟨(x8_2), (wrap64 (x9_2 + 1)), (by first | rfl | (simp; done) | (simp [*]; done)), (by first | rfl | (simp; done) | (simp [*]; done)), H', ⟨by have := HK1.out; have := HK2.out; have := HJ6.out; have := HK4.out; omega⟩, ⟨by exact Rz HO_7⟩, ⟨by exact Bz BK283⟩, ⟨by exact Lz1 HB GE283⟩⟩
           rw [if_neg c22] at H
           exact absurd H (by simp)
          rw [if_neg c21] at H
          exact absurd H (by simp)
       replace c11 := Bool.eq_false_iff.mpr c11
       subst c11
       have H1 : (if x8_2 < 0 then (some x7_1) else (if x7_1.length < 17592186044416 then (impl_burn.l0 kj6 l1 (x7_1 ++ [x8_2]) a0_0 l0_1) else (none))) = some r := by rw [if_neg (show ¬ (false = true) by decide)] at H; exact H
       clear H
       have H := H1
       clear H1
       by_cases c24 : x8_2 < 0
       ·rw [if_pos c24] at H
        have c24b0 : decide (x8_2 < 0) = true := decide_eq_true c24
        clear c24
        obtain rfl := Option.some.inj H
        go_wp2
        go_ret
        exact ⟨_, by first | rfl | (simp [errW_none, errW_some] <;> rfl) | (simp [*, errW_none, errW_some] <;> rfl), by exact Rz HO_7, by exact Lz1 HB GE283⟩
       rw [if_neg c24] at H
       have c24b0 : decide (x8_2 < 0) = false := decide_eq_false c24
       clear c24
       by_cases c25 : x7_1.length < 17592186044416
       ·rw [if_pos c25] at H
        have LMc25 := Aside0.mk c25
        clear c25
        obtain ⟨y291, hy291⟩ : ∃ y_ : List Int, y_ = (x7_1 ++ [x8_2]) := ⟨_, rfl⟩
        replace H : (impl_burn.l0 kj6 l1 y291 a0_0 l0_1) = some r := by first | (rw [hy291]; with_reducible exact H) | (have H2_ := (Option.bind_some _ _).symm.trans H; rw [hy291]; with_reducible exact H2_) | (have H2_ := (Option.bind_some _ _).symm.trans H; with_reducible exact H2_) | with_reducible exact H | (rw [hy291]; exact H) | exact H
        have Ny291 := Aside0.mk hy291
        clear hy291
        have H' := Aside0.mk H
        clear H
        go_wp2_with (first | ((with_reducible refine gate_builtin (b := .append) (xs := #[.tmp 54, .tmp 56]) rfl ?_); at_builtin; refine Kd.R_append (Kd.int .i64) (w0 := w) w.heap.size rfl (.tmp 54) (.tmp 56) 27 3 (.int .i64 0) 8 rfl Try.underlying27 info3 rfl (by decide) (by omega) u7 x7_1 x8_2 [.int .i64 x8_2] (fun _ => True) (fun _ => False) rfl rfl ?aP (fun _ hk => hk.elim) ?aF ?aO ?aB ?aS ?aL ?_; (case aP => exact rfl); (case aB => exact (by exact Lz1 HB GE283)); (case aF => exact (fun _ _ => trivial)); (case aO => exact (Rz HO_7)); (case aS => exact (below_size (by exact Lz1 HB GE283))); (case aL => have := LMc25.out; omega); intro v292 w26 ho hb hg hat; rw [← Ny291.out] at ho; replace BK283 := Aside0.mk (blk_grown (g := gb283) (o := .cells #[.int .i64 a0_0, .slice A0_1 l0_1.length c0_1] 25 (0, 0)) (Bz BK283) hg (Kd.R_ne HO_7.out BK283.out (by decide))); replace HB := Aside0.mk (hb); have HO293 := Aside0.mk (ho); clear HO_7; clear ho hb hg hat))
        go_roundg kj6
        case measure => have := HK1.out; have := HK2.out; have := HJ6.out; omega
        case rel => exact ⟨(y291), H', ⟨by have := HK1.out; have := HK2.out; have := HJ6.out; omega⟩, ⟨by exact Rz HO293⟩, ⟨by exact Bz BK283⟩, ⟨by exact Lz1 HB GE283⟩⟩
       rw [if_neg c25] at H
       exact absurd H (by simp)
end Go.Proofs.Ytnebapnfkolflaa.P
end
section
namespace Go.Proofs.Ytnebapnfkolflaa.P
open Go.RowKit Go.Proofs.YtnebapnfkolflaaW.PrintWords Go.Proofs.YtnebapnfkolflaaW.PrintLast Go.Proofs.YtnebapnfkolflaaW.PrintMore
attribute [local go_sem] max2_int min2_int max_two min_two max_three min_three max_four min_four
set_option linter.unusedVariables false
set_option linter.unusedSimpArgs false
def impl_copyInts.f (l0 : List Int) : Option (List Int) := if ([] : List Int).length + l0.length < 17592186044416 then (some (([] : List Int) ++ l0)) else (none)
set_option maxHeartbeats 8000000 in
set_option maxRecDepth 100000 in
theorem impl_copyInts.calls (A0 : Option Addr) (c0 : Nat) (l0 : List Int) (r : List Int) (w : World) (hr0 : Kd.C (Kd.int .i64) w A0 l0.length l0) (hc0 : l0.length ≤ c0) (h : impl_copyInts.f l0 = some r) :
  Calls Try.prog 109 #[.slice A0 l0.length c0] w fun e w' => ∃ v0_ : Value, e = .returned (v0_) ∧ Kd.R (Kd.int .i64) 3 w' w.heap.size (fun _ => True) v0_ r ∧ Below w.heap.size w w' := by
 have HR0 := Aside0.mk hr0
 have HC0 := Aside0.mk hc0
 clear hr0 hc0
 have HB := Aside0.mk (Below.refl w.heap.size w)
 have H : (if ([] : List Int).length + l0.length < 17592186044416 then (some (([] : List Int) ++ l0)) else (none)) = some r := h
 clear h
 by_cases c2 : ([] : List Int).length + l0.length < 17592186044416
 ·rw [if_pos c2] at H
  have LMc2 := Aside0.mk c2
  clear c2
  obtain ⟨y294, hy294⟩ : ∃ y_ : List Int, y_ = (([] : List Int) ++ l0) := ⟨_, rfl⟩
  replace H : (some y294) = some r := by first | (rw [hy294]; with_reducible exact H) | (have H2_ := (Option.bind_some _ _).symm.trans H; rw [hy294]; with_reducible exact H2_) | (have H2_ := (Option.bind_some _ _).symm.trans H; with_reducible exact H2_) | with_reducible exact H | (rw [hy294]; exact H) | exact H
  have Ny294 := Aside0.mk hy294
  clear hy294
  obtain rfl := Option.some.inj H
  go_enter Try.func109, Try.ntmps109
  go_wp2_with (first | ((with_reducible refine gate_builtin (b := .append) (xs := #[.const (.slice none 0 0), .tmp 3]) rfl ?_); at_builtin; refine Kd.R_append_rows (Kd.int .i64) (w0 := w) w.heap.size rfl (.const (.slice none 0 0)) (.tmp 3) 27 3 (.int .i64 0) 8 rfl Try.underlying27 info3 rfl (by decide) (by omega) (.slice none 0 0) ([] : List Int) l0 _ _ _ (fun _ => True) (fun _ => False) rfl rfl ?aO ?aR (fun _ _ h => h) (fun _ h => h.elim) ?aF ?aB ?aS ?aL ?_; (case aR => exact Cz (HR0.out)); (case aB => exact (Lz HB)); (case aF => exact (fun _ _ => trivial)); (case aO => exact ((Kd.R_nil _ _ _ _ (fun _ => True)))); (case aS => exact (below_size (Lz HB))); (case aL => have := LMc2.out; omega); intro v295 w3 ho hb hg hat; rw [← Ny294.out] at ho; replace HB := Aside0.mk (hb); have HO296 := Aside0.mk (ho); clear ho hb hg hat))
  go_ret
  exact ⟨_, by first | rfl | (simp [errW_none, errW_some] <;> rfl) | (simp [*, errW_none, errW_some] <;> rfl), by exact Rz HO296, by exact Lz HB⟩
 rw [if_neg c2] at H
 exact absurd H (by simp)
end Go.Proofs.Ytnebapnfkolflaa.P
end
section
namespace Go.Proofs.Ytnebapnfkolflaa.P
open Go.RowKit Go.Proofs.YtnebapnfkolflaaW.PrintWords Go.Proofs.YtnebapnfkolflaaW.PrintLast Go.Proofs.YtnebapnfkolflaaW.PrintMore
attribute [local go_sem] max2_int min2_int max_two min_two max_three min_three max_four min_four
set_option linter.unusedVariables false
set_option linter.unusedSimpArgs false
def impl_fire.l0 : Nat → List Int → Int → Int → List (S70) → Int → Int → Option (List Int)
 | 0, _, _, _, _, _, _ => none
 | k + 1, x1, x2, x3, x11, x12, x13 => if x13 < x12 then (if 0 ≤ x13 then (if x13 < (x11.length : Int) then (if x2 = ((rd_T70 x11 x13).f0) then (if 0 ≤ x2 then (if x2 < (x1.length : Int) then ((some (x1.set (x2 : Int).toNat (wrap64 ((rd x1 x2) - x3)) : List Int)).bind fun y301 => (if 0 ≤ ((rd_T70 x11 x13).f1) then (if ((rd_T70 x11 x13).f1) < (x1.length : Int) then (impl_fire.l0 k (y301.set (((rd_T70 x11 x13).f1) : Int).toNat (wrap64 ((rd y301 ((rd_T70 x11 x13).f1)) + x3))) x2 x3 x11 x12 (wrap64 (x13 + 1))) else (none)) else (none))) else (none)) else (none)) else (if x2 = ((rd_T70 x11 x13).f1) then (if 0 ≤ x2 then (if x2 < (x1.length : Int) then ((some (x1.set (x2 : Int).toNat (wrap64 ((rd x1 x2) - x3)) : List Int)).bind fun y305 => (if 0 ≤ ((rd_T70 x11 x13).f0) then (if ((rd_T70 x11 x13).f0) < (x1.length : Int) then (impl_fire.l0 k (y305.set (((rd_T70 x11 x13).f0) : Int).toNat (wrap64 ((rd y305 ((rd_T70 x11 x13).f0)) + x3))) x2 x3 x11 x12 (wrap64 (x13 + 1))) else (none)) else (none))) else (none)) else (none)) else (impl_fire.l0 k x1 x2 x3 x11 x12 (wrap64 (x13 + 1))))) else (none)) else (none)) else (some x1)
def impl_fire.f (k : Nat) (a0_0 : Int) (l0_1 : List (S70)) (l1 : List Int) (a2 : Int) (a3 : Int) : Option (List Int) := impl_fire.l0 k l1 a2 a3 l0_1 (l0_1.length : Int) 0
set_option maxHeartbeats 8000000 in
set_option maxRecDepth 100000 in
theorem impl_fire.calls (k : Nat) (a0_0 : Int) (A0_1 : Option Addr) (c0_1 : Nat) (l0_1 : List (S70)) (P1_ : Nat → Prop) (u9000_ : Value) (l1 : List Int) (a2 : Int) (a3 : Int) (r : List Int) (w0 w : World) (hB : Below w0.heap.size w0 w) (hr0_1 : ∀ W_, Kept w W_ (fun k_ => P1_ k_) → Kd.C k70 W_ A0_1 l0_1.length l0_1) (hc0_1 : l0_1.length ≤ c0_1) (ho1 : Kd.R (Kd.int .i64) 3 w w0.heap.size P1_ u9000_ l1) (h : impl_fire.f k a0_0 l0_1 l1 a2 a3 = some r) :
  Calls Try.prog 110 #[.agg #[.int .i64 a0_0, .slice A0_1 l0_1.length c0_1], u9000_, .int .i64 a2, .int .i64 a3] w fun e w' => e = .returned (.tuple #[]) ∧ Kd.R (Kd.int .i64) 3 w' w0.heap.size (fun k_ => (P1_ k_ ∨ w.heap.size ≤ k_)) u9000_ r ∧ Below w0.heap.size w0 w' ∧ Kept w w' (fun k_ => P1_ k_) := by
 have hu25 := Try.underlying25
 have hu70 := Try.underlying70
 have HR0_1 := Aside0.mk hr0_1
 have HC0_1 := Aside0.mk hc0_1
 clear hr0_1 hc0_1
 have HO1 := Aside0.mk (show Kd.R (Kd.int .i64) 3 w w0.heap.size (fun k_ => (P1_ k_ ∨ w.heap.size ≤ k_)) u9000_ l1 from Kd.R_mono ho1 (fun k_ hk => (.inl hk)))
 have HK := Aside0.mk (Kept.refl w (fun k_ => P1_ k_))
 have HW0 := Aside0.mk hB.size
 have HB := Aside0.mk hB
 clear hB
 have H : (impl_fire.l0 k l1 a2 a3 l0_1 (l0_1.length : Int) 0) = some r := h
 clear h
 have H' := Aside0.mk H
 clear H
 go_enter Try.func110, Try.ntmps110
 go_wp2_with (first | ((with_reducible refine gate_dst (N := 4) rfl ?_); refine box_event ?hg (N := 4) ?hd (cs := #[.int .i64 a0_0, .slice A0_1 l0_1.length c0_1]) (t := 25) ?hr ?_; (case hd => rfl); (case hg => rfl); (case hr => first | (go_simp; done) | (go_simp; rfl)); intro gb297 hg w5 hbox hb; replace HO1 := Aside0.mk (Kd.R_below (Rz HO1) hb); have BK297 := Aside0.mk (hbox); have GW297 := Aside0.mk ((by rw [hg]; exact (by first | exact HK.out.1 | exact (show Kept w _ (fun k_ => P1_ k_) from by repeat (first | (with_reducible first | exact HK.out | apply Kept.alloc | apply Kept.drewN | apply Kept.drew) | exact HK.out)).1) : w.heap.size ≤ gb297)); replace HK := Aside0.mk (Kept.below (S := (fun k_ => P1_ k_)) (by repeat (first | (with_reducible first | exact HK.out | apply Kept.alloc | apply Kept.drewN | apply Kept.drew) | exact HK.out)) hb); have GE297 := Aside0.mk ((by rw [hg]; exact (below_size (Lz HB)) : w0.heap.size ≤ gb297)); replace HB := Aside0.mk (below_step (Lz HB) hb); clear hb hbox hg; have hcz6_0 : w5.cell? ⟨gb297, 0, none⟩ = some (.int .i64 a0_0) := (blk_cell BK297.out 0).trans rfl; have hcz6_1 : w5.cell? ⟨gb297, 1, none⟩ = some (.slice A0_1 l0_1.length c0_1) := (blk_cell BK297.out 1).trans rfl; have hfz6_0 := blk_frozen BK297.out 0; have hfz6_1 := blk_frozen BK297.out 1))
 go_loopg [13] k (fun kq v13 w' => ∃ (x1_1 : List Int) (x13_1 : Int), v13 = .int .i64 x13_1 ∧ Aside0 (impl_fire.l0 kq x1_1 a2 a3 l0_1 (l0_1.length : Int) x13_1 = some r) ∧ Aside0 (kq ≤ k) ∧ Aside0 (Kd.R (Kd.int .i64) 3 w' w0.heap.size (fun k_ => (P1_ k_ ∨ w.heap.size ≤ k_)) u9000_ x1_1) ∧ Aside0 (w'.heap[gb297]? = some (.cells #[.int .i64 a0_0, (.slice A0_1 l0_1.length c0_1)] 25 (0, 0))) ∧ Aside0 (Kept w w' (fun k_ => P1_ k_)) ∧ Aside0 (Below w0.heap.size w0 w'))
 case atStart => exact ⟨(l1), (0), (by first | rfl | (simp; done) | (simp [*]; done)), H', ⟨Nat.le_refl _⟩, ⟨by exact Rz HO1⟩, ⟨by exact Bz BK297⟩, ⟨by repeat (first | (with_reducible first | exact HK.out | apply Kept.alloc | apply Kept.drewN | apply Kept.drew | refine Kept.setCell ?_ (.inr GW297.out) _) | exact HK.out)⟩, ⟨by exact Lz1 HB GE297⟩⟩
 case round =>
  clear H'
  obtain ⟨x1_1, x13_1, rfl, HA, HK1, HO_1, BK297, HK, HB⟩ := hrel
  cases gk with
  | zero => exact absurd HA.out (by simp [impl_fire.l0])
  | succ k1 =>
   have H := HA.out
   clear HA
   simp only [impl_fire.l0] at H
   by_cases c7 : x13_1 < (l0_1.length : Int)
   ·rw [if_pos c7] at H
    have c7b0 : decide (x13_1 < (l0_1.length : Int)) = true := decide_eq_true c7
    clear c7
    by_cases c8 : 0 ≤ x13_1
    ·rw [if_pos c8] at H
     have c8b0 : decide (0 ≤ x13_1) = true := decide_eq_true c8
     clear c8
     by_cases c9 : x13_1 < (l0_1.length : Int)
     ·rw [if_pos c9] at H
      have c9b0 : decide (x13_1 < (l0_1.length : Int)) = true := decide_eq_true c9
      clear c9
      by_cases c10 : a2 = ((rd_T70 l0_1 x13_1).f0)
      ·rw [if_pos c10] at H
       have c10b0 : (a2 == ((rd_T70 l0_1 x13_1).f0)) = true := beq_iff_eq.mpr c10
       have c10b1 : (a2 != ((rd_T70 l0_1 x13_1).f0)) = false := bne_eq_false_iff_eq.mpr c10
       clear c10
       by_cases c11 : 0 ≤ a2
       ·rw [if_pos c11] at H
        have c11b0 : decide (0 ≤ a2) = true := decide_eq_true c11
        clear c11
        by_cases c12 : a2 < (x1_1.length : Int)
        ·rw [if_pos c12] at H
         have c12b0 : decide (a2 < (x1_1.length : Int)) = true := decide_eq_true c12
         clear c12
         obtain ⟨y301, hy301⟩ : ∃ y_ : List Int, y_ = (x1_1.set (a2 : Int).toNat (wrap64 ((rd x1_1 a2) - a3))) := ⟨_, rfl⟩
         replace H : (if 0 ≤ ((rd_T70 l0_1 x13_1).f1) then (if ((rd_T70 l0_1 x13_1).f1) < (x1_1.length : Int) then (impl_fire.l0 k1 (y301.set (((rd_T70 l0_1 x13_1).f1) : Int).toNat (wrap64 ((rd y301 ((rd_T70 l0_1 x13_1).f1)) + a3))) a2 a3 l0_1 (l0_1.length : Int) (wrap64 (x13_1 + 1))) else (none)) else (none)) = some r := by first | (rw [hy301]; with_reducible exact H) | (have H2_ := (Option.bind_some _ _).symm.trans H; rw [hy301]; with_reducible exact H2_) | (have H2_ := (Option.bind_some _ _).symm.trans H; with_reducible exact H2_) | with_reducible exact H | (rw [hy301]; exact H) | exact H
         have Ny301 := Aside0.mk hy301
         clear hy301
         by_cases c14 : 0 ≤ ((rd_T70 l0_1 x13_1).f1)
         ·rw [if_pos c14] at H
          have c14b0 : decide (0 ≤ ((rd_T70 l0_1 x13_1).f1)) = true := decide_eq_true c14
          clear c14
          by_cases c15 : ((rd_T70 l0_1 x13_1).f1) < (x1_1.length : Int)
          ·rw [if_pos c15] at H
           have c15b0 : decide (((rd_T70 l0_1 x13_1).f1) < (x1_1.length : Int)) = true := decide_eq_true c15
           clear c15
           obtain ⟨y303, hy303⟩ : ∃ y_ : List Int, y_ = (y301.set (((rd_T70 l0_1 x13_1).f1) : Int).toNat (wrap64 ((rd y301 ((rd_T70 l0_1 x13_1).f1)) + a3))) := ⟨_, rfl⟩
           replace H : (impl_fire.l0 k1 y303 a2 a3 l0_1 (l0_1.length : Int) (wrap64 (x13_1 + 1))) = some r := by first | (rw [hy303]; with_reducible exact H) | (have H2_ := (Option.bind_some _ _).symm.trans H; rw [hy303]; with_reducible exact H2_) | (have H2_ := (Option.bind_some _ _).symm.trans H; with_reducible exact H2_) | with_reducible exact H | (rw [hy303]; exact H) | exact H
           have Ny303 := Aside0.mk hy303
           clear hy303
           have H' := Aside0.mk H
           clear H
           have p298 : 0 ≤ (x13_1 : Int) := of_decide_eq_true (by first | (with_reducible assumption) | assumption)
           have q298 : x13_1 < (l0_1.length : Int) := of_decide_eq_true (by first | (with_reducible assumption) | assumption)
           obtain ⟨ad298, e298, hx298_0, hx298_1⟩ := at_T70 (Kd.C_kept_now HR0_1.out HK.out) x13_1 p298 q298
           cases e298
           replace p298 := eq_true p298
           replace q298 := eq_true q298
           go_wp2_with (first | ((with_reducible refine gate_dst (N := 9) rfl ?_); refine box_event ?hg (N := 9) ?hd (cs := #[.int .i64 0, .int .i64 0]) (t := 70) ?hr ?_; (case hd => rfl); (case hg => rfl); (case hr => first | (go_simp; done) | (go_simp; rfl)); intro gb299 hg w17 hbox hb; replace HO_1 := Aside0.mk (Kd.R_below (Rz HO_1) hb); have BK299 := Aside0.mk (hbox); have GW299 := Aside0.mk ((by rw [hg]; exact (by first | exact HK.out.1 | exact (show Kept w _ (fun k_ => P1_ k_) from by repeat (first | (with_reducible first | exact HK.out | apply Kept.alloc | apply Kept.drewN | apply Kept.drew | refine Kept.setCell ?_ (.inr GW297.out) _) | exact HK.out)).1) : w.heap.size ≤ gb299)); replace HK := Aside0.mk (Kept.below (S := (fun k_ => P1_ k_)) (by repeat (first | (with_reducible first | exact HK.out | apply Kept.alloc | apply Kept.drewN | apply Kept.drew | refine Kept.setCell ?_ (.inr GW297.out) _) | exact HK.out)) hb); have GE299 := Aside0.mk ((by rw [hg]; exact (below_size (by exact Lz1 HB GE297)) : w0.heap.size ≤ gb299)); replace HB := Aside0.mk (below_step (by exact Lz1 HB GE297) hb); have NB297_299 := Aside0.mk ((by rw [hg]; exact Nat.ne_of_lt (blk_lt (g := gb297) (o := .cells #[.int .i64 a0_0, .slice (some ad298) l0_1.length c0_1] 25 (0, 0)) (Bz BK297)) : gb297 ≠ gb299)); have NB299_297 := Aside0.mk ((by rw [hg]; exact Nat.ne_of_gt (blk_lt (g := gb297) (o := .cells #[.int .i64 a0_0, .slice (some ad298) l0_1.length c0_1] 25 (0, 0)) (Bz BK297)) : gb299 ≠ gb297)); replace BK297 := Aside0.mk (blk_below (g := gb297) (o := .cells #[.int .i64 a0_0, .slice (some ad298) l0_1.length c0_1] 25 (0, 0)) (Bz BK297) hb); clear hb hbox hg; have hnb18 := NB299_297.out; have hnc18 := NB297_299.out; have hcz19_0 : w17.cell? ⟨gb299, 0, none⟩ = some (.int .i64 0) := (blk_cell BK299.out 0).trans rfl; have hcz19_1 : w17.cell? ⟨gb299, 1, none⟩ = some (.int .i64 0) := (blk_cell BK299.out 1).trans rfl; have hfz19_0 := blk_frozen BK299.out 0; have hfz19_1 := blk_frozen BK299.out 1) | ((with_reducible refine gate_store (t := 70) (p := 9) rfl ?_); refine store_event (t := 70) (p := 9) (v := ?vo_w20) (w1 := ((w17.setCell ⟨gb299, 0, none⟩ (.int .i64 ((rd_T70 l0_1 x13_1).f0))).setCell ⟨gb299, 1, none⟩ (.int .i64 ((rd_T70 l0_1 x13_1).f1)))) ?hg ?ho ?hn ?hr ?_; (case ho => rfl); (case hg => rfl); (case hn => rfl); (case hr => first | (go_simp; done) | (go_simp; rfl)); intro w20 hw; have n0_ : Aside0 (Kd.R (Kd.int .i64) 3 w20 w0.heap.size (fun k_ => (P1_ k_ ∨ w.heap.size ≤ k_)) u9000_ x1_1) := ⟨(by rw [hw]; exact (by (with_reducible repeat (first | apply Kd.R_alloc | apply Kd.R_drewN | apply Kd.R_drew)); exact Kd.R_mono (Kd.R_far (p := ⟨gb299, 1, none⟩) (Kd.R_far (p := ⟨gb299, 0, none⟩) (Kd.R_types HO_1.out BK299.out (by decide)) (fun _ hk => hk.2) (.int .i64 ((rd_T70 l0_1 x13_1).f0))) (fun _ hk => hk.2) (.int .i64 ((rd_T70 l0_1 x13_1).f1))) (fun _ hk => hk.1)))⟩; have n1_ : Aside0 (w20.heap[gb297]? = some (.cells #[.int .i64 a0_0, .slice (some ad298) l0_1.length c0_1] 25 (0, 0))) := ⟨(by rw [hw]; exact (by (with_reducible repeat (first | refine blk_drewN ?_ _ | refine blk_drew ?_ | refine blk_alloc ?_ _)); refine blk_far ?_ NB297_299.out _; (with_reducible repeat (first | refine blk_drewN ?_ _ | refine blk_drew ?_ | refine blk_alloc ?_ _)); refine blk_far ?_ NB297_299.out _; exact Bz BK297))⟩; have n2_ : Aside0 (w20.heap[gb299]? = some (.cells #[.int .i64 ((rd_T70 l0_1 x13_1).f0), .int .i64 ((rd_T70 l0_1 x13_1).f1)] 70 (0, 0))) := ⟨(by rw [hw]; exact (by (with_reducible repeat (first | refine blk_drewN ?_ _ | refine blk_drew ?_ | refine blk_alloc ?_ _)); refine blk_put (cs := #[.int .i64 ((rd_T70 l0_1 x13_1).f0), .int .i64 0]) ?_ 1 _ rfl; (with_reducible repeat (first | refine blk_drewN ?_ _ | refine blk_drew ?_ | refine blk_alloc ?_ _)); refine blk_put (cs := #[.int .i64 0, .int .i64 0]) ?_ 0 _ rfl; exact Bz BK299))⟩; have n3_ : Aside0 (Kept w w20 (fun k_ => P1_ k_)) := ⟨(by rw [hw]; exact (by repeat (first | (with_reducible first | exact HK.out | apply Kept.alloc | apply Kept.drewN | apply Kept.drew | refine Kept.setCell ?_ (.inr GW297.out) _ | refine Kept.setCell ?_ (.inr GW299.out) _) | exact HK.out)))⟩; have n4_ : Aside0 (Below w0.heap.size w0 w20) := ⟨(by rw [hw]; exact (by exact Lz2 HB GE297 GE299))⟩; clear hw; clear HO_1; clear BK297; clear BK299; clear HK; clear HB; have HO_1 := n0_; have BK297 := n1_; have BK299 := n2_; have HK := n3_; have HB := n4_; clear n0_ n1_ n2_ n3_ n4_; have hcz21_0 : w20.cell? ⟨gb299, 0, none⟩ = some (.int .i64 ((rd_T70 l0_1 x13_1).f0)) := (blk_cell BK299.out 0).trans rfl; have hcz21_1 : w20.cell? ⟨gb299, 1, none⟩ = some (.int .i64 ((rd_T70 l0_1 x13_1).f1)) := (blk_cell BK299.out 1).trans rfl; have hfz21_0 := blk_frozen BK299.out 0; have hfz21_1 := blk_frozen BK299.out 1; obtain ⟨Ao22, co22, eo22⟩ := Kd.R_slice HO_1.out; subst eo22; have p300 : 0 ≤ (a2 : Int) := of_decide_eq_true (by first | (with_reducible assumption) | assumption); have q300 : a2 < (x1_1.length : Int) := of_decide_eq_true (by first | (with_reducible assumption) | assumption); obtain ⟨ad300, e300, hx300_0⟩ := Kd.at_int (Kd.R_reads' HO_1.out).2.2 a2 p300 q300; cases e300; replace p300 := eq_true p300; replace q300 := eq_true q300; have p13 : 0 ≤ (a2 : Int) := of_decide_eq_true (by first | (with_reducible assumption) | assumption); have q13 : (a2 : Int) < ((x1_1.length : Int) : Int) := of_decide_eq_true (by first | (with_reducible assumption) | assumption); obtain ⟨go13, co13, eo13, gb13, gl13, cl13, HG13⟩ := Kd.R_form HO_1.out (by omega); (first | cases eo13 | (injection eo13 with ea_ en_ ec_; (first | subst ea_ | (injection ea_ with ea_; subst ea_)); subst ec_; clear en_)); have GB13 := Aside0.mk gb13; have GG13 := Aside0.mk HG13; clear gb13 gl13 HG13; have HMgo13 := Aside0.mk (show (P1_ go13 ∨ w.heap.size ≤ go13) from (HO_1.out.1 _ rfl)); (first | simp only [add_plain] at hx300_0 | skip); obtain ⟨hx13_0, hf13_0⟩ := Kd.R_celln 0 HO_1.out (a2 : Int) p13 q13; replace p13 := eq_true p13; replace q13 := eq_true q13; obtain ⟨hy23_, hz23_⟩ := Kd.R_celln 0 HO_1.out (a2 : Int) (of_decide_eq_true (by first | (with_reducible assumption) | assumption)) (of_decide_eq_true (by first | (with_reducible assumption) | assumption)); have HP23 := Kd.R_putg HO_1.out (a2 : Int) (wrap64 ((rd x1_1 a2) - a3))) | ((with_reducible refine gate_store (t := 3) (p := 28) rfl ?_); refine store_event (t := 3) (p := 28) (v := ?vo_w24) (w1 := (w20.setCell ⟨go13, (a2 : Int).toNat, none⟩ (.int .i64 (wrap64 ((rd x1_1 a2) - a3))))) ?hg ?ho ?hn ?hr ?_; (case ho => rfl); (case hg => rfl); (case hn => rfl); (case hr => first | (go_simp; done) | (go_simp; rfl)); intro w24 hw; have hg : w20.grownBy w24 (some go13) := (by rw [hw]; exact HP23.2); have hp_ : Kd.R (Kd.int .i64) 3 w24 w0.heap.size (fun k_ => (P1_ k_ ∨ w.heap.size ≤ k_)) (.slice (some ⟨go13, 0, none⟩) x1_1.length co22) y301 := (by rw [hw, Ny301.out]; exact HP23.1); clear HP23; replace BK297 := Aside0.mk (blk_grown (g := gb297) (o := .cells #[.int .i64 a0_0, .slice (some ad298) l0_1.length c0_1] 25 (0, 0)) (Bz BK297) hg (Kd.R_ne HO_1.out BK297.out (by decide))); replace BK299 := Aside0.mk (blk_grown (g := gb299) (o := .cells #[.int .i64 ((rd_T70 l0_1 x13_1).f0), .int .i64 ((rd_T70 l0_1 x13_1).f1)] 70 (0, 0)) (Bz BK299) hg (Kd.R_ne HO_1.out BK299.out (by decide))); replace HB := Aside0.mk ((by rw [hw]; exact below_set (HB.out) GB13.out : Below w0.heap.size w0 w24)); replace HK := Aside0.mk (Kept.of_grown (S := (fun k_ => P1_ k_)) hg (by repeat (first | (with_reducible first | exact HK.out | apply Kept.alloc | apply Kept.drewN | apply Kept.drew | refine Kept.setCell ?_ (.inr GW297.out) _ | refine Kept.setCell ?_ (.inr GW299.out) _) | exact HK.out)) (fun k_ e_ => (HO_1.out.1 k_ e_))); replace HO_1 := Aside0.mk (hp_); clear hg hw hp_; have hcz25_0 : w24.cell? ⟨gb299, 0, none⟩ = some (.int .i64 ((rd_T70 l0_1 x13_1).f0)) := (blk_cell BK299.out 0).trans rfl; have hcz25_1 : w24.cell? ⟨gb299, 1, none⟩ = some (.int .i64 ((rd_T70 l0_1 x13_1).f1)) := (blk_cell BK299.out 1).trans rfl; have hfz25_0 := blk_frozen BK299.out 0; have hfz25_1 := blk_frozen BK299.out 1; have p302 : 0 ≤ (((rd_T70 l0_1 x13_1).f1) : Int) := of_decide_eq_true (by first | (with_reducible assumption) | assumption); have q302 : ((rd_T70 l0_1 x13_1).f1) < (y301.length : Int) := (by have h_ : (((rd_T70 l0_1 x13_1).f1) : Int) < ((x1_1.length : Int) : Int) := of_decide_eq_true (by first | (with_reducible assumption) | assumption); first | (have e_ := (Kd.R_reads' HO_1.out).1; omega) | simpa only [Ny301.out, List.length_set] using h_); have ql302 : ((((rd_T70 l0_1 x13_1).f1) : Int) < ((x1_1.length : Int) : Int)) = True := eq_true (of_decide_eq_true (by first | (with_reducible assumption) | assumption)); obtain ⟨ad302, e302, hx302_0⟩ := Kd.at_int (Kd.R_reads' HO_1.out).2.2 ((rd_T70 l0_1 x13_1).f1) p302 q302; obtain rfl : (⟨go13, 0, none⟩ : Addr) = ad302 := (by injection e302); (first | simp only [add_plain] at hx302_0 | simp only [add_at] at hx302_0 | simp only [Addr.add, Nat.zero_add] at hx302_0 | skip); replace p302 := eq_true p302; replace q302 := eq_true q302; have p16 : 0 ≤ (((rd_T70 l0_1 x13_1).f1) : Int) := of_decide_eq_true (by first | (with_reducible assumption) | assumption); have q16 : (((rd_T70 l0_1 x13_1).f1) : Int) < ((x1_1.length : Int) : Int) := of_decide_eq_true (by first | (with_reducible assumption) | assumption); obtain ⟨hx16_0, hf16_0⟩ := Kd.R_celln 0 HO_1.out (((rd_T70 l0_1 x13_1).f1) : Int) p16 q16; replace p16 := eq_true p16; replace q16 := eq_true q16; obtain ⟨hy26_, hz26_⟩ := Kd.R_celln 0 HO_1.out (((rd_T70 l0_1 x13_1).f1) : Int) (of_decide_eq_true (by first | (with_reducible assumption) | assumption)) (of_decide_eq_true (by first | (with_reducible assumption) | assumption)); have HP26 := Kd.R_putg HO_1.out (((rd_T70 l0_1 x13_1).f1) : Int) (wrap64 ((rd y301 ((rd_T70 l0_1 x13_1).f1)) + a3))) | ((with_reducible refine gate_store (t := 3) (p := 36) rfl ?_); refine store_event (t := 3) (p := 36) (v := ?vo_w27) (w1 := (w24.setCell ⟨go13, (((rd_T70 l0_1 x13_1).f1) : Int).toNat, none⟩ (.int .i64 (wrap64 ((rd y301 ((rd_T70 l0_1 x13_1).f1)) + a3))))) ?hg ?ho ?hn ?hr ?_; (case ho => rfl); (case hg => rfl); (case hn => rfl); (case hr => first | (go_simp; done) | (go_simp; rfl)); intro w27 hw; have hg : w24.grownBy w27 (some go13) := (by rw [hw]; exact HP26.2); have hp_ : Kd.R (Kd.int .i64) 3 w27 w0.heap.size (fun k_ => (P1_ k_ ∨ w.heap.size ≤ k_)) (.slice (some ⟨go13, 0, none⟩) x1_1.length co22) y303 := (by rw [hw, Ny303.out]; exact HP26.1); clear HP26; replace BK297 := Aside0.mk (blk_grown (g := gb297) (o := .cells #[.int .i64 a0_0, .slice (some ad298) l0_1.length c0_1] 25 (0, 0)) (Bz BK297) hg (Kd.R_ne HO_1.out BK297.out (by decide))); replace BK299 := Aside0.mk (blk_grown (g := gb299) (o := .cells #[.int .i64 ((rd_T70 l0_1 x13_1).f0), .int .i64 ((rd_T70 l0_1 x13_1).f1)] 70 (0, 0)) (Bz BK299) hg (Kd.R_ne HO_1.out BK299.out (by decide))); replace HB := Aside0.mk ((by rw [hw]; exact below_set (HB.out) GB13.out : Below w0.heap.size w0 w27)); replace HK := Aside0.mk (Kept.of_grown (S := (fun k_ => P1_ k_)) hg (by repeat (first | (with_reducible first | exact HK.out | apply Kept.alloc | apply Kept.drewN | apply Kept.drew | refine Kept.setCell ?_ (.inr GW297.out) _ | refine Kept.setCell ?_ (.inr GW299.out) _) | exact HK.out)) (fun k_ e_ => (HO_1.out.1 k_ e_))); replace HO_1 := Aside0.mk (hp_); clear hg hw hp_))
           go_roundg k1
           case measure => have := HK1.out; omega
           case rel => exact ⟨(y303), (wrap64 (x13_1 + 1)), (by first | rfl | (simp; done) | (simp [*]; done)), H', ⟨by have := HK1.out; omega⟩, ⟨by exact Rz HO_1⟩, ⟨by exact Bz BK297⟩, ⟨by repeat (first | (with_reducible first | exact HK.out | apply Kept.alloc | apply Kept.drewN | apply Kept.drew | refine Kept.setCell ?_ (.inr GW297.out) _ | refine Kept.setCell ?_ (.inr GW299.out) _) | exact HK.out)⟩, ⟨by exact Lz2 HB GE297 GE299⟩⟩
          rw [if_neg c15] at H
          exact absurd H (by simp)
         rw [if_neg c14] at H
         exact absurd H (by simp)
        rw [if_neg c12] at H
        exact absurd H (by simp)
       rw [if_neg c11] at H
       exact absurd H (by simp)
      rw [if_neg c10] at H
      have c10b0 : (a2 == ((rd_T70 l0_1 x13_1).f0)) = false := beq_eq_false_iff_ne.mpr c10
      have c10b1 : (a2 != ((rd_T70 l0_1 x13_1).f0)) = true := bne_iff_ne.mpr c10
      by_cases c28 : a2 = ((rd_T70 l0_1 x13_1).f1)
      ·rw [if_pos c28] at H
       have c28b0 : (a2 == ((rd_T70 l0_1 x13_1).f1)) = true := beq_iff_eq.mpr c28
       have c28b1 : (a2 != ((rd_T70 l0_1 x13_1).f1)) = false := bne_eq_false_iff_eq.mpr c28
       clear c28
       by_cases c29 : 0 ≤ a2
       ·rw [if_pos c29] at H
        have c29b0 : decide (0 ≤ a2) = true := decide_eq_true c29
        clear c29
        by_cases c30 : a2 < (x1_1.length : Int)
        ·rw [if_pos c30] at H
         have c30b0 : decide (a2 < (x1_1.length : Int)) = true := decide_eq_true c30
         clear c30
         obtain ⟨y305, hy305⟩ : ∃ y_ : List Int, y_ = (x1_1.set (a2 : Int).toNat (wrap64 ((rd x1_1 a2) - a3))) := ⟨_, rfl⟩
         replace H : (if 0 ≤ ((rd_T70 l0_1 x13_1).f0) then (if ((rd_T70 l0_1 x13_1).f0) < (x1_1.length : Int) then (impl_fire.l0 k1 (y305.set (((rd_T70 l0_1 x13_1).f0) : Int).toNat (wrap64 ((rd y305 ((rd_T70 l0_1 x13_1).f0)) + a3))) a2 a3 l0_1 (l0_1.length : Int) (wrap64 (x13_1 + 1))) else (none)) else (none)) = some r := by first | (rw [hy305]; with_reducible exact H) | (have H2_ := (Option.bind_some _ _).symm.trans H; rw [hy305]; with_reducible exact H2_) | (have H2_ := (Option.bind_some _ _).symm.trans H; with_reducible exact H2_) | with_reducible exact H | (rw [hy305]; exact H) | exact H
         have Ny305 := Aside0.mk hy305
         clear hy305
         by_cases c32 : 0 ≤ ((rd_T70 l0_1 x13_1).f0)
         ·rw [if_pos c32] at H
          have c32b0 : decide (0 ≤ ((rd_T70 l0_1 x13_1).f0)) = true := decide_eq_true c32
          clear c32
          by_cases c33 : ((rd_T70 l0_1 x13_1).f0) < (x1_1.length : Int)
          ·rw [if_pos c33] at H
           have c33b0 : decide (((rd_T70 l0_1 x13_1).f0) < (x1_1.length : Int)) = true := decide_eq_true c33
           clear c33
           obtain ⟨y307, hy307⟩ : ∃ y_ : List Int, y_ = (y305.set (((rd_T70 l0_1 x13_1).f0) : Int).toNat (wrap64 ((rd y305 ((rd_T70 l0_1 x13_1).f0)) + a3))) := ⟨_, rfl⟩
           replace H : (impl_fire.l0 k1 y307 a2 a3 l0_1 (l0_1.length : Int) (wrap64 (x13_1 + 1))) = some r := by first | (rw [hy307]; with_reducible exact H) | (have H2_ := (Option.bind_some _ _).symm.trans H; rw [hy307]; with_reducible exact H2_) | (have H2_ := (Option.bind_some _ _).symm.trans H; with_reducible exact H2_) | with_reducible exact H | (rw [hy307]; exact H) | exact H
           have Ny307 := Aside0.mk hy307
           clear hy307
           have H' := Aside0.mk H
           clear H
           have p298 : 0 ≤ (x13_1 : Int) := of_decide_eq_true (by first | (with_reducible assumption) | assumption)
           have q298 : x13_1 < (l0_1.length : Int) := of_decide_eq_true (by first | (with_reducible assumption) | assumption)
           obtain ⟨ad298, e298, hx298_0, hx298_1⟩ := at_T70 (Kd.C_kept_now HR0_1.out HK.out) x13_1 p298 q298
           cases e298
           replace p298 := eq_true p298
           replace q298 := eq_true q298
           go_wp2_with (first | ((with_reducible refine gate_dst (N := 9) rfl ?_); refine box_event ?hg (N := 9) ?hd (cs := #[.int .i64 0, .int .i64 0]) (t := 70) ?hr ?_; (case hd => rfl); (case hg => rfl); (case hr => first | (go_simp; done) | (go_simp; rfl)); intro gb299 hg w35 hbox hb; replace HO_1 := Aside0.mk (Kd.R_below (Rz HO_1) hb); have BK299 := Aside0.mk (hbox); have GW299 := Aside0.mk ((by rw [hg]; exact (by first | exact HK.out.1 | exact (show Kept w _ (fun k_ => P1_ k_) from by repeat (first | (with_reducible first | exact HK.out | apply Kept.alloc | apply Kept.drewN | apply Kept.drew | refine Kept.setCell ?_ (.inr GW297.out) _) | exact HK.out)).1) : w.heap.size ≤ gb299)); replace HK := Aside0.mk (Kept.below (S := (fun k_ => P1_ k_)) (by repeat (first | (with_reducible first | exact HK.out | apply Kept.alloc | apply Kept.drewN | apply Kept.drew | refine Kept.setCell ?_ (.inr GW297.out) _) | exact HK.out)) hb); have GE299 := Aside0.mk ((by rw [hg]; exact (below_size (by exact Lz1 HB GE297)) : w0.heap.size ≤ gb299)); replace HB := Aside0.mk (below_step (by exact Lz1 HB GE297) hb); have NB297_299 := Aside0.mk ((by rw [hg]; exact Nat.ne_of_lt (blk_lt (g := gb297) (o := .cells #[.int .i64 a0_0, .slice (some ad298) l0_1.length c0_1] 25 (0, 0)) (Bz BK297)) : gb297 ≠ gb299)); have NB299_297 := Aside0.mk ((by rw [hg]; exact Nat.ne_of_gt (blk_lt (g := gb297) (o := .cells #[.int .i64 a0_0, .slice (some ad298) l0_1.length c0_1] 25 (0, 0)) (Bz BK297)) : gb299 ≠ gb297)); replace BK297 := Aside0.mk (blk_below (g := gb297) (o := .cells #[.int .i64 a0_0, .slice (some ad298) l0_1.length c0_1] 25 (0, 0)) (Bz BK297) hb); clear hb hbox hg; have hnb36 := NB299_297.out; have hnc36 := NB297_299.out; have hcz37_0 : w35.cell? ⟨gb299, 0, none⟩ = some (.int .i64 0) := (blk_cell BK299.out 0).trans rfl; have hcz37_1 : w35.cell? ⟨gb299, 1, none⟩ = some (.int .i64 0) := (blk_cell BK299.out 1).trans rfl; have hfz37_0 := blk_frozen BK299.out 0; have hfz37_1 := blk_frozen BK299.out 1) | ((with_reducible refine gate_store (t := 70) (p := 9) rfl ?_); refine store_event (t := 70) (p := 9) (v := ?vo_w38) (w1 := ((w35.setCell ⟨gb299, 0, none⟩ (.int .i64 ((rd_T70 l0_1 x13_1).f0))).setCell ⟨gb299, 1, none⟩ (.int .i64 ((rd_T70 l0_1 x13_1).f1)))) ?hg ?ho ?hn ?hr ?_; (case ho => rfl); (case hg => rfl); (case hn => rfl); (case hr => first | (go_simp; done) | (go_simp; rfl)); intro w38 hw; have n0_ : Aside0 (Kd.R (Kd.int .i64) 3 w38 w0.heap.size (fun k_ => (P1_ k_ ∨ w.heap.size ≤ k_)) u9000_ x1_1) := ⟨(by rw [hw]; exact (by (with_reducible repeat (first | apply Kd.R_alloc | apply Kd.R_drewN | apply Kd.R_drew)); exact Kd.R_mono (Kd.R_far (p := ⟨gb299, 1, none⟩) (Kd.R_far (p := ⟨gb299, 0, none⟩) (Kd.R_types HO_1.out BK299.out (by decide)) (fun _ hk => hk.2) (.int .i64 ((rd_T70 l0_1 x13_1).f0))) (fun _ hk => hk.2) (.int .i64 ((rd_T70 l0_1 x13_1).f1))) (fun _ hk => hk.1)))⟩; have n1_ : Aside0 (w38.heap[gb297]? = some (.cells #[.int .i64 a0_0, .slice (some ad298) l0_1.length c0_1] 25 (0, 0))) := ⟨(by rw [hw]; exact (by (with_reducible repeat (first | refine blk_drewN ?_ _ | refine blk_drew ?_ | refine blk_alloc ?_ _)); refine blk_far ?_ NB297_299.out _; (with_reducible repeat (first | refine blk_drewN ?_ _ | refine blk_drew ?_ | refine blk_alloc ?_ _)); refine blk_far ?_ NB297_299.out _; exact Bz BK297))⟩; have n2_ : Aside0 (w38.heap[gb299]? = some (.cells #[.int .i64 ((rd_T70 l0_1 x13_1).f0), .int .i64 ((rd_T70 l0_1 x13_1).f1)] 70 (0, 0))) := ⟨(by rw [hw]; exact (by (with_reducible repeat (first | refine blk_drewN ?_ _ | refine blk_drew ?_ | refine blk_alloc ?_ _)); refine blk_put (cs := #[.int .i64 ((rd_T70 l0_1 x13_1).f0), .int .i64 0]) ?_ 1 _ rfl; (with_reducible repeat (first | refine blk_drewN ?_ _ | refine blk_drew ?_ | refine blk_alloc ?_ _)); refine blk_put (cs := #[.int .i64 0, .int .i64 0]) ?_ 0 _ rfl; exact Bz BK299))⟩; have n3_ : Aside0 (Kept w w38 (fun k_ => P1_ k_)) := ⟨(by rw [hw]; exact (by repeat (first | (with_reducible first | exact HK.out | apply Kept.alloc | apply Kept.drewN | apply Kept.drew | refine Kept.setCell ?_ (.inr GW297.out) _ | refine Kept.setCell ?_ (.inr GW299.out) _) | exact HK.out)))⟩; have n4_ : Aside0 (Below w0.heap.size w0 w38) := ⟨(by rw [hw]; exact (by exact Lz2 HB GE297 GE299))⟩; clear hw; clear HO_1; clear BK297; clear BK299; clear HK; clear HB; have HO_1 := n0_; have BK297 := n1_; have BK299 := n2_; have HK := n3_; have HB := n4_; clear n0_ n1_ n2_ n3_ n4_; have hcz39_0 : w38.cell? ⟨gb299, 0, none⟩ = some (.int .i64 ((rd_T70 l0_1 x13_1).f0)) := (blk_cell BK299.out 0).trans rfl; have hcz39_1 : w38.cell? ⟨gb299, 1, none⟩ = some (.int .i64 ((rd_T70 l0_1 x13_1).f1)) := (blk_cell BK299.out 1).trans rfl; have hfz39_0 := blk_frozen BK299.out 0; have hfz39_1 := blk_frozen BK299.out 1; obtain ⟨Ao40, co40, eo40⟩ := Kd.R_slice HO_1.out; subst eo40; have p304 : 0 ≤ (a2 : Int) := of_decide_eq_true (by first | (with_reducible assumption) | assumption); have q304 : a2 < (x1_1.length : Int) := of_decide_eq_true (by first | (with_reducible assumption) | assumption); obtain ⟨ad304, e304, hx304_0⟩ := Kd.at_int (Kd.R_reads' HO_1.out).2.2 a2 p304 q304; cases e304; replace p304 := eq_true p304; replace q304 := eq_true q304; have p31 : 0 ≤ (a2 : Int) := of_decide_eq_true (by first | (with_reducible assumption) | assumption); have q31 : (a2 : Int) < ((x1_1.length : Int) : Int) := of_decide_eq_true (by first | (with_reducible assumption) | assumption); obtain ⟨go31, co31, eo31, gb31, gl31, cl31, HG31⟩ := Kd.R_form HO_1.out (by omega); (first | cases eo31 | (injection eo31 with ea_ en_ ec_; (first | subst ea_ | (injection ea_ with ea_; subst ea_)); subst ec_; clear en_)); have GB31 := Aside0.mk gb31; have GG31 := Aside0.mk HG31; clear gb31 gl31 HG31; have HMgo31 := Aside0.mk (show (P1_ go31 ∨ w.heap.size ≤ go31) from (HO_1.out.1 _ rfl)); (first | simp only [add_plain] at hx304_0 | skip); obtain ⟨hx31_0, hf31_0⟩ := Kd.R_celln 0 HO_1.out (a2 : Int) p31 q31; replace p31 := eq_true p31; replace q31 := eq_true q31; obtain ⟨hy41_, hz41_⟩ := Kd.R_celln 0 HO_1.out (a2 : Int) (of_decide_eq_true (by first | (with_reducible assumption) | assumption)) (of_decide_eq_true (by first | (with_reducible assumption) | assumption)); have HP41 := Kd.R_putg HO_1.out (a2 : Int) (wrap64 ((rd x1_1 a2) - a3))) | ((with_reducible refine gate_store (t := 3) (p := 47) rfl ?_); refine store_event (t := 3) (p := 47) (v := ?vo_w42) (w1 := (w38.setCell ⟨go31, (a2 : Int).toNat, none⟩ (.int .i64 (wrap64 ((rd x1_1 a2) - a3))))) ?hg ?ho ?hn ?hr ?_; (case ho => rfl); (case hg => rfl); (case hn => rfl); (case hr => first | (go_simp; done) | (go_simp; rfl)); intro w42 hw; have hg : w38.grownBy w42 (some go31) := (by rw [hw]; exact HP41.2); have hp_ : Kd.R (Kd.int .i64) 3 w42 w0.heap.size (fun k_ => (P1_ k_ ∨ w.heap.size ≤ k_)) (.slice (some ⟨go31, 0, none⟩) x1_1.length co40) y305 := (by rw [hw, Ny305.out]; exact HP41.1); clear HP41; replace BK297 := Aside0.mk (blk_grown (g := gb297) (o := .cells #[.int .i64 a0_0, .slice (some ad298) l0_1.length c0_1] 25 (0, 0)) (Bz BK297) hg (Kd.R_ne HO_1.out BK297.out (by decide))); replace BK299 := Aside0.mk (blk_grown (g := gb299) (o := .cells #[.int .i64 ((rd_T70 l0_1 x13_1).f0), .int .i64 ((rd_T70 l0_1 x13_1).f1)] 70 (0, 0)) (Bz BK299) hg (Kd.R_ne HO_1.out BK299.out (by decide))); replace HB := Aside0.mk ((by rw [hw]; exact below_set (HB.out) GB31.out : Below w0.heap.size w0 w42)); replace HK := Aside0.mk (Kept.of_grown (S := (fun k_ => P1_ k_)) hg (by repeat (first | (with_reducible first | exact HK.out | apply Kept.alloc | apply Kept.drewN | apply Kept.drew | refine Kept.setCell ?_ (.inr GW297.out) _ | refine Kept.setCell ?_ (.inr GW299.out) _) | exact HK.out)) (fun k_ e_ => (HO_1.out.1 k_ e_))); replace HO_1 := Aside0.mk (hp_); clear hg hw hp_; have hcz43_0 : w42.cell? ⟨gb299, 0, none⟩ = some (.int .i64 ((rd_T70 l0_1 x13_1).f0)) := (blk_cell BK299.out 0).trans rfl; have hcz43_1 : w42.cell? ⟨gb299, 1, none⟩ = some (.int .i64 ((rd_T70 l0_1 x13_1).f1)) := (blk_cell BK299.out 1).trans rfl; have hfz43_0 := blk_frozen BK299.out 0; have hfz43_1 := blk_frozen BK299.out 1; have p306 : 0 ≤ (((rd_T70 l0_1 x13_1).f0) : Int) := of_decide_eq_true (by first | (with_reducible assumption) | assumption); have q306 : ((rd_T70 l0_1 x13_1).f0) < (y305.length : Int) := (by have h_ : (((rd_T70 l0_1 x13_1).f0) : Int) < ((x1_1.length : Int) : Int) := of_decide_eq_true (by first | (with_reducible assumption) | assumption); first | (have e_ := (Kd.R_reads' HO_1.out).1; omega) | simpa only [Ny305.out, List.length_set] using h_); have ql306 : ((((rd_T70 l0_1 x13_1).f0) : Int) < ((x1_1.length : Int) : Int)) = True := eq_true (of_decide_eq_true (by first | (with_reducible assumption) | assumption)); obtain ⟨ad306, e306, hx306_0⟩ := Kd.at_int (Kd.R_reads' HO_1.out).2.2 ((rd_T70 l0_1 x13_1).f0) p306 q306; obtain rfl : (⟨go31, 0, none⟩ : Addr) = ad306 := (by injection e306); (first | simp only [add_plain] at hx306_0 | simp only [add_at] at hx306_0 | simp only [Addr.add, Nat.zero_add] at hx306_0 | skip); replace p306 := eq_true p306; replace q306 := eq_true q306; have p34 : 0 ≤ (((rd_T70 l0_1 x13_1).f0) : Int) := of_decide_eq_true (by first | (with_reducible assumption) | assumption); have q34 : (((rd_T70 l0_1 x13_1).f0) : Int) < ((x1_1.length : Int) : Int) := of_decide_eq_true (by first | (with_reducible assumption) | assumption); obtain ⟨hx34_0, hf34_0⟩ := Kd.R_celln 0 HO_1.out (((rd_T70 l0_1 x13_1).f0) : Int) p34 q34; replace p34 := eq_true p34; replace q34 := eq_true q34; obtain ⟨hy44_, hz44_⟩ := Kd.R_celln 0 HO_1.out (((rd_T70 l0_1 x13_1).f0) : Int) (of_decide_eq_true (by first | (with_reducible assumption) | assumption)) (of_decide_eq_true (by first | (with_reducible assumption) | assumption)); have HP44 := Kd.R_putg HO_1.out (((rd_T70 l0_1 x13_1).f0) : Int) (wrap64 ((rd y305 ((rd_T70 l0_1 x13_1).f0)) + a3))) | ((with_reducible refine gate_store (t := 3) (p := 55) rfl ?_); refine store_event (t := 3) (p := 55) (v := ?vo_w45) (w1 := (w42.setCell ⟨go31, (((rd_T70 l0_1 x13_1).f0) : Int).toNat, none⟩ (.int .i64 (wrap64 ((rd y305 ((rd_T70 l0_1 x13_1).f0)) + a3))))) ?hg ?ho ?hn ?hr ?_; (case ho => rfl); (case hg => rfl); (case hn => rfl); (case hr => first | (go_simp; done) | (go_simp; rfl)); intro w45 hw; have hg : w42.grownBy w45 (some go31) := (by rw [hw]; exact HP44.2); have hp_ : Kd.R (Kd.int .i64) 3 w45 w0.heap.size (fun k_ => (P1_ k_ ∨ w.heap.size ≤ k_)) (.slice (some ⟨go31, 0, none⟩) x1_1.length co40) y307 := (by rw [hw, Ny307.out]; exact HP44.1); clear HP44; replace BK297 := Aside0.mk (blk_grown (g := gb297) (o := .cells #[.int .i64 a0_0, .slice (some ad298) l0_1.length c0_1] 25 (0, 0)) (Bz BK297) hg (Kd.R_ne HO_1.out BK297.out (by decide))); replace BK299 := Aside0.mk (blk_grown (g := gb299) (o := .cells #[.int .i64 ((rd_T70 l0_1 x13_1).f0), .int .i64 ((rd_T70 l0_1 x13_1).f1)] 70 (0, 0)) (Bz BK299) hg (Kd.R_ne HO_1.out BK299.out (by decide))); replace HB := Aside0.mk ((by rw [hw]; exact below_set (HB.out) GB31.out : Below w0.heap.size w0 w45)); replace HK := Aside0.mk (Kept.of_grown (S := (fun k_ => P1_ k_)) hg (by repeat (first | (with_reducible first | exact HK.out | apply Kept.alloc | apply Kept.drewN | apply Kept.drew | refine Kept.setCell ?_ (.inr GW297.out) _ | refine Kept.setCell ?_ (.inr GW299.out) _) | exact HK.out)) (fun k_ e_ => (HO_1.out.1 k_ e_))); replace HO_1 := Aside0.mk (hp_); clear hg hw hp_))
           go_roundg k1
           case measure => have := HK1.out; omega
           case rel => exact ⟨(y307), (wrap64 (x13_1 + 1)), (by first | rfl | (simp; done) | (simp [*]; done)), H', ⟨by have := HK1.out; omega⟩, ⟨by exact Rz HO_1⟩, ⟨by exact Bz BK297⟩, ⟨by repeat (first | (with_reducible first | exact HK.out | apply Kept.alloc | apply Kept.drewN | apply Kept.drew | refine Kept.setCell ?_ (.inr GW297.out) _ | refine Kept.setCell ?_ (.inr GW299.out) _) | exact HK.out)⟩, ⟨by exact Lz2 HB GE297 GE299⟩⟩
          rw [if_neg c33] at H
          exact absurd H (by simp)
         rw [if_neg c32] at H
         exact absurd H (by simp)
        rw [if_neg c30] at H
        exact absurd H (by simp)
       rw [if_neg c29] at H
       exact absurd H (by simp)
      rw [if_neg c28] at H
      have c28b0 : (a2 == ((rd_T70 l0_1 x13_1).f1)) = false := beq_eq_false_iff_ne.mpr c28
      have c28b1 : (a2 != ((rd_T70 l0_1 x13_1).f1)) = true := bne_iff_ne.mpr c28
      have H' := Aside0.mk H
      clear H
      have p298 : 0 ≤ (x13_1 : Int) := of_decide_eq_true (by first | (with_reducible assumption) | assumption)
      have q298 : x13_1 < (l0_1.length : Int) := of_decide_eq_true (by first | (with_reducible assumption) | assumption)
      obtain ⟨ad298, e298, hx298_0, hx298_1⟩ := at_T70 (Kd.C_kept_now HR0_1.out HK.out) x13_1 p298 q298
      cases e298
      replace p298 := eq_true p298
      replace q298 := eq_true q298
      go_wp2_with (first | ((with_reducible refine gate_dst (N := 9) rfl ?_); refine box_event ?hg (N := 9) ?hd (cs := #[.int .i64 0, .int .i64 0]) (t := 70) ?hr ?_; (case hd => rfl); (case hg => rfl); (case hr => first | (go_simp; done) | (go_simp; rfl)); intro gb299 hg w46 hbox hb; replace HO_1 := Aside0.mk (Kd.R_below (Rz HO_1) hb); have BK299 := Aside0.mk (hbox); have GW299 := Aside0.mk ((by rw [hg]; exact (by first | exact HK.out.1 | exact (show Kept w _ (fun k_ => P1_ k_) from by repeat (first | (with_reducible first | exact HK.out | apply Kept.alloc | apply Kept.drewN | apply Kept.drew | refine Kept.setCell ?_ (.inr GW297.out) _) | exact HK.out)).1) : w.heap.size ≤ gb299)); replace HK := Aside0.mk (Kept.below (S := (fun k_ => P1_ k_)) (by repeat (first | (with_reducible first | exact HK.out | apply Kept.alloc | apply Kept.drewN | apply Kept.drew | refine Kept.setCell ?_ (.inr GW297.out) _) | exact HK.out)) hb); have GE299 := Aside0.mk ((by rw [hg]; exact (below_size (by exact Lz1 HB GE297)) : w0.heap.size ≤ gb299)); replace HB := Aside0.mk (below_step (by exact Lz1 HB GE297) hb); have NB297_299 := Aside0.mk ((by rw [hg]; exact Nat.ne_of_lt (blk_lt (g := gb297) (o := .cells #[.int .i64 a0_0, .slice (some ad298) l0_1.length c0_1] 25 (0, 0)) (Bz BK297)) : gb297 ≠ gb299)); have NB299_297 := Aside0.mk ((by rw [hg]; exact Nat.ne_of_gt (blk_lt (g := gb297) (o := .cells #[.int .i64 a0_0, .slice (some ad298) l0_1.length c0_1] 25 (0, 0)) (Bz BK297)) : gb299 ≠ gb297)); replace BK297 := Aside0.mk (blk_below (g := gb297) (o := .cells #[.int .i64 a0_0, .slice (some ad298) l0_1.length c0_1] 25 (0, 0)) (Bz BK297) hb); clear hb hbox hg; have hnb47 := NB299_297.out; have hnc47 := NB297_299.out; have hcz48_0 : w46.cell? ⟨gb299, 0, none⟩ = some (.int .i64 0) := (blk_cell BK299.out 0).trans rfl; have hcz48_1 : w46.cell? ⟨gb299, 1, none⟩ = some (.int .i64 0) := (blk_cell BK299.out 1).trans rfl; have hfz48_0 := blk_frozen BK299.out 0; have hfz48_1 := blk_frozen BK299.out 1))
      go_roundg k1
      case measure => have := HK1.out; omega
      case rel => exact ⟨(x1_1), (wrap64 (x13_1 + 1)), (by first | rfl | (simp; done) | (simp [*]; done)), H', ⟨by have := HK1.out; omega⟩, ⟨by (with_reducible repeat (first | apply Kd.R_alloc | apply Kd.R_drewN | apply Kd.R_drew)); exact Kd.R_mono (Kd.R_far (p := ⟨gb299, 1, none⟩) (Kd.R_far (p := ⟨gb299, 0, none⟩) (Kd.R_types HO_1.out BK299.out (by decide)) (fun _ hk => hk.2) (.int .i64 ((rd_T70 l0_1 x13_1).f0))) (fun _ hk => hk.2) (.int .i64 ((rd_T70 l0_1 x13_1).f1))) (fun _ hk => hk.1)⟩, ⟨by (with_reducible repeat (first | refine blk_drewN ?_ _ | refine blk_drew ?_ | refine blk_alloc ?_ _)); refine blk_far ?_ NB297_299.out _; (with_reducible repeat (first | refine blk_drewN ?_ _ | refine blk_drew ?_ | refine blk_alloc ?_ _)); refine blk_far ?_ NB297_299.out _; exact Bz BK297⟩, ⟨by repeat (first | (with_reducible first | exact HK.out | apply Kept.alloc | apply Kept.drewN | apply Kept.drew | refine Kept.setCell ?_ (.inr GW297.out) _ | refine Kept.setCell ?_ (.inr GW299.out) _) | exact HK.out)⟩, ⟨by exact Lz2 HB GE297 GE299⟩⟩
     rw [if_neg c9] at H
     exact absurd H (by simp)
    rw [if_neg c8] at H
    exact absurd H (by simp)
   rw [if_neg c7] at H
   have c7b0 : decide (x13_1 < (l0_1.length : Int)) = false := decide_eq_false c7
   clear c7
   obtain rfl := Option.some.inj H
   go_wp2
   first | go_end0 | ((try simp only [Exit.inBlock, Exit.then]); refine bodyPost_ret (results_none rfl _ _ _) rfl ?_)
   exact ⟨by first | rfl | (simp [errW_none, errW_some] <;> rfl) | (simp [*, errW_none, errW_some] <;> rfl), by exact Rz HO_1, by exact Lz1 HB GE297, by repeat (first | (with_reducible first | exact HK.out | apply Kept.alloc | apply Kept.drewN | apply Kept.drew | refine Kept.setCell ?_ (.inr GW297.out) _) | exact HK.out)⟩
end Go.Proofs.Ytnebapnfkolflaa.P
end
section
namespace Go.Proofs.Ytnebapnfkolflaa.P
open Go.RowKit Go.Proofs.YtnebapnfkolflaaW.PrintWords Go.Proofs.YtnebapnfkolflaaW.PrintLast Go.Proofs.YtnebapnfkolflaaW.PrintMore
attribute [local go_sem] max2_int min2_int max_two min_two max_three min_three max_four min_four
set_option linter.unusedVariables false
set_option linter.unusedSimpArgs false
mutual
def impl_reduce.l0 : Nat → Int → List Int → List Int → Int → Int → List (S70) → Option (List Int × List Int)
 | 0, _, _, _, _, _, _ => none
 | k + 1, x2, x8, x9, x10, x309000, x309001 => if x10 ≥ 0 then ((impl_Valence.f k x309000 x309001 x10).bind fun t316 => (if 0 ≤ x10 then (if x10 < (x8.length : Int) then (if t316 = 0 then (none) else ((impl_fire.f k x309000 x309001 x8 x10 (wrap64 (-(wrap64 (Int.tdiv (wrap64 ((wrap64 (t316 - 1)) - (rd x8 x10))) t316))))).bind fun t318 => (if x10 < (x9.length : Int) then ((impl_inDebt.f k t318 x2).bind fun t321 => (impl_reduce.l0 k x2 t318 (x9.set (x10 : Int).toNat (wrap64 ((rd x9 x10) - (wrap64 (Int.tdiv (wrap64 ((wrap64 (t316 - 1)) - (rd x8 x10))) t316))))) t321 x309000 x309001)) else (none)))) else (none)) else (none))) else (impl_reduce.l1 k x2 x8 x9 x309000 x309001)
def impl_reduce.l1 : Nat → Int → List Int → List Int → Int → List (S70) → Option (List Int × List Int)
 | 0, _, _, _, _, _ => none
 | k + 1, x2, x8, x9, x309000, x309001 => (impl_burn.f k x309000 x309001 x8 x2).bind fun t322 => (if (t322.length : Int) = x309000 then (some (x8, x9)) else (impl_reduce.l2 k x2 x8 x9 t322 (x9.length : Int) 0 x309000 x309001))
def impl_reduce.l2 : Nat → Int → List Int → List Int → List Int → Int → Int → Int → List (S70) → Option (List Int × List Int)
 | 0, _, _, _, _, _, _, _, _ => none
 | k + 1, x2, x8, x9, x13, x65, x66, x309000, x309001 => if x66 < x65 then ((slices_Contains_int_int.f k x13 x66).bind fun t325 => (if t325 = true then (impl_reduce.l2 k x2 x8 x9 x13 x65 (wrap64 (x66 + 1)) x309000 x309001) else ((impl_fire.f k x309000 x309001 x8 x66 1).bind fun t326 => (if 0 ≤ x66 then (if x66 < (x9.length : Int) then (impl_reduce.l2 k x2 t326 (x9.set (x66 : Int).toNat (wrap64 ((rd x9 x66) + 1))) x13 x65 (wrap64 (x66 + 1)) x309000 x309001) else (none)) else (none))))) else (impl_reduce.l1 k x2 x8 x9 x309000 x309001)
end
def impl_reduce.f (k : Nat) (a0_0 : Int) (l0_1 : List (S70)) (l1 : List Int) (a2 : Int) : Option (List Int × List Int) := (impl_copyInts.f l1).bind fun t309 => (if 0 ≤ a0_0 then (if (a0_0 : Int).toNat ≤ 35184372088832 then ((impl_inDebt.f k t309 a2).bind fun t315 => (impl_reduce.l0 k a2 t309 (List.replicate (a0_0 : Int).toNat 0) t315 a0_0 l0_1)) else (none)) else (none))
set_option maxHeartbeats 8000000 in
set_option maxRecDepth 100000 in
theorem impl_reduce.calls (k : Nat) (a0_0 : Int) (A0_1 : Option Addr) (c0_1 : Nat) (l0_1 : List (S70)) (A1 : Option Addr) (c1 : Nat) (l1 : List Int) (a2 : Int) (r1 : List Int) (r2 : List Int) (w : World) (hr0_1 : Kd.C k70 w A0_1 l0_1.length l0_1) (hc0_1 : l0_1.length ≤ c0_1) (hr1 : Kd.C (Kd.int .i64) w A1 l1.length l1) (hc1 : l1.length ≤ c1) (h : impl_reduce.f k a0_0 l0_1 l1 a2 = some (r1, r2)) :
  Calls Try.prog 82 #[.agg #[.int .i64 a0_0, .slice A0_1 l0_1.length c0_1], .slice A1 l1.length c1, .int .i64 a2] w fun e w' => ∃ v0_ v1_ : Value, e = .returned (.tuple #[v0_, v1_]) ∧ Kd.R (Kd.int .i64) 3 w' w.heap.size (fun k_ => some k_ ≠ (v1_ : Value).ownBlock) v0_ r1 ∧ Kd.R (Kd.int .i64) 3 w' w.heap.size (fun k_ => some k_ ≠ (v0_ : Value).ownBlock) v1_ r2 ∧ Below w.heap.size w w' := by
 have hu25 := Try.underlying25
 have HR0_1 := Aside0.mk hr0_1
 have HC0_1 := Aside0.mk hc0_1
 clear hr0_1 hc0_1
 have HR1 := Aside0.mk hr1
 have HC1 := Aside0.mk hc1
 clear hr1 hc1
 have HB := Aside0.mk (Below.refl w.heap.size w)
 have H : ((impl_copyInts.f l1).bind fun t309 => (if 0 ≤ a0_0 then (if (a0_0 : Int).toNat ≤ 35184372088832 then ((impl_inDebt.f k t309 a2).bind fun t315 => (impl_reduce.l0 k a2 t309 (List.replicate (a0_0 : Int).toNat 0) t315 a0_0 l0_1)) else (none)) else (none))) = some (r1, r2) := h
 clear h
 replace H := Option.bind_eq_some_iff.mp H
 obtain ⟨t309, A40, H⟩ := H
 replace H : (if 0 ≤ a0_0 then (if (a0_0 : Int).toNat ≤ 35184372088832 then ((impl_inDebt.f k t309 a2).bind fun t315 => (impl_reduce.l0 k a2 t309 (List.replicate (a0_0 : Int).toNat 0) t315 a0_0 l0_1)) else (none)) else (none)) = some (r1, r2) := H
 have A4 := Aside0.mk A40
 clear A40
 by_cases c5 : 0 ≤ a0_0
 ·rw [if_pos c5] at H
  have c5b0 := eq_true c5
  have c5b1 : decide (0 ≤ a0_0) = true := decide_eq_true c5
  clear c5
  by_cases c6 : (a0_0 : Int).toNat ≤ 35184372088832
  ·rw [if_pos c6] at H
   have c6b0 := eq_true c6
   have c6b1 : decide ((a0_0 : Int).toNat ≤ 35184372088832) = true := decide_eq_true c6
   clear c6
   obtain ⟨y312, hy312⟩ : ∃ y_ : List Int, y_ = (List.replicate (a0_0 : Int).toNat 0) := ⟨_, rfl⟩
   replace H : ((impl_inDebt.f k t309 a2).bind fun t315 => (impl_reduce.l0 k a2 t309 y312 t315 a0_0 l0_1)) = some (r1, r2) := by first | (rw [hy312]; with_reducible exact H) | (have H2_ := (Option.bind_some _ _).symm.trans H; rw [hy312]; with_reducible exact H2_) | (have H2_ := (Option.bind_some _ _).symm.trans H; with_reducible exact H2_) | with_reducible exact H | (rw [hy312]; exact H) | exact H
   have Ny312 := Aside0.mk hy312
   clear hy312
   replace H := Option.bind_eq_some_iff.mp H
   obtain ⟨t315, A70, H⟩ := H
   replace H : (impl_reduce.l0 k a2 t309 y312 t315 a0_0 l0_1) = some (r1, r2) := H
   have A7 := Aside0.mk A70
   clear A70
   have H' := Aside0.mk H
   clear H
   go_enter Try.func82, Try.ntmps82
   go_wp2_with (first | ((with_reducible refine gate_dst (N := 3) rfl ?_); refine box_event ?hg (N := 3) ?hd (cs := #[.int .i64 a0_0, .slice A0_1 l0_1.length c0_1]) (t := 25) ?hr ?_; (case hd => rfl); (case hg => rfl); (case hr => first | (go_simp; done) | (go_simp; rfl)); intro gb308 hg w8 hbox hb; have BK308 := Aside0.mk (hbox); have GW308 := Aside0.mk ((by rw [hg]; exact (below_size (Lz HB)) : w.heap.size ≤ gb308)); have GE308 := Aside0.mk ((by rw [hg]; exact (below_size (Lz HB)) : w.heap.size ≤ gb308)); replace HB := Aside0.mk (below_step (Lz HB) hb); clear hb hbox hg) | ((with_reducible refine gate_callee (f := 109) rfl ?_); refine goesM_ (some 16) rfl rfl Try.func109 (by kernel_rfl) rfl #[.slice A1 l1.length c1] rfl ?_; (with_reducible refine (impl_copyInts.calls _ _ l1 t309 _ ?side1 ?side2 A4.out).mono ?_); (case side1 => exact Cz ((Kd.C_below HR1.out HB.out))); (case side2 => exact HC1.out); rintro e w9 ⟨v310, rfl, ho0, hb⟩; refine ⟨_, rfl, ?_⟩; have HO311 := Aside0.mk (Kd.R_lower ho0 (below_size (by exact Lz1 HB GE308))); replace BK308 := Aside0.mk (blk_below (g := gb308) (o := .cells #[.int .i64 a0_0, .slice A0_1 l0_1.length c0_1] 25 (0, 0)) (Bz BK308) hb); replace HB := Aside0.mk (below_step (by exact Lz1 HB GE308) hb); (try clear hb); (try clear ho0); have hcz10_0 : w9.cell? ⟨gb308, 0, none⟩ = some (.int .i64 a0_0) := (blk_cell BK308.out 0).trans rfl; have hcz10_1 : w9.cell? ⟨gb308, 1, none⟩ = some (.slice A0_1 l0_1.length c0_1) := (blk_cell BK308.out 1).trans rfl; have hfz10_0 := blk_frozen BK308.out 0; have hfz10_1 := blk_frozen BK308.out 1) | ((with_reducible refine gate_dst (N := 19) rfl ?_); refine Kd.R_make (Kd.int .i64) _ 3 rfl (N := 19) rfl 27 _ _ rfl a0_0 rfl rfl Try.underlying27 (.int .i64 0) 8 info3 rfl (by decide) (by omega) 0 (ok := fun _ => True) (okp := fun _ => True) rfl (fun _ hk => hk) trivial (of_decide_eq_true (by first | (with_reducible assumption) | assumption)) (Nat.le_trans (Nat.mul_le_mul_right _ (of_decide_eq_true (by first | (with_reducible assumption) | assumption) : a0_0.toNat ≤ 35184372088832)) (by omega)) (Below.refl _ _) (Nat.le_refl _) ?_; intro v313 w11 ho12 hb hg_ hnew_; clear hg_ hnew_; (first | rw [← Ny312.out] at ho12 | (simp only [Int.reduceToNat] at ho12; rw [← Ny312.out] at ho12)); have HO314 := Aside0.mk (Kd.R_lower (Kd.R_new' ho12 (Kd.R_lt (Rz HO311))) (below_size (by exact Lz1 HB GE308))); replace HO311 := Aside0.mk (Kd.R_elder' (Rz HO311) (Kd.R_base ho12) hb); replace BK308 := Aside0.mk (blk_below (g := gb308) (o := .cells #[.int .i64 a0_0, .slice A0_1 l0_1.length c0_1] 25 (0, 0)) (Bz BK308) hb); replace HB := Aside0.mk (below_step (by exact Lz1 HB GE308) hb); clear hb ho12; obtain ⟨Ao13, co13, eo13⟩ := Kd.R_slice HO311.out; subst eo13) | ((with_reducible refine gate_callee (f := 72) rfl ?_); refine goesM_ (some 22) rfl rfl Try.func72 (by kernel_rfl) rfl #[.slice Ao13 t309.length co13, .int .i64 a2] rfl ?_; (with_reducible refine (impl_inDebt.calls k _ _ t309 a2 t315 _ ?side1 ?side2 A7.out).mono ?_); (case side1 => exact Cz ((Kd.R_reads' HO311.out).2.2)); (case side2 => exact (Kd.R_reads' HO311.out).2.1); rintro e w' ⟨rfl, ⟨nd, rfl⟩⟩; refine ⟨_, rfl, ?_⟩))
   go_loopg [10] k (fun kq v10 w' => ∃ (x8_1 : List Int) (x9_1 : List Int) (x10_1 : Int), v10 = .int .i64 x10_1 ∧ Aside0 (impl_reduce.l0 kq a2 x8_1 x9_1 x10_1 a0_0 l0_1 = some (r1, r2)) ∧ Aside0 (kq ≤ k) ∧ Aside0 (Kd.R (Kd.int .i64) 3 w' w.heap.size (fun k_ => some k_ ≠ (v313 : Value).ownBlock) (.slice Ao13 t309.length co13) x8_1) ∧ Aside0 (Kd.R (Kd.int .i64) 3 w' w.heap.size (fun k_ => some k_ ≠ ((.slice Ao13 t309.length co13) : Value).ownBlock) v313 x9_1) ∧ Aside0 (w'.heap[gb308]? = some (.cells #[.int .i64 a0_0, (.slice A0_1 l0_1.length c0_1)] 25 (0, 0))) ∧ Aside0 (Below w.heap.size w w'))
   case atStart => exact ⟨(t309), (y312), (t315), (by first | rfl | (simp; done) | (simp [*]; done)), H', ⟨Nat.le_refl _⟩, ⟨by (with_reducible repeat (first | apply Kd.R_alloc | apply Kd.R_drewN | apply Kd.R_drew)); exact Kd.R_mono HO311.out (fun _ hk => hk.2)⟩, ⟨by (with_reducible repeat (first | apply Kd.R_alloc | apply Kd.R_drewN | apply Kd.R_drew)); exact Kd.R_mono HO314.out (fun _ hk => hk.2)⟩, ⟨by exact Bz BK308⟩, ⟨by exact Lz1 HB GE308⟩⟩
   case round =>
    clear H'
    try clear c1
    try clear c5
    try clear c5b0
    try clear c5b1
    try clear c6
    try clear c6b0
    try clear c6b1
    obtain ⟨x8_1, x9_1, x10_1, rfl, HA, HK1, HO_8, HO_9, BK308, HB⟩ := hrel
    have hl8_1 := (Kd.R_reads' HO_8.out).1
    rw [hl8_1] at HO_8
    (try simp only [hl8_1])
    (try simp only [hl8_1] at BK308)
    (try simp only [hl8_1] at HO_9)
    cases gk with
    | zero => exact absurd HA.out (by simp [impl_reduce.l0])
    | succ k1 =>
     have H := HA.out
     clear HA
     simp only [impl_reduce.l0] at H
     by_cases c14 : x10_1 ≥ 0
     ·rw [if_pos c14] at H
      have c14b0 : decide (0 ≤ x10_1) = true := decide_eq_true c14
      clear c14
      replace H := Option.bind_eq_some_iff.mp H
      obtain ⟨t316, A150, H⟩ := H
      replace H : (if 0 ≤ x10_1 then (if x10_1 < (x8_1.length : Int) then (if t316 = 0 then (none) else ((impl_fire.f k1 a0_0 l0_1 x8_1 x10_1 (wrap64 (-(wrap64 (Int.tdiv (wrap64 ((wrap64 (t316 - 1)) - (rd x8_1 x10_1))) t316))))).bind fun t318 => (if x10_1 < (x9_1.length : Int) then ((impl_inDebt.f k1 t318 a2).bind fun t321 => (impl_reduce.l0 k1 a2 t318 (x9_1.set (x10_1 : Int).toNat (wrap64 ((rd x9_1 x10_1) - (wrap64 (Int.tdiv (wrap64 ((wrap64 (t316 - 1)) - (rd x8_1 x10_1))) t316))))) t321 a0_0 l0_1)) else (none)))) else (none)) else (none)) = some (r1, r2) := H
      have A15 := Aside0.mk A150
      clear A150
      by_cases c16 : 0 ≤ x10_1
      ·rw [if_pos c16] at H
       have c16b0 : decide (0 ≤ x10_1) = true := decide_eq_true c16
       clear c16
       by_cases c17 : x10_1 < (x8_1.length : Int)
       ·rw [if_pos c17] at H
        have c17b0 : decide (x10_1 < (x8_1.length : Int)) = true := decide_eq_true c17
        (try simp only [hl8_1, hl8_2, hl8_3, hl9_3] at c17b0)
        clear c17
        by_cases c18 : t316 = 0
        ·rw [if_pos c18] at H
         exact absurd H (by simp)
        rw [if_neg c18] at H
        have c18b0 : (t316 == 0) = false := beq_eq_false_iff_ne.mpr c18
        have c18b1 : (t316 != 0) = true := bne_iff_ne.mpr c18
        replace H := Option.bind_eq_some_iff.mp H
        obtain ⟨t318, A190, H⟩ := H
        replace H : (if x10_1 < (x9_1.length : Int) then ((impl_inDebt.f k1 t318 a2).bind fun t321 => (impl_reduce.l0 k1 a2 t318 (x9_1.set (x10_1 : Int).toNat (wrap64 ((rd x9_1 x10_1) - (wrap64 (Int.tdiv (wrap64 ((wrap64 (t316 - 1)) - (rd x8_1 x10_1))) t316))))) t321 a0_0 l0_1)) else (none)) = some (r1, r2) := H
        have A19 := Aside0.mk A190
        clear A190
        by_cases c20 : x10_1 < (x9_1.length : Int)
        ·rw [if_pos c20] at H
         have c20b0 : decide (x10_1 < (x9_1.length : Int)) = true := decide_eq_true c20
         (try simp only [hl8_1, hl8_2, hl8_3, hl9_3] at c20b0)
         clear c20
         obtain ⟨y320, hy320⟩ : ∃ y_ : List Int, y_ = (x9_1.set (x10_1 : Int).toNat (wrap64 ((rd x9_1 x10_1) - (wrap64 (Int.tdiv (wrap64 ((wrap64 (t316 - 1)) - (rd x8_1 x10_1))) t316))))) := ⟨_, rfl⟩
         replace H : ((impl_inDebt.f k1 t318 a2).bind fun t321 => (impl_reduce.l0 k1 a2 t318 y320 t321 a0_0 l0_1)) = some (r1, r2) := by first | (rw [hy320]; with_reducible exact H) | (have H2_ := (Option.bind_some _ _).symm.trans H; rw [hy320]; with_reducible exact H2_) | (have H2_ := (Option.bind_some _ _).symm.trans H; with_reducible exact H2_) | with_reducible exact H | (rw [hy320]; exact H) | exact H
         have Ny320 := Aside0.mk hy320
         clear hy320
         replace H := Option.bind_eq_some_iff.mp H
         obtain ⟨t321, A220, H⟩ := H
         replace H : (impl_reduce.l0 k1 a2 t318 y320 t321 a0_0 l0_1) = some (r1, r2) := H
         have A22 := Aside0.mk A220
         clear A220
         have H' := Aside0.mk H
         clear H
         have hcz23_0 : wr.cell? ⟨gb308, 0, none⟩ = some (.int .i64 a0_0) := (blk_cell BK308.out 0).trans rfl
         have hcz23_1 : wr.cell? ⟨gb308, 1, none⟩ = some (.slice A0_1 l0_1.length c0_1) := (blk_cell BK308.out 1).trans rfl
         have hfz23_0 := blk_frozen BK308.out 0
         have hfz23_1 := blk_frozen BK308.out 1
         go_wp2_with (first | ((with_reducible refine gate_callee (f := 59) rfl ?_); refine goesM_ (some 30) rfl rfl Try.func59 (by kernel_rfl) rfl #[.agg #[.int .i64 a0_0, .slice A0_1 l0_1.length c0_1], .int .i64 x10_1] rfl ?_; (with_reducible refine (impl_Valence.calls k1 a0_0 _ _ l0_1 x10_1 t316 _ ?side1 ?side2 A15.out).mono ?_); (case side1 => exact Cz ((Kd.C_below HR0_1.out HB.out))); (case side2 => exact HC0_1.out); rintro e w24 ⟨rfl, hb⟩; refine ⟨_, rfl, ?_⟩; replace HO_8 := Aside0.mk (Kd.R_below (Rz HO_8) hb); replace HO_9 := Aside0.mk (Kd.R_below (Rz HO_9) hb); replace BK308 := Aside0.mk (blk_below (g := gb308) (o := .cells #[.int .i64 a0_0, .slice A0_1 l0_1.length c0_1] 25 (0, 0)) (Bz BK308) hb); replace HB := Aside0.mk (below_step (by exact Lz1 HB GE308) hb); (try clear hb); (try clear hb2); (try clear hk); (try clear hi); have p317 : 0 ≤ (x10_1 : Int) := of_decide_eq_true (by first | (with_reducible assumption) | assumption); have q317 : x10_1 < (x8_1.length : Int) := of_decide_eq_true (by first | (with_reducible assumption) | assumption); obtain ⟨ad317, e317, hx317_0⟩ := Kd.at_int (Kd.R_reads' HO_8.out).2.2 x10_1 p317 q317; cases e317; replace p317 := eq_true p317; replace q317 := eq_true q317; have hcz25_0 : w24.cell? ⟨gb308, 0, none⟩ = some (.int .i64 a0_0) := (blk_cell BK308.out 0).trans rfl; have hcz25_1 : w24.cell? ⟨gb308, 1, none⟩ = some (.slice A0_1 l0_1.length c0_1) := (blk_cell BK308.out 1).trans rfl; have hfz25_0 := blk_frozen BK308.out 0; have hfz25_1 := blk_frozen BK308.out 1) | ((with_reducible refine gate_callee (f := 110) rfl ?_); refine goesM_ (some 45) rfl rfl Try.func110 (by kernel_rfl) rfl #[.agg #[.int .i64 a0_0, .slice A0_1 l0_1.length c0_1], .slice (some ad317) x8_1.length co13, .int .i64 x10_1, .int .i64 (wrap64 (-(wrap64 (Int.tdiv (wrap64 ((wrap64 (t316 - 1)) - (rd x8_1 x10_1))) t316))))] rfl ?_; (with_reducible refine (impl_fire.calls k1 a0_0 _ _ l0_1 (fun k_ => some k_ = (.slice (some ad317) x8_1.length co13 : Value).ownBlock) (.slice (some ad317) x8_1.length co13) x8_1 x10_1 (wrap64 (-(wrap64 (Int.tdiv (wrap64 ((wrap64 (t316 - 1)) - (rd x8_1 x10_1))) t316)))) t318 w _ ?side1 ?side2 ?side3 ?side4 A19.out).mono ?_); (case side1 => exact Lz1 HB GE308); (case side2 => exact Kd.C_kept_came k70_heap HR0_1.out (by exact Lz1 HB GE308) (fun k_ hs_ => (fun e_ => Kd.R_base HO_8.out k_ e_.symm) hs_)); (case side3 => exact HC0_1.out); (case side4 => exact Kd.R_tight rfl HO_8.out); rintro e w26 ⟨rfl, hy0, hb, hkp⟩; refine ⟨_, rfl, ?_⟩; replace HO_9 := Aside0.mk (Kd.R_mono (ok' := fun k_ => some k_ ≠ (.slice (some ad317) x8_1.length co13 : Value).ownBlock) (Kd.R_keptB (HO_9.out) hkp (fun k_ hk_ hs_ => (hk_) hs_)) (fun k_ hk_ => hk_.1)); replace BK308 := Aside0.mk (blk_kept (Bz BK308) hkp (fun hs_ => (fun e_ => (Kd.R_ne HO_8.out BK308.out (by decide)) e_) hs_)); replace HO_8 := Aside0.mk (Kd.R_reok rfl hy0 (fun k_ e_ => HO_8.out.1 k_ e_)); replace HB := Aside0.mk (hb); (try clear hb); (try clear hkp); (try clear hy0); obtain ⟨Ao27, co27, eo27⟩ := Kd.R_slice HO_9.out; subst eo27; have p319 : 0 ≤ (x10_1 : Int) := of_decide_eq_true (by first | (with_reducible assumption) | assumption); have q319 : x10_1 < (x9_1.length : Int) := of_decide_eq_true (by first | (with_reducible assumption) | assumption); obtain ⟨ad319, e319, hx319_0⟩ := Kd.at_int (Kd.R_reads' HO_9.out).2.2 x10_1 p319 q319; cases e319; replace p319 := eq_true p319; replace q319 := eq_true q319; have p21 : 0 ≤ (x10_1 : Int) := of_decide_eq_true (by first | (with_reducible assumption) | assumption); have q21 : (x10_1 : Int) < ((x9_1.length : Int) : Int) := of_decide_eq_true (by first | (with_reducible assumption) | assumption); obtain ⟨go21, co21, eo21, gb21, gl21, cl21, HG21⟩ := Kd.R_form HO_9.out (by omega); (first | cases eo21 | (injection eo21 with ea_ en_ ec_; (first | subst ea_ | (injection ea_ with ea_; subst ea_)); subst ec_; clear en_)); have GB21 := Aside0.mk gb21; have GG21 := Aside0.mk HG21; clear gb21 gl21 HG21; (first | simp only [add_plain] at hx319_0 | skip); obtain ⟨hx21_0, hf21_0⟩ := Kd.R_celln 0 HO_9.out (x10_1 : Int) p21 q21; replace p21 := eq_true p21; replace q21 := eq_true q21; obtain ⟨hy28_, hz28_⟩ := Kd.R_celln 0 HO_9.out (x10_1 : Int) (of_decide_eq_true (by first | (with_reducible assumption) | assumption)) (of_decide_eq_true (by first | (with_reducible assumption) | assumption)); have HP28 := Kd.R_putg HO_9.out (x10_1 : Int) (wrap64 ((rd x9_1 x10_1) - (wrap64 (Int.tdiv (wrap64 ((wrap64 (t316 - 1)) - (rd x8_1 x10_1))) t316))))) | ((with_reducible refine gate_store (t := 3) (p := 52) rfl ?_); refine store_event (t := 3) (p := 52) (v := ?vo_w29) (w1 := (w26.setCell ⟨go21, (x10_1 : Int).toNat, none⟩ (.int .i64 (wrap64 ((rd x9_1 x10_1) - (wrap64 (Int.tdiv (wrap64 ((wrap64 (t316 - 1)) - (rd x8_1 x10_1))) t316))))))) ?hg ?ho ?hn ?hr ?_; (case ho => rfl); (case hg => rfl); (case hn => rfl); (case hr => first | (go_simp; done) | (go_simp; rfl)); intro w29 hw; have hg : w26.grownBy w29 (some go21) := (by rw [hw]; exact HP28.2); have hp_ : Kd.R (Kd.int .i64) 3 w29 w.heap.size (fun k_ => some k_ ≠ (.slice (some ad317) x8_1.length co13 : Value).ownBlock) (.slice (some ⟨go21, 0, none⟩) x9_1.length co27) y320 := (by rw [hw, Ny320.out]; exact HP28.1); clear HP28; replace HO_8 := Aside0.mk (Kd.R_after (v := (.slice (some ⟨go21, 0, none⟩) x9_1.length co27)) (v1 := (.slice (some ⟨go21, 0, none⟩) x9_1.length co27)) (ok := (fun _ => True)) (by (with_reducible repeat (first | apply Kd.R_alloc | apply Kd.R_drewN | apply Kd.R_drew)); exact Kd.R_mono HO_8.out (fun _ hk => ⟨trivial, hk⟩)) hg (.inl rfl)); replace BK308 := Aside0.mk (blk_grown (g := gb308) (o := .cells #[.int .i64 a0_0, .slice A0_1 l0_1.length c0_1] 25 (0, 0)) (Bz BK308) hg (Kd.R_ne HO_9.out BK308.out (by decide))); replace HO_9 := Aside0.mk (hp_); replace HB := Aside0.mk ((by rw [hw]; exact below_set (HB.out) GB21.out : Below w.heap.size w w29)); clear hg hw hp_) | ((with_reducible refine gate_callee (f := 72) rfl ?_); refine goesL_ (some 27) rfl rfl Try.func72 (by kernel_rfl) rfl #[.slice (some ad317) t318.length co13, .int .i64 a2] rfl (by (try simp only [List.map_toArray, List.map_cons, List.map_nil]); first | done | (rw [show t318.length = x8_1.length from (Kd.R_reads' HO_8.out).1.symm] <;> rfl) | rfl | (simp only [List.length_drop, List.length_take]; rfl)) ?_; (with_reducible refine (impl_inDebt.calls k1 _ _ t318 a2 t321 _ ?side1 ?side2 A22.out).mono ?_); (case side1 => exact Cz ((Kd.R_reads' HO_8.out).2.2)); (case side2 => rw [show t318.length = x8_1.length from (Kd.R_reads' HO_8.out).1.symm]; exact (Kd.R_reads' HO_8.out).2.1); rintro e w' ⟨rfl, ⟨nd, rfl⟩⟩; refine ⟨_, rfl, ?_⟩))
         (try simp only [← hl8_1])
         go_roundg k1
         case measure => have := HK1.out; omega
         case rel => exact ⟨(t318), (y320), (t321), (by first | rfl | (simp; done) | (simp [*]; done)), H', ⟨by have := HK1.out; omega⟩, ⟨by (try simp only [hl8_1]); (with_reducible repeat (first | apply Kd.R_alloc | apply Kd.R_drewN | apply Kd.R_drew)); exact Kd.R_mono HO_8.out (fun _ hk => hk.2)⟩, ⟨by (try simp only [hl8_1]); exact Rz HO_9⟩, ⟨by (try simp only [hl8_1]); exact Bz BK308⟩, ⟨by exact Lz1 HB GE308⟩⟩
        rw [if_neg c20] at H
        exact absurd H (by simp)
       rw [if_neg c17] at H
       exact absurd H (by simp)
      rw [if_neg c16] at H
      exact absurd H (by simp)
     rw [if_neg c14] at H
     have c14b0 : decide (0 ≤ x10_1) = false := decide_eq_false c14
     clear c14
     have H' := Aside0.mk H
     clear H
     go_wp2
     go_loopg [] k1 (fun kq w' => ∃ (x8_2 : List Int) (x9_2 : List Int), Aside0 (impl_reduce.l1 kq a2 x8_2 x9_2 a0_0 l0_1 = some (r1, r2)) ∧ Aside0 (kq ≤ k1) ∧ Aside0 (Kd.R (Kd.int .i64) 3 w' w.heap.size (fun k_ => some k_ ≠ (v313 : Value).ownBlock) (.slice Ao13 x8_1.length co13) x8_2) ∧ Aside0 (Kd.R (Kd.int .i64) 3 w' w.heap.size (fun k_ => some k_ ≠ ((.slice Ao13 x8_1.length co13) : Value).ownBlock) v313 x9_2) ∧ Aside0 (w'.heap[gb308]? = some (.cells #[.int .i64 a0_0, (.slice A0_1 l0_1.length c0_1)] 25 (0, 0))) ∧ Aside0 (Below w.heap.size w w'))
     case atStart => exact ⟨(x8_1), (x9_1), H', ⟨Nat.le_refl _⟩, ⟨by (try simp only [hl8_1]); exact Rz HO_8⟩, ⟨by (try simp only [hl8_1]); exact Rz HO_9⟩, ⟨by (try simp only [hl8_1]); exact Bz BK308⟩, ⟨by exact Lz1 HB GE308⟩⟩
     case round =>
      clear H'
      try clear c1
      try clear c5
      try clear c5b0
      try clear c5b1
      try clear c6
      try clear c6b0
      try clear c6b1
      try clear c14
      try clear c14b0
      try clear c16
      try clear c16b0
      try clear c17
      try clear c17b0
      try clear c18
      try clear c18b0
      try clear c18b1
      try clear c20
      try clear c20b0
      try clear p21
      try clear q21
      try clear p21
      try clear p317
      try clear p319
      try clear q21
      try clear q317
      try clear q319
      obtain ⟨x8_2, x9_2, HA, HK2, HO_8, HO_9, BK308, HB⟩ := hrel
      have hl8_2 := (Kd.R_reads' HO_8.out).1
      rw [hl8_2] at HO_8
      (try simp only [hl8_2])
      (try simp only [hl8_2] at BK308)
      (try simp only [hl8_2] at HO_9)
      cases gk with
      | zero => exact absurd HA.out (by simp [impl_reduce.l1])
      | succ k2 =>
       have H := HA.out
       clear HA
       simp only [impl_reduce.l1] at H
       replace H := Option.bind_eq_some_iff.mp H
       obtain ⟨t322, A300, H⟩ := H
       replace H : (if (t322.length : Int) = a0_0 then (some (x8_2, x9_2)) else (impl_reduce.l2 k2 a2 x8_2 x9_2 t322 (x9_2.length : Int) 0 a0_0 l0_1)) = some (r1, r2) := H
       have A30 := Aside0.mk A300
       clear A300
       by_cases c31 : (t322.length : Int) = a0_0
       ·rw [if_pos c31] at H
        have c31b0 : ((t322.length : Int) == a0_0) = true := beq_iff_eq.mpr c31
        have c31b1 : ((t322.length : Int) != a0_0) = false := bne_eq_false_iff_eq.mpr c31
        clear c31
        simp only [Option.some.injEq, Prod.mk.injEq] at H
        obtain ⟨rfl, rfl⟩ := H
        have hcz32_0 : wr.cell? ⟨gb308, 0, none⟩ = some (.int .i64 a0_0) := (blk_cell BK308.out 0).trans rfl
        have hcz32_1 : wr.cell? ⟨gb308, 1, none⟩ = some (.slice A0_1 l0_1.length c0_1) := (blk_cell BK308.out 1).trans rfl
        have hfz32_0 := blk_frozen BK308.out 0
        have hfz32_1 := blk_frozen BK308.out 1
        go_wp2_with (first | ((with_reducible refine gate_callee (f := 99) rfl ?_); refine goesM_ (some 56) rfl rfl Try.func99 (by kernel_rfl) rfl #[.agg #[.int .i64 a0_0, .slice A0_1 l0_1.length c0_1], .slice Ao13 x8_2.length co13, .int .i64 a2] rfl ?_; (with_reducible refine (impl_burn.calls k2 a0_0 _ _ l0_1 _ _ x8_2 a2 t322 _ ?side1 ?side2 ?side3 ?side4 A30.out).mono ?_); (case side1 => exact Cz ((Kd.C_below HR0_1.out HB.out))); (case side2 => exact HC0_1.out); (case side3 => exact Cz ((Kd.R_reads' HO_8.out).2.2)); (case side4 => exact (Kd.R_reads' HO_8.out).2.1); rintro e w33 ⟨v323, rfl, ho0, hb⟩; refine ⟨_, rfl, ?_⟩; have HO324 := Aside0.mk (Kd.R_lower (Kd.R_new' (Kd.R_new' ho0 (Kd.R_lt (Rz HO_8))) (Kd.R_lt (Rz HO_9))) (below_size (by exact Lz1 HB GE308))); replace HO_8 := Aside0.mk (Kd.R_elder' (Rz HO_8) (Kd.R_base ho0) hb); replace HO_9 := Aside0.mk (Kd.R_elder' (Rz HO_9) (Kd.R_base ho0) hb); replace BK308 := Aside0.mk (blk_below (g := gb308) (o := .cells #[.int .i64 a0_0, .slice A0_1 l0_1.length c0_1] 25 (0, 0)) (Bz BK308) hb); replace HB := Aside0.mk (below_step (by exact Lz1 HB GE308) hb); (try clear hb); (try clear ho0); obtain ⟨Ao34, co34, eo34⟩ := Kd.R_slice HO324.out; subst eo34; have hcz35_0 : w33.cell? ⟨gb308, 0, none⟩ = some (.int .i64 a0_0) := (blk_cell BK308.out 0).trans rfl; have hcz35_1 : w33.cell? ⟨gb308, 1, none⟩ = some (.slice A0_1 l0_1.length c0_1) := (blk_cell BK308.out 1).trans rfl; have hfz35_0 := blk_frozen BK308.out 0; have hfz35_1 := blk_frozen BK308.out 1))
        go_ret2
        exact ⟨_, _, by first | rfl | (simp [errW_none, errW_some] <;> rfl) | (simp [*, errW_none, errW_some] <;> rfl), by (with_reducible repeat (first | apply Kd.R_alloc | apply Kd.R_drewN | apply Kd.R_drew)); exact Kd.R_mono HO_8.out (fun _ hk => hk.1), by (with_reducible repeat (first | apply Kd.R_alloc | apply Kd.R_drewN | apply Kd.R_drew)); exact Kd.R_mono HO_9.out (fun _ hk => hk.1), by exact Lz1 HB GE308⟩
       rw [if_neg c31] at H
       have c31b0 : ((t322.length : Int) == a0_0) = false := beq_eq_false_iff_ne.mpr c31
       have c31b1 : ((t322.length : Int) != a0_0) = true := bne_iff_ne.mpr c31
       have H' := Aside0.mk H
       clear H
       have hcz36_0 : wr.cell? ⟨gb308, 0, none⟩ = some (.int .i64 a0_0) := (blk_cell BK308.out 0).trans rfl
       have hcz36_1 : wr.cell? ⟨gb308, 1, none⟩ = some (.slice A0_1 l0_1.length c0_1) := (blk_cell BK308.out 1).trans rfl
       have hfz36_0 := blk_frozen BK308.out 0
       have hfz36_1 := blk_frozen BK308.out 1
       go_wp2_with (first | ((with_reducible refine gate_callee (f := 99) rfl ?_); refine goesM_ (some 56) rfl rfl Try.func99 (by kernel_rfl) rfl #[.agg #[.int .i64 a0_0, .slice A0_1 l0_1.length c0_1], .slice Ao13 x8_2.length co13, .int .i64 a2] rfl ?_; (with_reducible refine (impl_burn.calls k2 a0_0 _ _ l0_1 _ _ x8_2 a2 t322 _ ?side1 ?side2 ?side3 ?side4 A30.out).mono ?_); (case side1 => exact Cz ((Kd.C_below HR0_1.out HB.out))); (case side2 => exact HC0_1.out); (case side3 => exact Cz ((Kd.R_reads' HO_8.out).2.2)); (case side4 => exact (Kd.R_reads' HO_8.out).2.1); rintro e w37 ⟨v323, rfl, ho0, hb⟩; refine ⟨_, rfl, ?_⟩; have HO324 := Aside0.mk (Kd.R_lower (Kd.R_new' (Kd.R_new' ho0 (Kd.R_lt (Rz HO_8))) (Kd.R_lt (Rz HO_9))) (below_size (by exact Lz1 HB GE308))); replace HO_8 := Aside0.mk (Kd.R_elder' (Rz HO_8) (Kd.R_base ho0) hb); replace HO_9 := Aside0.mk (Kd.R_elder' (Rz HO_9) (Kd.R_base ho0) hb); replace BK308 := Aside0.mk (blk_below (g := gb308) (o := .cells #[.int .i64 a0_0, .slice A0_1 l0_1.length c0_1] 25 (0, 0)) (Bz BK308) hb); replace HB := Aside0.mk (below_step (by exact Lz1 HB GE308) hb); (try clear hb); (try clear ho0); obtain ⟨Ao38, co38, eo38⟩ := Kd.R_slice HO324.out; subst eo38; have hcz39_0 : w37.cell? ⟨gb308, 0, none⟩ = some (.int .i64 a0_0) := (blk_cell BK308.out 0).trans rfl; have hcz39_1 : w37.cell? ⟨gb308, 1, none⟩ = some (.slice A0_1 l0_1.length c0_1) := (blk_cell BK308.out 1).trans rfl; have hfz39_0 := blk_frozen BK308.out 0; have hfz39_1 := blk_frozen BK308.out 1; obtain ⟨Ao40, co40, eo40⟩ := Kd.R_slice HO_9.out; subst eo40))
       go_loopg [66] k2 (fun kq v66 w' => ∃ (x8_3 : List Int) (x9_3 : List Int) (x66_3 : Int), v66 = .int .i64 x66_3 ∧ Aside0 (impl_reduce.l2 kq a2 x8_3 x9_3 t322 (x9_2.length : Int) x66_3 a0_0 l0_1 = some (r1, r2)) ∧ Aside0 (kq ≤ k2) ∧ Aside0 (Kd.R (Kd.int .i64) 3 w' w.heap.size (fun k_ => some k_ ≠ ((.slice Ao40 x9_2.length co40) : Value).ownBlock ∧ some k_ ≠ ((.slice Ao38 t322.length co38) : Value).ownBlock) (.slice Ao13 x8_2.length co13) x8_3) ∧ Aside0 (Kd.R (Kd.int .i64) 3 w' w.heap.size (fun k_ => some k_ ≠ ((.slice Ao13 x8_2.length co13) : Value).ownBlock ∧ some k_ ≠ ((.slice Ao38 t322.length co38) : Value).ownBlock) (.slice Ao40 x9_2.length co40) x9_3) ∧ Aside0 (Kd.R (Kd.int .i64) 3 w' w.heap.size (fun k_ => some k_ ≠ ((.slice Ao13 x8_2.length co13) : Value).ownBlock ∧ some k_ ≠ ((.slice Ao40 x9_2.length co40) : Value).ownBlock) (.slice Ao38 t322.length co38) t322) ∧ Aside0 (w'.heap[gb308]? = some (.cells #[.int .i64 a0_0, (.slice A0_1 l0_1.length c0_1)] 25 (0, 0))) ∧ Aside0 (Below w.heap.size w w'))
       case atStart => exact ⟨(x8_2), (x9_2), (0), (by first | rfl | (simp; done) | (simp [*]; done)), H', ⟨Nat.le_refl _⟩, ⟨by (try simp only [hl8_1]); (try simp only [hl8_2]); exact Rz HO_8⟩, ⟨by (try simp only [hl8_1]); (try simp only [hl8_2]); exact Rz HO_9⟩, ⟨by (try simp only [hl8_1]); (try simp only [hl8_2]); (with_reducible repeat (first | apply Kd.R_alloc | apply Kd.R_drewN | apply Kd.R_drew)); exact Kd.R_mono HO324.out (fun _ hk => ⟨hk.1.2, hk.2⟩)⟩, ⟨by (try simp only [hl8_1]); (try simp only [hl8_2]); exact Bz BK308⟩, ⟨by exact Lz1 HB GE308⟩⟩
       case round =>
        clear H'
        try clear c1
        try clear c5
        try clear c5b0
        try clear c5b1
        try clear c6
        try clear c6b0
        try clear c6b1
        try clear c14
        try clear c14b0
        try clear c16
        try clear c16b0
        try clear c17
        try clear c17b0
        try clear c18
        try clear c18b0
        try clear c18b1
        try clear c20
        try clear c20b0
        try clear p21
        try clear q21
        try clear c31
        try clear c31b0
        try clear c31b1
        try clear p21
        try clear p317
        try clear p319
        try clear q21
        try clear q317
        try clear q319
        obtain ⟨x8_3, x9_3, x66_3, rfl, HA, HK3, HO_8, HO_9, HO_13, BK308, HB⟩ := hrel
        have hl8_3 := (Kd.R_reads' HO_8.out).1
        rw [hl8_3] at HO_8
        (try simp only [hl8_3])
        (try simp only [hl8_3] at BK308)
        (try simp only [hl8_3] at HO_9)
        (try simp only [hl8_3] at HO_13)
        have hl9_3 := (Kd.R_reads' HO_9.out).1
        rw [hl9_3] at HO_9
        (try simp only [hl9_3])
        (try simp only [hl9_3] at BK308)
        (try simp only [hl9_3] at HO_8)
        (try simp only [hl9_3] at HO_13)
        cases gk with
        | zero => exact absurd HA.out (by simp [impl_reduce.l2])
        | succ k3 =>
         have H := HA.out
         clear HA
         simp only [impl_reduce.l2] at H
         by_cases c41 : x66_3 < (x9_2.length : Int)
         ·rw [if_pos c41] at H
          have c41b0 : decide (x66_3 < (x9_2.length : Int)) = true := decide_eq_true c41
          (try simp only [hl8_1, hl8_2, hl8_3, hl9_3] at c41b0)
          clear c41
          replace H := Option.bind_eq_some_iff.mp H
          obtain ⟨t325, A420, H⟩ := H
          replace H : (if t325 = true then (impl_reduce.l2 k3 a2 x8_3 x9_3 t322 (x9_2.length : Int) (wrap64 (x66_3 + 1)) a0_0 l0_1) else ((impl_fire.f k3 a0_0 l0_1 x8_3 x66_3 1).bind fun t326 => (if 0 ≤ x66_3 then (if x66_3 < (x9_3.length : Int) then (impl_reduce.l2 k3 a2 t326 (x9_3.set (x66_3 : Int).toNat (wrap64 ((rd x9_3 x66_3) + 1))) t322 (x9_2.length : Int) (wrap64 (x66_3 + 1)) a0_0 l0_1) else (none)) else (none)))) = some (r1, r2) := H
          have A42 := Aside0.mk A420
          clear A420
          by_cases c43 : t325 = true
          ·subst c43
           have H1 : (impl_reduce.l2 k3 a2 x8_3 x9_3 t322 (x9_2.length : Int) (wrap64 (x66_3 + 1)) a0_0 l0_1) = some (r1, r2) := by rw [if_pos rfl] at H; exact H
           clear H
           have H := H1
           clear H1
           have H' := Aside0.mk H
           clear H
           go_wp2_with (first | ((with_reducible refine gate_callee (f := 73) rfl ?_); refine goesM_ (some 71) rfl rfl Try.func73 (by kernel_rfl) rfl #[.slice Ao38 t322.length co38, .int .i64 x66_3] rfl ?_; (with_reducible refine (slices_Contains_int_int.calls k3 _ _ t322 x66_3 true _ ?side1 ?side2 A42.out).mono ?_); (case side1 => exact Cz ((Kd.R_reads' HO_13.out).2.2)); (case side2 => exact (Kd.R_reads' HO_13.out).2.1); rintro e w' ⟨rfl, ⟨nd, rfl⟩⟩; refine ⟨_, rfl, ?_⟩))
           (try simp only [← hl8_3, ← hl9_3])
           go_roundg k3
           case measure => have := HK1.out; have := HK2.out; have := HK3.out; omega
           case rel => exact ⟨(x8_3), (x9_3), (wrap64 (x66_3 + 1)), (by first | rfl | (simp; done) | (simp [*]; done)), H', ⟨by have := HK1.out; have := HK2.out; have := HK3.out; omega⟩, ⟨by (try simp only [hl8_1]); (try simp only [hl8_2]); (try simp only [hl8_3]); (try simp only [hl9_3]); exact Rz HO_8⟩, ⟨by (try simp only [hl8_1]); (try simp only [hl8_2]); (try simp only [hl8_3]); (try simp only [hl9_3]); exact Rz HO_9⟩, ⟨by (try simp only [hl8_1]); (try simp only [hl8_2]); (try simp only [hl8_3]); (try simp only [hl9_3]); exact Rz HO_13⟩, ⟨by (try simp only [hl8_1]); (try simp only [hl8_2]); (try simp only [hl8_3]); (try simp only [hl9_3]); exact Bz BK308⟩, ⟨by exact Lz1 HB GE308⟩⟩
          replace c43 := Bool.eq_false_iff.mpr c43
          subst c43
          have H1 : ((impl_fire.f k3 a0_0 l0_1 x8_3 x66_3 1).bind fun t326 => (if 0 ≤ x66_3 then (if x66_3 < (x9_3.length : Int) then (impl_reduce.l2 k3 a2 t326 (x9_3.set (x66_3 : Int).toNat (wrap64 ((rd x9_3 x66_3) + 1))) t322 (x9_2.length : Int) (wrap64 (x66_3 + 1)) a0_0 l0_1) else (none)) else (none))) = some (r1, r2) := by rw [if_neg (show ¬ (false = true) by decide)] at H; exact H
          clear H
          have H := H1
          clear H1
          replace H := Option.bind_eq_some_iff.mp H
          obtain ⟨t326, A440, H⟩ := H
          replace H : (if 0 ≤ x66_3 then (if x66_3 < (x9_3.length : Int) then (impl_reduce.l2 k3 a2 t326 (x9_3.set (x66_3 : Int).toNat (wrap64 ((rd x9_3 x66_3) + 1))) t322 (x9_2.length : Int) (wrap64 (x66_3 + 1)) a0_0 l0_1) else (none)) else (none)) = some (r1, r2) := H
          have A44 := Aside0.mk A440
          clear A440
          by_cases c45 : 0 ≤ x66_3
          ·rw [if_pos c45] at H
           have c45b0 : decide (0 ≤ x66_3) = true := decide_eq_true c45
           clear c45
           by_cases c46 : x66_3 < (x9_3.length : Int)
           ·rw [if_pos c46] at H
            have c46b0 : decide (x66_3 < (x9_3.length : Int)) = true := decide_eq_true c46
            (try simp only [hl8_1, hl8_2, hl8_3, hl9_3] at c46b0)
            clear c46
            obtain ⟨y328, hy328⟩ : ∃ y_ : List Int, y_ = (x9_3.set (x66_3 : Int).toNat (wrap64 ((rd x9_3 x66_3) + 1))) := ⟨_, rfl⟩
            replace H : (impl_reduce.l2 k3 a2 t326 y328 t322 (x9_2.length : Int) (wrap64 (x66_3 + 1)) a0_0 l0_1) = some (r1, r2) := by first | (rw [hy328]; with_reducible exact H) | (have H2_ := (Option.bind_some _ _).symm.trans H; rw [hy328]; with_reducible exact H2_) | (have H2_ := (Option.bind_some _ _).symm.trans H; with_reducible exact H2_) | with_reducible exact H | (rw [hy328]; exact H) | exact H
            have Ny328 := Aside0.mk hy328
            clear hy328
            have H' := Aside0.mk H
            clear H
            go_wp2_with (first | ((with_reducible refine gate_callee (f := 73) rfl ?_); refine goesM_ (some 71) rfl rfl Try.func73 (by kernel_rfl) rfl #[.slice Ao38 t322.length co38, .int .i64 x66_3] rfl ?_; (with_reducible refine (slices_Contains_int_int.calls k3 _ _ t322 x66_3 false _ ?side1 ?side2 A42.out).mono ?_); (case side1 => exact Cz ((Kd.R_reads' HO_13.out).2.2)); (case side2 => exact (Kd.R_reads' HO_13.out).2.1); rintro e w' ⟨rfl, ⟨nd, rfl⟩⟩; refine ⟨_, rfl, ?_⟩; (try (rw [drewN_self wr]; generalize hq_ : World.drewN wr _ = wr; have n0_ : Aside0 (Kd.R (Kd.int .i64) 3 wr w.heap.size (fun k_ => some k_ ≠ (.slice Ao13 x8_3.length co13 : Value).ownBlock ∧ some k_ ≠ (.slice Ao40 x9_3.length co40 : Value).ownBlock) (.slice Ao38 t322.length co38) t322) := ⟨by rw [← hq_]; exact (Rz HO_13)⟩; have n1_ : Aside0 (Kd.R (Kd.int .i64) 3 wr w.heap.size (fun k_ => some k_ ≠ (.slice Ao38 t322.length co38 : Value).ownBlock ∧ some k_ ≠ (.slice Ao40 x9_3.length co40 : Value).ownBlock) (.slice Ao13 x8_3.length co13) x8_3) := ⟨by rw [← hq_]; exact (by (with_reducible repeat (first | apply Kd.R_alloc | apply Kd.R_drewN | apply Kd.R_drew)); exact Kd.R_mono HO_8.out (fun _ hk => by first | exact hk | exact ⟨hk.2, hk.1⟩))⟩; have n2_ : Aside0 (Kd.R (Kd.int .i64) 3 wr w.heap.size (fun k_ => some k_ ≠ (.slice Ao38 t322.length co38 : Value).ownBlock ∧ some k_ ≠ (.slice Ao13 x8_3.length co13 : Value).ownBlock) (.slice Ao40 x9_3.length co40) x9_3) := ⟨by rw [← hq_]; exact (by (with_reducible repeat (first | apply Kd.R_alloc | apply Kd.R_drewN | apply Kd.R_drew)); exact Kd.R_mono HO_9.out (fun _ hk => by first | exact hk | exact ⟨hk.2, hk.1⟩))⟩; have n3_ : Aside0 (wr.heap[gb308]? = some (.cells #[.int .i64 a0_0, .slice A0_1 l0_1.length c0_1] 25 (0, 0))) := ⟨by rw [← hq_]; exact (Bz BK308)⟩; have n4_ : Aside0 (Below w.heap.size w wr) := ⟨by rw [← hq_]; exact (by exact Lz1 HB GE308)⟩; clear HO_13 HO_8 HO_9 BK308 HB hq_; have HO_13 := n0_; have HO_8 := n1_; have HO_9 := n2_; have BK308 := n3_; have HB := n4_; clear n0_ n1_ n2_ n3_ n4_)); have hcz48_0 : wr.cell? ⟨gb308, 0, none⟩ = some (.int .i64 a0_0) := (blk_cell BK308.out 0).trans rfl; have hcz48_1 : wr.cell? ⟨gb308, 1, none⟩ = some (.slice A0_1 l0_1.length c0_1) := (blk_cell BK308.out 1).trans rfl; have hfz48_0 := blk_frozen BK308.out 0; have hfz48_1 := blk_frozen BK308.out 1) | ((with_reducible refine gate_callee (f := 110) rfl ?_); refine goesM_ (some 76) rfl rfl Try.func110 (by kernel_rfl) rfl #[.agg #[.int .i64 a0_0, .slice A0_1 l0_1.length c0_1], .slice Ao13 x8_3.length co13, .int .i64 x66_3, .int .i64 1] rfl ?_; (with_reducible refine (impl_fire.calls k3 a0_0 _ _ l0_1 (fun k_ => some k_ = (.slice Ao13 x8_3.length co13 : Value).ownBlock) (.slice Ao13 x8_3.length co13) x8_3 x66_3 1 t326 w _ ?side1 ?side2 ?side3 ?side4 A44.out).mono ?_); (case side1 => exact Lz1 HB GE308); (case side2 => exact Kd.C_kept_came k70_heap HR0_1.out (by exact Lz1 HB GE308) (fun k_ hs_ => (fun e_ => Kd.R_base HO_8.out k_ e_.symm) hs_)); (case side3 => exact HC0_1.out); (case side4 => exact Kd.R_tight rfl HO_8.out); rintro e w49 ⟨rfl, hy0, hb, hkp⟩; refine ⟨_, rfl, ?_⟩; replace HO_9 := Aside0.mk (Kd.R_mono (ok' := fun k_ => some k_ ≠ (.slice Ao13 x8_3.length co13 : Value).ownBlock ∧ some k_ ≠ (.slice Ao38 t322.length co38 : Value).ownBlock) (Kd.R_keptB (HO_9.out) hkp (fun k_ hk_ hs_ => by first | exact (hk_.1) hs_ | exact (hk_.2) hs_)) (fun k_ hk_ => by first | exact ⟨hk_.1.1, hk_.1.2⟩ | exact ⟨hk_.1.2, hk_.1.1⟩)); replace HO_13 := Aside0.mk (Kd.R_mono (ok' := fun k_ => some k_ ≠ (.slice Ao13 x8_3.length co13 : Value).ownBlock ∧ some k_ ≠ (.slice Ao40 x9_3.length co40 : Value).ownBlock) (Kd.R_keptB (HO_13.out) hkp (fun k_ hk_ hs_ => by first | exact (hk_.1) hs_ | exact (hk_.2) hs_)) (fun k_ hk_ => by first | exact ⟨hk_.1.1, hk_.1.2⟩ | exact ⟨hk_.1.2, hk_.1.1⟩)); replace BK308 := Aside0.mk (blk_kept (Bz BK308) hkp (fun hs_ => (fun e_ => (Kd.R_ne HO_8.out BK308.out (by decide)) e_) hs_)); replace HO_8 := Aside0.mk (Kd.R_reok rfl hy0 (fun k_ e_ => HO_8.out.1 k_ e_)); replace HB := Aside0.mk (hb); (try clear hb); (try clear hkp); (try clear hy0); have p327 : 0 ≤ (x66_3 : Int) := of_decide_eq_true (by first | (with_reducible assumption) | assumption); have q327 : x66_3 < (x9_3.length : Int) := of_decide_eq_true (by first | (with_reducible assumption) | assumption); obtain ⟨ad327, e327, hx327_0⟩ := Kd.at_int (Kd.R_reads' HO_9.out).2.2 x66_3 p327 q327; cases e327; replace p327 := eq_true p327; replace q327 := eq_true q327; have p47 : 0 ≤ (x66_3 : Int) := of_decide_eq_true (by first | (with_reducible assumption) | assumption); have q47 : (x66_3 : Int) < ((x9_3.length : Int) : Int) := of_decide_eq_true (by first | (with_reducible assumption) | assumption); obtain ⟨go47, co47, eo47, gb47, gl47, cl47, HG47⟩ := Kd.R_form HO_9.out (by omega); (first | cases eo47 | (injection eo47 with ea_ en_ ec_; (first | subst ea_ | (injection ea_ with ea_; subst ea_)); subst ec_; clear en_)); have GB47 := Aside0.mk gb47; have GG47 := Aside0.mk HG47; clear gb47 gl47 HG47; (first | simp only [add_plain] at hx327_0 | skip); obtain ⟨hx47_0, hf47_0⟩ := Kd.R_celln 0 HO_9.out (x66_3 : Int) p47 q47; replace p47 := eq_true p47; replace q47 := eq_true q47; obtain ⟨hy50_, hz50_⟩ := Kd.R_celln 0 HO_9.out (x66_3 : Int) (of_decide_eq_true (by first | (with_reducible assumption) | assumption)) (of_decide_eq_true (by first | (with_reducible assumption) | assumption)); have HP50 := Kd.R_putg HO_9.out (x66_3 : Int) (wrap64 ((rd x9_3 x66_3) + 1))) | ((with_reducible refine gate_store (t := 3) (p := 82) rfl ?_); refine store_event (t := 3) (p := 82) (v := ?vo_w51) (w1 := (w49.setCell ⟨go47, (x66_3 : Int).toNat, none⟩ (.int .i64 (wrap64 ((rd x9_3 x66_3) + 1))))) ?hg ?ho ?hn ?hr ?_; (case ho => rfl); (case hg => rfl); (case hn => rfl); (case hr => first | (go_simp; done) | (go_simp; rfl)); intro w51 hw; have hg : w49.grownBy w51 (some go47) := (by rw [hw]; exact HP50.2); have hp_ : Kd.R (Kd.int .i64) 3 w51 w.heap.size (fun k_ => some k_ ≠ (.slice Ao13 x8_3.length co13 : Value).ownBlock ∧ some k_ ≠ (.slice Ao38 t322.length co38 : Value).ownBlock) (.slice (some ⟨go47, 0, none⟩) x9_3.length co40) y328 := (by rw [hw, Ny328.out]; exact HP50.1); clear HP50; replace HO_8 := Aside0.mk (Kd.R_after (v := (.slice (some ⟨go47, 0, none⟩) x9_3.length co40)) (v1 := (.slice (some ⟨go47, 0, none⟩) x9_3.length co40)) (ok := (fun k_ => some k_ ≠ (.slice Ao38 t322.length co38 : Value).ownBlock)) (by (with_reducible repeat (first | apply Kd.R_alloc | apply Kd.R_drewN | apply Kd.R_drew)); exact Kd.R_mono HO_8.out (fun _ hk => by first | exact hk | exact ⟨hk.2, hk.1⟩)) hg (.inl rfl)); replace HO_13 := Aside0.mk (Kd.R_after (v := (.slice (some ⟨go47, 0, none⟩) x9_3.length co40)) (v1 := (.slice (some ⟨go47, 0, none⟩) x9_3.length co40)) (ok := (fun k_ => some k_ ≠ (.slice Ao13 x8_3.length co13 : Value).ownBlock)) (Rz HO_13) hg (.inl rfl)); replace BK308 := Aside0.mk (blk_grown (g := gb308) (o := .cells #[.int .i64 a0_0, .slice A0_1 l0_1.length c0_1] 25 (0, 0)) (Bz BK308) hg (Kd.R_ne HO_9.out BK308.out (by decide))); replace HO_9 := Aside0.mk (hp_); replace HB := Aside0.mk ((by rw [hw]; exact below_set (HB.out) GB47.out : Below w.heap.size w w51)); clear hg hw hp_))
            (try simp only [← hl8_3, ← hl9_3])
            go_roundg k3
            case measure => have := HK1.out; have := HK2.out; have := HK3.out; omega
            case rel => exact ⟨(t326), (y328), (wrap64 (x66_3 + 1)), (by first | rfl | (simp; done) | (simp [*]; done)), H', ⟨by have := HK1.out; have := HK2.out; have := HK3.out; omega⟩, ⟨by (try simp only [hl8_1]); (try simp only [hl8_2]); (try simp only [hl8_3]); (try simp only [hl9_3]); (with_reducible repeat (first | apply Kd.R_alloc | apply Kd.R_drewN | apply Kd.R_drew)); exact Kd.R_mono HO_8.out (fun _ hk => by first | exact hk | exact ⟨hk.2, hk.1⟩)⟩, ⟨by (try simp only [hl8_1]); (try simp only [hl8_2]); (try simp only [hl8_3]); (try simp only [hl9_3]); exact Rz HO_9⟩, ⟨by (try simp only [hl8_1]); (try simp only [hl8_2]); (try simp only [hl8_3]); (try simp only [hl9_3]); exact Rz HO_13⟩, ⟨by (try simp only [hl8_1]); (try simp only [hl8_2]); (try simp only [hl8_3]); (try simp only [hl9_3]); exact Bz BK308⟩, ⟨by exact Lz1 HB GE308⟩⟩
           rw [if_neg c46] at H
           exact absurd H (by simp)
          rw [if_neg c45] at H
          exact absurd H (by simp)
         rw [if_neg c41] at H
         have c41b0 : decide (x66_3 < (x9_2.length : Int)) = false := decide_eq_false c41
         (try simp only [hl8_1, hl8_2, hl8_3, hl9_3] at c41b0)
         clear c41
         have H' := Aside0.mk H
         clear H
         go_wp2
         (try simp only [← hl8_2, ← hl8_3, ← hl9_3])
         go_roundg k3
         case measure => have := HK1.out; have := HK2.out; have := HK3.out; omega
         case rel => exact ⟨(x8_3), (x9_3), H', ⟨by have := HK1.out; have := HK2.out; have := HK3.out; omega⟩, ⟨by (try simp only [hl8_1]); (try simp only [hl8_2]); (try simp only [hl8_3]); (try simp only [hl9_3]); (with_reducible repeat (first | apply Kd.R_alloc | apply Kd.R_drewN | apply Kd.R_drew)); exact Kd.R_mono HO_8.out (fun _ hk => hk.1)⟩, ⟨by (try simp only [hl8_1]); (try simp only [hl8_2]); (try simp only [hl8_3]); (try simp only [hl9_3]); (with_reducible repeat (first | apply Kd.R_alloc | apply Kd.R_drewN | apply Kd.R_drew)); exact Kd.R_mono HO_9.out (fun _ hk => hk.1)⟩, ⟨by (try simp only [hl8_1]); (try simp only [hl8_2]); (try simp only [hl8_3]); (try simp only [hl9_3]); exact Bz BK308⟩, ⟨by exact Lz1 HB GE308⟩⟩
  rw [if_neg c6] at H
  exact absurd H (by simp)
 rw [if_neg c5] at H
 exact absurd H (by simp)
end Go.Proofs.Ytnebapnfkolflaa.P
end
section
namespace Go.Proofs.Ytnebapnfkolflaa.P
open Go.RowKit Go.Proofs.YtnebapnfkolflaaW.PrintWords Go.Proofs.YtnebapnfkolflaaW.PrintLast Go.Proofs.YtnebapnfkolflaaW.PrintMore
attribute [local go_sem] max2_int min2_int max_two min_two max_three min_three max_four min_four
set_option linter.unusedVariables false
set_option linter.unusedSimpArgs false
def impl_allWithin.l0 : Nat → Int → Int → List Int → Int → Int → Option (Bool)
 | 0, _, _, _, _, _ => none
 | k + 1, x1, x2, x9, x10, x11 => if x11 < x10 then (if 0 ≤ x11 then (if x11 < (x9.length : Int) then ((impl_within.f (rd x9 x11) x1 x2).bind fun t426 => (if t426 = true then (impl_allWithin.l0 k x1 x2 x9 x10 (wrap64 (x11 + 1))) else (some false))) else (none)) else (none)) else (some true)
def impl_allWithin.f (k : Nat) (l0 : List Int) (a1 : Int) (a2 : Int) : Option (Bool) := impl_allWithin.l0 k a1 a2 l0 (l0.length : Int) 0
set_option maxHeartbeats 8000000 in
set_option maxRecDepth 100000 in
theorem impl_allWithin.calls (k : Nat) (A0 : Option Addr) (c0 : Nat) (l0 : List Int) (a1 : Int) (a2 : Int) (r : Bool) (w : World) (hr0 : Kd.C (Kd.int .i64) w A0 l0.length l0) (hc0 : l0.length ≤ c0) (h : impl_allWithin.f k l0 a1 a2 = some r) :
  Calls Try.prog 93 #[.slice A0 l0.length c0, .int .i64 a1, .int .i64 a2] w fun e w' => e = .returned (.bool r) ∧ Drawn0 w w' := by
 have HR0 := Aside0.mk hr0
 have HC0 := Aside0.mk hc0
 clear hr0 hc0
 have H : (impl_allWithin.l0 k a1 a2 l0 (l0.length : Int) 0) = some r := h
 clear h
 have H' := Aside0.mk H
 clear H
 go_enter Try.func93, Try.ntmps93
 go_wp2
 go_loopg [11] k (fun kq v11 w' => ∃ (x11_1 : Int), v11 = .int .i64 x11_1 ∧ Aside0 (impl_allWithin.l0 kq a1 a2 l0 (l0.length : Int) x11_1 = some r) ∧ Aside0 (kq ≤ k) ∧ Drawn0 w w')
 case atStart => exact ⟨(0), (by first | rfl | (simp; done) | (simp [*]; done)), H', ⟨Nat.le_refl _⟩, by repeat (first | exact Drawn0.refl _ | apply Drawn0.step)⟩
 case round =>
  clear H'
  obtain ⟨x11_1, rfl, HA, HK1, ⟨m1, rfl⟩⟩ := hrel
  cases gk with
  | zero => exact absurd HA.out (by simp [impl_allWithin.l0])
  | succ k1 =>
   have H := HA.out
   clear HA
   simp only [impl_allWithin.l0] at H
   by_cases c4 : x11_1 < (l0.length : Int)
   ·rw [if_pos c4] at H
    have c4b0 : decide (x11_1 < (l0.length : Int)) = true := decide_eq_true c4
    clear c4
    by_cases c5 : 0 ≤ x11_1
    ·rw [if_pos c5] at H
     have c5b0 : decide (0 ≤ x11_1) = true := decide_eq_true c5
     clear c5
     by_cases c6 : x11_1 < (l0.length : Int)
     ·rw [if_pos c6] at H
      have c6b0 : decide (x11_1 < (l0.length : Int)) = true := decide_eq_true c6
      clear c6
      replace H := Option.bind_eq_some_iff.mp H
      obtain ⟨t426, A70, H⟩ := H
      replace H : (if t426 = true then (impl_allWithin.l0 k1 a1 a2 l0 (l0.length : Int) (wrap64 (x11_1 + 1))) else (some false)) = some r := H
      have A7 := Aside0.mk A70
      clear A70
      by_cases c8 : t426 = true
      ·subst c8
       have H1 : (impl_allWithin.l0 k1 a1 a2 l0 (l0.length : Int) (wrap64 (x11_1 + 1))) = some r := by rw [if_pos rfl] at H; exact H
       clear H
       have H := H1
       clear H1
       have H' := Aside0.mk H
       clear H
       have p425 : 0 ≤ (x11_1 : Int) := of_decide_eq_true (by first | (with_reducible assumption) | assumption)
       have q425 : x11_1 < (l0.length : Int) := of_decide_eq_true (by first | (with_reducible assumption) | assumption)
       obtain ⟨ad425, e425, hx425_0⟩ := Kd.at_int HR0.out x11_1 p425 q425
       cases e425
       replace p425 := eq_true p425
       replace q425 := eq_true q425
       go_wp2_with (first | ((with_reducible refine gate_callee (f := 95) rfl ?_); refine goesM_ (some 18) rfl rfl Try.func95 (by kernel_rfl) rfl #[.int .i64 (rd l0 x11_1), .int .i64 a1, .int .i64 a2] rfl ?_; (with_reducible refine (impl_within.calls (rd l0 x11_1) a1 a2 true _ A7.out).mono ?_); rintro e w' ⟨rfl, ⟨nd, rfl⟩⟩; refine ⟨_, rfl, ?_⟩))
       go_roundg k1
       case measure => have := HK1.out; omega
       case rel => exact ⟨(wrap64 (x11_1 + 1)), (by first | rfl | (simp; done) | (simp [*]; done)), H', ⟨by have := HK1.out; omega⟩, by repeat (first | exact Drawn0.refl _ | apply Drawn0.step)⟩
      replace c8 := Bool.eq_false_iff.mpr c8
      subst c8
      have H1 : (some false) = some r := by rw [if_neg (show ¬ (false = true) by decide)] at H; exact H
      clear H
      have H := H1
      clear H1
      obtain rfl := Option.some.inj H
      have p425 : 0 ≤ (x11_1 : Int) := of_decide_eq_true (by first | (with_reducible assumption) | assumption)
      have q425 : x11_1 < (l0.length : Int) := of_decide_eq_true (by first | (with_reducible assumption) | assumption)
      obtain ⟨ad425, e425, hx425_0⟩ := Kd.at_int HR0.out x11_1 p425 q425
      cases e425
      replace p425 := eq_true p425
      replace q425 := eq_true q425
      go_wp2_with (first | ((with_reducible refine gate_callee (f := 95) rfl ?_); refine goesM_ (some 18) rfl rfl Try.func95 (by kernel_rfl) rfl #[.int .i64 (rd l0 x11_1), .int .i64 a1, .int .i64 a2] rfl ?_; (with_reducible refine (impl_within.calls (rd l0 x11_1) a1 a2 false _ A7.out).mono ?_); rintro e w' ⟨rfl, ⟨nd, rfl⟩⟩; refine ⟨_, rfl, ?_⟩))
      go_ret
      exact ⟨by first | rfl | (simp; done) | (simp [*]; done), by repeat (first | exact Drawn0.refl _ | apply Drawn0.step)⟩
     rw [if_neg c6] at H
     exact absurd H (by simp)
    rw [if_neg c5] at H
    exact absurd H (by simp)
   rw [if_neg c4] at H
   have c4b0 : decide (x11_1 < (l0.length : Int)) = false := decide_eq_false c4
   clear c4
   obtain rfl := Option.some.inj H
   go_wp2
   go_ret
   exact ⟨by first | rfl | (simp; done) | (simp [*]; done), by repeat (first | exact Drawn0.refl _ | apply Drawn0.step)⟩
end Go.Proofs.Ytnebapnfkolflaa.P
end
section
namespace Go.Proofs.Ytnebapnfkolflaa.P
open Go.RowKit Go.Proofs.YtnebapnfkolflaaW.PrintWords Go.Proofs.YtnebapnfkolflaaW.PrintLast Go.Proofs.YtnebapnfkolflaaW.PrintMore
attribute [local go_sem] max2_int min2_int max_two min_two max_three min_three max_four min_four
set_option linter.unusedVariables false
set_option linter.unusedSimpArgs false
def impl_DivisorOk.f (k : Nat) (a0_0 : Int) (l0_1 : List (S70)) (l1 : List Int) : Option (Bool) := (impl_GraphOk.f k a0_0 l0_1).bind fun t428 => (if t428 = true then (if (l1.length : Int) = a0_0 then ((impl_allWithin.f k l1 (-60) 60).bind fun t429 => (some t429)) else (some false)) else (some false))
set_option maxHeartbeats 8000000 in
set_option maxRecDepth 100000 in
theorem impl_DivisorOk.calls (k : Nat) (a0_0 : Int) (A0_1 : Option Addr) (c0_1 : Nat) (l0_1 : List (S70)) (A1 : Option Addr) (c1 : Nat) (l1 : List Int) (r : Bool) (w : World) (hr0_1 : Kd.C k70 w A0_1 l0_1.length l0_1) (hc0_1 : l0_1.length ≤ c0_1) (hr1 : Kd.C (Kd.int .i64) w A1 l1.length l1) (hc1 : l1.length ≤ c1) (h : impl_DivisorOk.f k a0_0 l0_1 l1 = some r) :
  Calls Try.prog 85 #[.agg #[.int .i64 a0_0, .slice A0_1 l0_1.length c0_1], .slice A1 l1.length c1] w fun e w' => e = .returned (.bool r) ∧ Below w.heap.size w w' := by
 have hu25 := Try.underlying25
 have HR0_1 := Aside0.mk hr0_1
 have HC0_1 := Aside0.mk hc0_1
 clear hr0_1 hc0_1
 have HR1 := Aside0.mk hr1
 have HC1 := Aside0.mk hc1
 clear hr1 hc1
 have HB := Aside0.mk (Below.refl w.heap.size w)
 have H : ((impl_GraphOk.f k a0_0 l0_1).bind fun t428 => (if t428 = true then (if (l1.length : Int) = a0_0 then ((impl_allWithin.f k l1 (-60) 60).bind fun t429 => (some t429)) else (some false)) else (some false))) = some r := h
 clear h
 replace H := Option.bind_eq_some_iff.mp H
 obtain ⟨t428, A30, H⟩ := H
 replace H : (if t428 = true then (if (l1.length : Int) = a0_0 then ((impl_allWithin.f k l1 (-60) 60).bind fun t429 => (some t429)) else (some false)) else (some false)) = some r := H
 have A3 := Aside0.mk A30
 clear A30
 by_cases c4 : t428 = true
 ·subst c4
  have H1 : (if (l1.length : Int) = a0_0 then ((impl_allWithin.f k l1 (-60) 60).bind fun t429 => (some t429)) else (some false)) = some r := by rw [if_pos rfl] at H; exact H
  clear H
  have H := H1
  clear H1
  by_cases c5 : (l1.length : Int) = a0_0
  ·rw [if_pos c5] at H
   have c5b0 : ((l1.length : Int) == a0_0) = true := beq_iff_eq.mpr c5
   have c5b1 : ((l1.length : Int) != a0_0) = false := bne_eq_false_iff_eq.mpr c5
   clear c5
   replace H := Option.bind_eq_some_iff.mp H
   obtain ⟨t429, A60, H⟩ := H
   replace H : (some t429) = some r := H
   have A6 := Aside0.mk A60
   clear A60
   obtain rfl := Option.some.inj H
   go_enter Try.func85, Try.ntmps85
   go_wp2_with (first | ((with_reducible refine gate_dst (N := 2) rfl ?_); (try (refine gate_guard (by rfl) ?_; dsimp only)); refine box_event ?hg (N := 2) ?hd (cs := #[.int .i64 a0_0, .slice A0_1 l0_1.length c0_1]) (t := 25) ?hr ?_; (case hd => rfl); (case hg => rfl); (case hr => first | (go_simp; done) | (go_simp; rfl)); intro gb427 hg w7 hbox hb; have BK427 := Aside0.mk (hbox); have GW427 := Aside0.mk ((by rw [hg]; exact (below_size (Lz HB)) : w.heap.size ≤ gb427)); have GE427 := Aside0.mk ((by rw [hg]; exact (below_size (Lz HB)) : w.heap.size ≤ gb427)); replace HB := Aside0.mk (below_step (Lz HB) hb); clear hb hbox hg; have hcz8_0 : w7.cell? ⟨gb427, 0, none⟩ = some (.int .i64 a0_0) := (blk_cell BK427.out 0).trans rfl; have hcz8_1 : w7.cell? ⟨gb427, 1, none⟩ = some (.slice A0_1 l0_1.length c0_1) := (blk_cell BK427.out 1).trans rfl; have hfz8_0 := blk_frozen BK427.out 0; have hfz8_1 := blk_frozen BK427.out 1) | ((with_reducible refine gate_callee (f := 19) rfl ?_); refine goesM_ (some 6) rfl rfl Try.func19 (by kernel_rfl) rfl #[.agg #[.int .i64 a0_0, .slice A0_1 l0_1.length c0_1]] rfl ?_; (with_reducible refine (impl_GraphOk.calls k a0_0 _ _ l0_1 true _ ?side1 ?side2 A3.out).mono ?_); (case side1 => exact Cz ((Kd.C_below HR0_1.out HB.out))); (case side2 => exact HC0_1.out); rintro e w9 ⟨rfl, hb⟩; refine ⟨_, rfl, ?_⟩; replace BK427 := Aside0.mk (blk_below (g := gb427) (o := .cells #[.int .i64 a0_0, .slice A0_1 l0_1.length c0_1] 25 (0, 0)) (Bz BK427) hb); replace HB := Aside0.mk (below_step (by exact Lz1 HB GE427) hb); (try clear hb); (try clear hb2); (try clear hk); (try clear hi); have hcz10_0 : w9.cell? ⟨gb427, 0, none⟩ = some (.int .i64 a0_0) := (blk_cell BK427.out 0).trans rfl; have hcz10_1 : w9.cell? ⟨gb427, 1, none⟩ = some (.slice A0_1 l0_1.length c0_1) := (blk_cell BK427.out 1).trans rfl; have hfz10_0 := blk_frozen BK427.out 0; have hfz10_1 := blk_frozen BK427.out 1) | (go_at_call 93; (with_reducible refine (impl_allWithin.calls k _ _ l1 (-60) 60 t429 _ ?side1 ?side2 A6.out).mono ?_); (case side1 => exact Cz ((Kd.C_below HR1.out HB.out))); (case side2 => exact HC1.out); rintro e w' ⟨rfl, ⟨nd, rfl⟩⟩))
   go_ret
   exact ⟨by first | rfl | (simp [errW_none, errW_some] <;> rfl) | (simp [*, errW_none, errW_some] <;> rfl), by exact Lz1 HB GE427⟩
  rw [if_neg c5] at H
  have c5b0 : ((l1.length : Int) == a0_0) = false := beq_eq_false_iff_ne.mpr c5
  have c5b1 : ((l1.length : Int) != a0_0) = true := bne_iff_ne.mpr c5
  obtain rfl := Option.some.inj H
  go_enter Try.func85, Try.ntmps85
  go_wp2_with (first | ((with_reducible refine gate_dst (N := 2) rfl ?_); (try (refine gate_guard (by rfl) ?_; dsimp only)); refine box_event ?hg (N := 2) ?hd (cs := #[.int .i64 a0_0, .slice A0_1 l0_1.length c0_1]) (t := 25) ?hr ?_; (case hd => rfl); (case hg => rfl); (case hr => first | (go_simp; done) | (go_simp; rfl)); intro gb427 hg w11 hbox hb; have BK427 := Aside0.mk (hbox); have GW427 := Aside0.mk ((by rw [hg]; exact (below_size (Lz HB)) : w.heap.size ≤ gb427)); have GE427 := Aside0.mk ((by rw [hg]; exact (below_size (Lz HB)) : w.heap.size ≤ gb427)); replace HB := Aside0.mk (below_step (Lz HB) hb); clear hb hbox hg; have hcz12_0 : w11.cell? ⟨gb427, 0, none⟩ = some (.int .i64 a0_0) := (blk_cell BK427.out 0).trans rfl; have hcz12_1 : w11.cell? ⟨gb427, 1, none⟩ = some (.slice A0_1 l0_1.length c0_1) := (blk_cell BK427.out 1).trans rfl; have hfz12_0 := blk_frozen BK427.out 0; have hfz12_1 := blk_frozen BK427.out 1) | ((with_reducible refine gate_callee (f := 19) rfl ?_); refine goesM_ (some 6) rfl rfl Try.func19 (by kernel_rfl) rfl #[.agg #[.int .i64 a0_0, .slice A0_1 l0_1.length c0_1]] rfl ?_; (with_reducible refine (impl_GraphOk.calls k a0_0 _ _ l0_1 true _ ?side1 ?side2 A3.out).mono ?_); (case side1 => exact Cz ((Kd.C_below HR0_1.out HB.out))); (case side2 => exact HC0_1.out); rintro e w13 ⟨rfl, hb⟩; refine ⟨_, rfl, ?_⟩; replace BK427 := Aside0.mk (blk_below (g := gb427) (o := .cells #[.int .i64 a0_0, .slice A0_1 l0_1.length c0_1] 25 (0, 0)) (Bz BK427) hb); replace HB := Aside0.mk (below_step (by exact Lz1 HB GE427) hb); (try clear hb); (try clear hb2); (try clear hk); (try clear hi); have hcz14_0 : w13.cell? ⟨gb427, 0, none⟩ = some (.int .i64 a0_0) := (blk_cell BK427.out 0).trans rfl; have hcz14_1 : w13.cell? ⟨gb427, 1, none⟩ = some (.slice A0_1 l0_1.length c0_1) := (blk_cell BK427.out 1).trans rfl; have hfz14_0 := blk_frozen BK427.out 0; have hfz14_1 := blk_frozen BK427.out 1))
  go_ret
  exact ⟨by first | rfl | (simp [errW_none, errW_some] <;> rfl) | (simp [*, errW_none, errW_some] <;> rfl), by exact Lz1 HB GE427⟩
 replace c4 := Bool.eq_false_iff.mpr c4
 subst c4
 have H1 : (some false) = some r := by rw [if_neg (show ¬ (false = true) by decide)] at H; exact H
 clear H
 have H := H1
 clear H1
 obtain rfl := Option.some.inj H
 go_enter Try.func85, Try.ntmps85
 go_wp2_with (first | ((with_reducible refine gate_dst (N := 2) rfl ?_); (try (refine gate_guard (by rfl) ?_; dsimp only)); refine box_event ?hg (N := 2) ?hd (cs := #[.int .i64 a0_0, .slice A0_1 l0_1.length c0_1]) (t := 25) ?hr ?_; (case hd => rfl); (case hg => rfl); (case hr => first | (go_simp; done) | (go_simp; rfl)); intro gb427 hg w15 hbox hb; have BK427 := Aside0.mk (hbox); have GW427 := Aside0.mk ((by rw [hg]; exact (below_size (Lz HB)) : w.heap.size ≤ gb427)); have GE427 := Aside0.mk ((by rw [hg]; exact (below_size (Lz HB)) : w.heap.size ≤ gb427)); replace HB := Aside0.mk (below_step (Lz HB) hb); clear hb hbox hg; have hcz16_0 : w15.cell? ⟨gb427, 0, none⟩ = some (.int .i64 a0_0) := (blk_cell BK427.out 0).trans rfl; have hcz16_1 : w15.cell? ⟨gb427, 1, none⟩ = some (.slice A0_1 l0_1.length c0_1) := (blk_cell BK427.out 1).trans rfl; have hfz16_0 := blk_frozen BK427.out 0; have hfz16_1 := blk_frozen BK427.out 1) | ((with_reducible refine gate_callee (f := 19) rfl ?_); refine goesM_ (some 6) rfl rfl Try.func19 (by kernel_rfl) rfl #[.agg #[.int .i64 a0_0, .slice A0_1 l0_1.length c0_1]] rfl ?_; (with_reducible refine (impl_GraphOk.calls k a0_0 _ _ l0_1 false _ ?side1 ?side2 A3.out).mono ?_); (case side1 => exact Cz ((Kd.C_below HR0_1.out HB.out))); (case side2 => exact HC0_1.out); rintro e w17 ⟨rfl, hb⟩; refine ⟨_, rfl, ?_⟩; replace BK427 := Aside0.mk (blk_below (g := gb427) (o := .cells #[.int .i64 a0_0, .slice A0_1 l0_1.length c0_1] 25 (0, 0)) (Bz BK427) hb); replace HB := Aside0.mk (below_step (by exact Lz1 HB GE427) hb); (try clear hb); (try clear hb2); (try clear hk); (try clear hi)))
 go_ret
 exact ⟨by first | rfl | (simp [errW_none, errW_some] <;> rfl) | (simp [*, errW_none, errW_some] <;> rfl), by exact Lz1 HB GE427⟩
end Go.Proofs.Ytnebapnfkolflaa.P
end
section
namespace Go.Proofs.Ytnebapnfkolflaa.P
open Go.RowKit Go.Proofs.YtnebapnfkolflaaW.PrintWords Go.Proofs.YtnebapnfkolflaaW.PrintLast Go.Proofs.YtnebapnfkolflaaW.PrintMore
attribute [local go_sem] max2_int min2_int max_two min_two max_three min_three max_four min_four
set_option linter.unusedVariables false
set_option linter.unusedSimpArgs false
def impl_ReducedOf.f (k : Nat) (a0_0 : Int) (l0_1 : List (S70)) (l1 : List Int) (a2 : Int) : Option (List Int × Bool) := (impl_DivisorOk.f k a0_0 l0_1 l1).bind fun t431 => (if t431 = true then ((impl_isVertex.f k a0_0 l0_1 a2).bind fun t432 => (if t432 = true then ((impl_reduce.f k a0_0 l0_1 l1 a2).bind fun bt433 => (some (bt433.1, true))) else (some (([] : List Int), false)))) else (some (([] : List Int), false)))
set_option maxHeartbeats 8000000 in
set_option maxRecDepth 100000 in
theorem impl_ReducedOf.calls (k : Nat) (a0_0 : Int) (A0_1 : Option Addr) (c0_1 : Nat) (l0_1 : List (S70)) (A1 : Option Addr) (c1 : Nat) (l1 : List Int) (a2 : Int) (r1 : List Int) (r2 : Bool) (w : World) (hr0_1 : Kd.C k70 w A0_1 l0_1.length l0_1) (hc0_1 : l0_1.length ≤ c0_1) (hr1 : Kd.C (Kd.int .i64) w A1 l1.length l1) (hc1 : l1.length ≤ c1) (h : impl_ReducedOf.f k a0_0 l0_1 l1 a2 = some (r1, r2)) :
  Calls Try.prog 42 #[.agg #[.int .i64 a0_0, .slice A0_1 l0_1.length c0_1], .slice A1 l1.length c1, .int .i64 a2] w fun e w' => ∃ v0_ : Value, e = .returned (.tuple #[v0_, .bool r2]) ∧ Kd.R (Kd.int .i64) 3 w' w.heap.size (fun _ => True) v0_ r1 ∧ Below w.heap.size w w' := by
 have hu25 := Try.underlying25
 have HR0_1 := Aside0.mk hr0_1
 have HC0_1 := Aside0.mk hc0_1
 clear hr0_1 hc0_1
 have HR1 := Aside0.mk hr1
 have HC1 := Aside0.mk hc1
 clear hr1 hc1
 have HB := Aside0.mk (Below.refl w.heap.size w)
 have H : ((impl_DivisorOk.f k a0_0 l0_1 l1).bind fun t431 => (if t431 = true then ((impl_isVertex.f k a0_0 l0_1 a2).bind fun t432 => (if t432 = true then ((impl_reduce.f k a0_0 l0_1 l1 a2).bind fun bt433 => (some (bt433.1, true))) else (some (([] : List Int), false)))) else (some (([] : List Int), false)))) = some (r1, r2) := h
 clear h
 replace H := Option.bind_eq_some_iff.mp H
 obtain ⟨t431, A40, H⟩ := H
 replace H : (if t431 = true then ((impl_isVertex.f k a0_0 l0_1 a2).bind fun t432 => (if t432 = true then ((impl_reduce.f k a0_0 l0_1 l1 a2).bind fun bt433 => (some (bt433.1, true))) else (some (([] : List Int), false)))) else (some (([] : List Int), false))) = some (r1, r2) := H
 have A4 := Aside0.mk A40
 clear A40
 by_cases c5 : t431 = true
 ·subst c5
  have H1 : ((impl_isVertex.f k a0_0 l0_1 a2).bind fun t432 => (if t432 = true then ((impl_reduce.f k a0_0 l0_1 l1 a2).bind fun bt433 => (some (bt433.1, true))) else (some (([] : List Int), false)))) = some (r1, r2) := by rw [if_pos rfl] at H; exact H
  clear H
  have H := H1
  clear H1
  replace H := Option.bind_eq_some_iff.mp H
  obtain ⟨t432, A60, H⟩ := H
  replace H : (if t432 = true then ((impl_reduce.f k a0_0 l0_1 l1 a2).bind fun bt433 => (some (bt433.1, true))) else (some (([] : List Int), false))) = some (r1, r2) := H
  have A6 := Aside0.mk A60
  clear A60
  by_cases c7 : t432 = true
  ·subst c7
   have H1 : ((impl_reduce.f k a0_0 l0_1 l1 a2).bind fun bt433 => (some (bt433.1, true))) = some (r1, r2) := by rw [if_pos rfl] at H; exact H
   clear H
   have H := H1
   clear H1
   replace H := Option.bind_eq_some_iff.mp H
   obtain ⟨⟨t433, t436⟩, A80, H⟩ := H
   replace H : (some (t433, true)) = some (r1, r2) := H
   have A8 := Aside0.mk A80
   clear A80
   simp only [Option.some.injEq, Prod.mk.injEq] at H
   obtain ⟨rfl, rfl⟩ := H
   go_enter Try.func42, Try.ntmps42
   go_wp2_with (first | ((with_reducible refine gate_dst (N := 3) rfl ?_); refine box_event ?hg (N := 3) ?hd (cs := #[.int .i64 a0_0, .slice A0_1 l0_1.length c0_1]) (t := 25) ?hr ?_; (case hd => rfl); (case hg => rfl); (case hr => first | (go_simp; done) | (go_simp; rfl)); intro gb430 hg w9 hbox hb; have BK430 := Aside0.mk (hbox); have GW430 := Aside0.mk ((by rw [hg]; exact (below_size (Lz HB)) : w.heap.size ≤ gb430)); have GE430 := Aside0.mk ((by rw [hg]; exact (below_size (Lz HB)) : w.heap.size ≤ gb430)); replace HB := Aside0.mk (below_step (Lz HB) hb); clear hb hbox hg; have hcz10_0 : w9.cell? ⟨gb430, 0, none⟩ = some (.int .i64 a0_0) := (blk_cell BK430.out 0).trans rfl; have hcz10_1 : w9.cell? ⟨gb430, 1, none⟩ = some (.slice A0_1 l0_1.length c0_1) := (blk_cell BK430.out 1).trans rfl; have hfz10_0 := blk_frozen BK430.out 0; have hfz10_1 := blk_frozen BK430.out 1) | ((with_reducible refine gate_callee (f := 85) rfl ?_); refine goesM_ (some 12) rfl rfl Try.func85 (by kernel_rfl) rfl #[.agg #[.int .i64 a0_0, .slice A0_1 l0_1.length c0_1], .slice A1 l1.length c1] rfl ?_; (with_reducible refine (impl_DivisorOk.calls k a0_0 _ _ l0_1 _ _ l1 true _ ?side1 ?side2 ?side3 ?side4 A4.out).mono ?_); (case side1 => exact Cz ((Kd.C_below HR0_1.out HB.out))); (case side2 => exact HC0_1.out); (case side3 => exact Cz ((Kd.C_below HR1.out HB.out))); (case side4 => exact HC1.out); rintro e w11 ⟨rfl, hb⟩; refine ⟨_, rfl, ?_⟩; replace BK430 := Aside0.mk (blk_below (g := gb430) (o := .cells #[.int .i64 a0_0, .slice A0_1 l0_1.length c0_1] 25 (0, 0)) (Bz BK430) hb); replace HB := Aside0.mk (below_step (by exact Lz1 HB GE430) hb); (try clear hb); (try clear hb2); (try clear hk); (try clear hi); have hcz12_0 : w11.cell? ⟨gb430, 0, none⟩ = some (.int .i64 a0_0) := (blk_cell BK430.out 0).trans rfl; have hcz12_1 : w11.cell? ⟨gb430, 1, none⟩ = some (.slice A0_1 l0_1.length c0_1) := (blk_cell BK430.out 1).trans rfl; have hfz12_0 := blk_frozen BK430.out 0; have hfz12_1 := blk_frozen BK430.out 1) | (go_at_call 81; (with_reducible refine (impl_isVertex.calls k a0_0 _ _ l0_1 a2 true _ ?side1 ?side2 A6.out).mono ?_); (case side1 => exact Cz ((Kd.C_below HR0_1.out HB.out))); (case side2 => exact HC0_1.out); rintro e w13 ⟨rfl, hb⟩; replace BK430 := Aside0.mk (blk_below (g := gb430) (o := .cells #[.int .i64 a0_0, .slice A0_1 l0_1.length c0_1] 25 (0, 0)) (Bz BK430) hb); replace HB := Aside0.mk (below_step (by exact Lz1 HB GE430) hb); (try clear hb); (try clear hb2); (try clear hk); (try clear hi); have hcz14_0 : w13.cell? ⟨gb430, 0, none⟩ = some (.int .i64 a0_0) := (blk_cell BK430.out 0).trans rfl; have hcz14_1 : w13.cell? ⟨gb430, 1, none⟩ = some (.slice A0_1 l0_1.length c0_1) := (blk_cell BK430.out 1).trans rfl; have hfz14_0 := blk_frozen BK430.out 0; have hfz14_1 := blk_frozen BK430.out 1) | ((with_reducible refine gate_callee (f := 82) rfl ?_); refine goesM_ (some 24) rfl rfl Try.func82 (by kernel_rfl) rfl #[.agg #[.int .i64 a0_0, .slice A0_1 l0_1.length c0_1], .slice A1 l1.length c1, .int .i64 a2] rfl ?_; (with_reducible refine (impl_reduce.calls k a0_0 _ _ l0_1 _ _ l1 a2 t433 t436 _ ?side1 ?side2 ?side3 ?side4 A8.out).mono ?_); (case side1 => exact Cz ((Kd.C_below HR0_1.out HB.out))); (case side2 => exact HC0_1.out); (case side3 => exact Cz ((Kd.C_below HR1.out HB.out))); (case side4 => exact HC1.out); rintro e w15 ⟨v434, v437, rfl, ho0, ho1, hb⟩; refine ⟨_, rfl, ?_⟩; have HO435 := Aside0.mk (Kd.R_lower ho0 (below_size (by exact Lz1 HB GE430))); have HO438 := Aside0.mk (Kd.R_lower ho1 (below_size (by exact Lz1 HB GE430))); replace BK430 := Aside0.mk (blk_below (g := gb430) (o := .cells #[.int .i64 a0_0, .slice A0_1 l0_1.length c0_1] 25 (0, 0)) (Bz BK430) hb); replace HB := Aside0.mk (below_step (by exact Lz1 HB GE430) hb); (try clear hb); (try clear ho0); (try clear ho1)))
   go_ret2
   exact ⟨_, by first | rfl | (simp [errW_none, errW_some] <;> rfl) | (simp [*, errW_none, errW_some] <;> rfl), by (with_reducible repeat (first | apply Kd.R_alloc | apply Kd.R_drewN | apply Kd.R_drew)); exact Kd.R_mono HO435.out (fun _ hk => trivial), by exact Lz1 HB GE430⟩
  replace c7 := Bool.eq_false_iff.mpr c7
  subst c7
  have H1 : (some (([] : List Int), false)) = some (r1, r2) := by rw [if_neg (show ¬ (false = true) by decide)] at H; exact H
  clear H
  have H := H1
  clear H1
  simp only [Option.some.injEq, Prod.mk.injEq] at H
  obtain ⟨rfl, rfl⟩ := H
  go_enter Try.func42, Try.ntmps42
  go_wp2_with (first | ((with_reducible refine gate_dst (N := 3) rfl ?_); refine box_event ?hg (N := 3) ?hd (cs := #[.int .i64 a0_0, .slice A0_1 l0_1.length c0_1]) (t := 25) ?hr ?_; (case hd => rfl); (case hg => rfl); (case hr => first | (go_simp; done) | (go_simp; rfl)); intro gb430 hg w16 hbox hb; have BK430 := Aside0.mk (hbox); have GW430 := Aside0.mk ((by rw [hg]; exact (below_size (Lz HB)) : w.heap.size ≤ gb430)); have GE430 := Aside0.mk ((by rw [hg]; exact (below_size (Lz HB)) : w.heap.size ≤ gb430)); replace HB := Aside0.mk (below_step (Lz HB) hb); clear hb hbox hg; have hcz17_0 : w16.cell? ⟨gb430, 0, none⟩ = some (.int .i64 a0_0) := (blk_cell BK430.out 0).trans rfl; have hcz17_1 : w16.cell? ⟨gb430, 1, none⟩ = some (.slice A0_1 l0_1.length c0_1) := (blk_cell BK430.out 1).trans rfl; have hfz17_0 := blk_frozen BK430.out 0; have hfz17_1 := blk_frozen BK430.out 1) | ((with_reducible refine gate_callee (f := 85) rfl ?_); refine goesM_ (some 12) rfl rfl Try.func85 (by kernel_rfl) rfl #[.agg #[.int .i64 a0_0, .slice A0_1 l0_1.length c0_1], .slice A1 l1.length c1] rfl ?_; (with_reducible refine (impl_DivisorOk.calls k a0_0 _ _ l0_1 _ _ l1 true _ ?side1 ?side2 ?side3 ?side4 A4.out).mono ?_); (case side1 => exact Cz ((Kd.C_below HR0_1.out HB.out))); (case side2 => exact HC0_1.out); (case side3 => exact Cz ((Kd.C_below HR1.out HB.out))); (case side4 => exact HC1.out); rintro e w18 ⟨rfl, hb⟩; refine ⟨_, rfl, ?_⟩; replace BK430 := Aside0.mk (blk_below (g := gb430) (o := .cells #[.int .i64 a0_0, .slice A0_1 l0_1.length c0_1] 25 (0, 0)) (Bz BK430) hb); replace HB := Aside0.mk (below_step (by exact Lz1 HB GE430) hb); (try clear hb); (try clear hb2); (try clear hk); (try clear hi); have hcz19_0 : w18.cell? ⟨gb430, 0, none⟩ = some (.int .i64 a0_0) := (blk_cell BK430.out 0).trans rfl; have hcz19_1 : w18.cell? ⟨gb430, 1, none⟩ = some (.slice A0_1 l0_1.length c0_1) := (blk_cell BK430.out 1).trans rfl; have hfz19_0 := blk_frozen BK430.out 0; have hfz19_1 := blk_frozen BK430.out 1) | (go_at_call 81; (with_reducible refine (impl_isVertex.calls k a0_0 _ _ l0_1 a2 false _ ?side1 ?side2 A6.out).mono ?_); (case side1 => exact Cz ((Kd.C_below HR0_1.out HB.out))); (case side2 => exact HC0_1.out); rintro e w20 ⟨rfl, hb⟩; replace BK430 := Aside0.mk (blk_below (g := gb430) (o := .cells #[.int .i64 a0_0, .slice A0_1 l0_1.length c0_1] 25 (0, 0)) (Bz BK430) hb); replace HB := Aside0.mk (below_step (by exact Lz1 HB GE430) hb); (try clear hb); (try clear hb2); (try clear hk); (try clear hi)))
  go_ret2
  exact ⟨_, by first | rfl | (simp [errW_none, errW_some] <;> rfl) | (simp [*, errW_none, errW_some] <;> rfl), by first | exact Kd.R_nil _ _ _ _ _ | exact Kd.N_nil _ _ _ _ _ | exact Kd.V_nil _ _ _ _ _ | exact Kd.Q_nil _ _ _ _ _ | exact Kd.S_nil _ _ _ _ _, by exact Lz1 HB GE430⟩
 replace c5 := Bool.eq_false_iff.mpr c5
 subst c5
 have H1 : (some (([] : List Int), false)) = some (r1, r2) := by rw [if_neg (show ¬ (false = true) by decide)] at H; exact H
 clear H
 have H := H1
 clear H1
 simp only [Option.some.injEq, Prod.mk.injEq] at H
 obtain ⟨rfl, rfl⟩ := H
 go_enter Try.func42, Try.ntmps42
 go_wp2_with (first | ((with_reducible refine gate_dst (N := 3) rfl ?_); refine box_event ?hg (N := 3) ?hd (cs := #[.int .i64 a0_0, .slice A0_1 l0_1.length c0_1]) (t := 25) ?hr ?_; (case hd => rfl); (case hg => rfl); (case hr => first | (go_simp; done) | (go_simp; rfl)); intro gb430 hg w21 hbox hb; have BK430 := Aside0.mk (hbox); have GW430 := Aside0.mk ((by rw [hg]; exact (below_size (Lz HB)) : w.heap.size ≤ gb430)); have GE430 := Aside0.mk ((by rw [hg]; exact (below_size (Lz HB)) : w.heap.size ≤ gb430)); replace HB := Aside0.mk (below_step (Lz HB) hb); clear hb hbox hg; have hcz22_0 : w21.cell? ⟨gb430, 0, none⟩ = some (.int .i64 a0_0) := (blk_cell BK430.out 0).trans rfl; have hcz22_1 : w21.cell? ⟨gb430, 1, none⟩ = some (.slice A0_1 l0_1.length c0_1) := (blk_cell BK430.out 1).trans rfl; have hfz22_0 := blk_frozen BK430.out 0; have hfz22_1 := blk_frozen BK430.out 1) | ((with_reducible refine gate_callee (f := 85) rfl ?_); refine goesM_ (some 12) rfl rfl Try.func85 (by kernel_rfl) rfl #[.agg #[.int .i64 a0_0, .slice A0_1 l0_1.length c0_1], .slice A1 l1.length c1] rfl ?_; (with_reducible refine (impl_DivisorOk.calls k a0_0 _ _ l0_1 _ _ l1 false _ ?side1 ?side2 ?side3 ?side4 A4.out).mono ?_); (case side1 => exact Cz ((Kd.C_below HR0_1.out HB.out))); (case side2 => exact HC0_1.out); (case side3 => exact Cz ((Kd.C_below HR1.out HB.out))); (case side4 => exact HC1.out); rintro e w23 ⟨rfl, hb⟩; refine ⟨_, rfl, ?_⟩; replace BK430 := Aside0.mk (blk_below (g := gb430) (o := .cells #[.int .i64 a0_0, .slice A0_1 l0_1.length c0_1] 25 (0, 0)) (Bz BK430) hb); replace HB := Aside0.mk (below_step (by exact Lz1 HB GE430) hb); (try clear hb); (try clear hb2); (try clear hk); (try clear hi)))
 go_ret2
 exact ⟨_, by first | rfl | (simp [errW_none, errW_some] <;> rfl) | (simp [*, errW_none, errW_some] <;> rfl), by first | exact Kd.R_nil _ _ _ _ _ | exact Kd.N_nil _ _ _ _ _ | exact Kd.V_nil _ _ _ _ _ | exact Kd.Q_nil _ _ _ _ _ | exact Kd.S_nil _ _ _ _ _, by exact Lz1 HB GE430⟩
end Go.Proofs.Ytnebapnfkolflaa.P
end
section
namespace Go.Proofs.Ytnebapnfkolflaa.P
open Go.RowKit Go.Proofs.YtnebapnfkolflaaW.PrintWords Go.Proofs.YtnebapnfkolflaaW.PrintLast Go.Proofs.YtnebapnfkolflaaW.PrintMore
attribute [local go_sem] max2_int min2_int max_two min_two max_three min_three max_four min_four
set_option linter.unusedVariables false
set_option linter.unusedSimpArgs false
def impl_RepresentativeOf.f (k : Nat) (a0_0 : Int) (l0_1 : List (S70)) (l1 : List Int) : Option (List Int × Bool) := (impl_ReducedOf.f k a0_0 l0_1 l1 0).bind fun bt654 => (some (bt654.1, bt654.2))
set_option maxHeartbeats 8000000 in
set_option maxRecDepth 100000 in
theorem impl_RepresentativeOf.calls (k : Nat) (a0_0 : Int) (A0_1 : Option Addr) (c0_1 : Nat) (l0_1 : List (S70)) (A1 : Option Addr) (c1 : Nat) (l1 : List Int) (r1 : List Int) (r2 : Bool) (w : World) (hr0_1 : Kd.C k70 w A0_1 l0_1.length l0_1) (hc0_1 : l0_1.length ≤ c0_1) (hr1 : Kd.C (Kd.int .i64) w A1 l1.length l1) (hc1 : l1.length ≤ c1) (h : impl_RepresentativeOf.f k a0_0 l0_1 l1 = some (r1, r2)) :
  Calls Try.prog 46 #[.agg #[.int .i64 a0_0, .slice A0_1 l0_1.length c0_1], .slice A1 l1.length c1] w fun e w' => ∃ v0_ : Value, e = .returned (.tuple #[v0_, .bool r2]) ∧ Kd.R (Kd.int .i64) 3 w' w.heap.size (fun _ => True) v0_ r1 ∧ Below w.heap.size w w' := by
 have hu25 := Try.underlying25
 have HR0_1 := Aside0.mk hr0_1
 have HC0_1 := Aside0.mk hc0_1
 clear hr0_1 hc0_1
 have HR1 := Aside0.mk hr1
 have HC1 := Aside0.mk hc1
 clear hr1 hc1
 have HB := Aside0.mk (Below.refl w.heap.size w)
 have H : ((impl_ReducedOf.f k a0_0 l0_1 l1 0).bind fun bt654 => (some (bt654.1, bt654.2))) = some (r1, r2) := h
 clear h
 replace H := Option.bind_eq_some_iff.mp H
 obtain ⟨⟨t654, t657⟩, A30, H⟩ := H
 replace H : (some (t654, t657)) = some (r1, r2) := H
 have A3 := Aside0.mk A30
 clear A30
 simp only [Option.some.injEq, Prod.mk.injEq] at H
 obtain ⟨rfl, rfl⟩ := H
 go_enter Try.func46, Try.ntmps46
 go_wp2_with (first | ((with_reducible refine gate_dst (N := 2) rfl ?_); refine box_event ?hg (N := 2) ?hd (cs := #[.int .i64 a0_0, .slice A0_1 l0_1.length c0_1]) (t := 25) ?hr ?_; (case hd => rfl); (case hg => rfl); (case hr => first | (go_simp; done) | (go_simp; rfl)); intro gb653 hg w4 hbox hb; have BK653 := Aside0.mk (hbox); have GW653 := Aside0.mk ((by rw [hg]; exact (below_size (Lz HB)) : w.heap.size ≤ gb653)); have GE653 := Aside0.mk ((by rw [hg]; exact (below_size (Lz HB)) : w.heap.size ≤ gb653)); replace HB := Aside0.mk (below_step (Lz HB) hb); clear hb hbox hg; have hcz5_0 : w4.cell? ⟨gb653, 0, none⟩ = some (.int .i64 a0_0) := (blk_cell BK653.out 0).trans rfl; have hcz5_1 : w4.cell? ⟨gb653, 1, none⟩ = some (.slice A0_1 l0_1.length c0_1) := (blk_cell BK653.out 1).trans rfl; have hfz5_0 := blk_frozen BK653.out 0; have hfz5_1 := blk_frozen BK653.out 1) | ((with_reducible refine gate_callee (f := 42) rfl ?_); refine goesM_ (some 8) rfl rfl Try.func42 (by kernel_rfl) rfl #[.agg #[.int .i64 a0_0, .slice A0_1 l0_1.length c0_1], .slice A1 l1.length c1, .int .i64 0] rfl ?_; (with_reducible refine (impl_ReducedOf.calls k a0_0 _ _ l0_1 _ _ l1 0 t654 t657 _ ?side1 ?side2 ?side3 ?side4 A3.out).mono ?_); (case side1 => exact Cz ((Kd.C_below HR0_1.out HB.out))); (case side2 => exact HC0_1.out); (case side3 => exact Cz ((Kd.C_below HR1.out HB.out))); (case side4 => exact HC1.out); rintro e w6 ⟨v655, rfl, ho0, hb⟩; refine ⟨_, rfl, ?_⟩; have HO656 := Aside0.mk (Kd.R_lower ho0 (below_size (by exact Lz1 HB GE653))); replace BK653 := Aside0.mk (blk_below (g := gb653) (o := .cells #[.int .i64 a0_0, .slice A0_1 l0_1.length c0_1] 25 (0, 0)) (Bz BK653) hb); replace HB := Aside0.mk (below_step (by exact Lz1 HB GE653) hb); (try clear hb); (try clear ho0)))
 go_ret2
 exact ⟨_, by first | rfl | (simp [errW_none, errW_some] <;> rfl) | (simp [*, errW_none, errW_some] <;> rfl), by exact Rz HO656, by exact Lz1 HB GE653⟩
end Go.Proofs.Ytnebapnfkolflaa.P
end
