/- Functions of the program as plain Lean functions, and that the machine's calls answer as they do. Written for this claim by a program of this work that drives the kit's print engine; Lean checks it. -/
import Derived.Test.YtfpcgccnhpfcnaaGbf62bd544f
import Derived.Test.YtfpcgccnhpfcnaaGacf4011ac1
namespace Go.Proofs.Ytfpcgccnhpfcnaa.P
open Go.RowKit Go.Proofs.YtfpcgccnhpfcnaaW.PrintWords Go.Proofs.YtfpcgccnhpfcnaaW.PrintLast Go.Proofs.YtfpcgccnhpfcnaaW.PrintMore
attribute [local go_sem] max2_int min2_int max_two min_two max_three min_three max_four min_four   -- for this text's walks alone
set_option linter.unusedVariables false
set_option linter.unusedSimpArgs false

/-! ### spec_l04Fire: function 80 -/
def spec_l04Fire.l0 : Nat → List Int → List Int → List (S68) → Int → Int → Option (List Int)
 | 0, _, _, _, _, _ => none
 | k + 1, x2, x7, x14, x15, x16 => if x16 < x15 then (if 0 ≤ x16 then (if x16 < (x14.length : Int) then (if 0 ≤ ((rd_T68 x14 x16).f0) then (if ((rd_T68 x14 x16).f0) < (x7.length : Int) then (if ((rd_T68 x14 x16).f0) < (x2.length : Int) then (if 0 ≤ ((rd_T68 x14 x16).f1) then (if ((rd_T68 x14 x16).f1) < (x2.length : Int) then ((some (x7.set (((rd_T68 x14 x16).f0) : Int).toNat (wrap64 ((wrap64 ((rd x7 ((rd_T68 x14 x16).f0)) - (rd x2 ((rd_T68 x14 x16).f0)))) + (rd x2 ((rd_T68 x14 x16).f1)))) : List Int)).bind fun y493 => (if ((rd_T68 x14 x16).f1) < (x7.length : Int) then (spec_l04Fire.l0 k x2 (y493.set (((rd_T68 x14 x16).f1) : Int).toNat (wrap64 ((wrap64 ((rd y493 ((rd_T68 x14 x16).f1)) - (rd x2 ((rd_T68 x14 x16).f1)))) + (rd x2 ((rd_T68 x14 x16).f0))))) x14 x15 (wrap64 (x16 + 1))) else (none))) else (none)) else (none)) else (none)) else (none)) else (none)) else (none)) else (none)) else (some x7)
def spec_l04Fire.f (k : Nat) (a0_0 : Int) (l0_1 : List (S68)) (l1 : List Int) (l2 : List Int) : Option (List Int) := (some (([] : List Int) : List Int)).bind fun y482 => (if y482.length + l1.length < 17592186044416 then (spec_l04Fire.l0 k l2 (y482 ++ l1) l0_1 (l0_1.length : Int) 0) else (none))
def spec_l04Fire.T5 : Bool × List (List Nat × List Nat) := (true, [([], []), ([], []), ([1], [1]), ([], []), ([], []), ([4], [4]), ([3, 5], [3, 5]), ([6], [6]), ([], []), ([], []), ([9], [9]), ([8, 10], [8, 10]), ([11], [11]), ([7, 12], [7, 12]), ([], []), ([], []), ([15], [15]), ([14, 16], [14, 16]), ([17], [17]), ([13, 18], [13, 18]), ([0, 2, 0, 1, 2, 3, 4, 5, 6, 7, 8, 9, 10, 11, 12, 13, 14, 15, 16, 17, 18, 19], [0, 2]), ([20, 19, 0, 1, 2, 3, 4, 5, 6, 7, 8, 9, 10, 11, 12, 13, 14, 15, 16, 17, 18, 19], [19, 20])])
def spec_l04Fire.B5 : List Nat := [0, 0, 2, 0, 0, 16, 56, 120, 0, 0, 512, 1792, 3840, 8184, 0, 0, 32768, 114688, 245760, 524280, 1048575, 2097151]
theorem spec_l04Fire.tab5 : rtab .any (opsOf Try.f80 5) = spec_l04Fire.T5 := by kernel_rfl
theorem spec_l04Fire.bits5 : waitsOk spec_l04Fire.T5.2 spec_l04Fire.B5 = true := by kernel_rfl
def spec_l04Fire.T6 : Bool × List (List Nat × List Nat) := (true, [([], []), ([], []), ([1], [1]), ([], []), ([], []), ([4], [4]), ([3, 5], [3, 5]), ([6], [6]), ([], []), ([], []), ([9], [9]), ([8, 10], [8, 10]), ([11], [11]), ([7, 12], [7, 12]), ([], []), ([], []), ([15], [15]), ([14, 16], [14, 16]), ([17], [17]), ([13, 18], [13, 18]), ([0, 2, 0, 1, 2, 3, 4, 5, 6, 7, 8, 9, 10, 11, 12, 13, 14, 15, 16, 17, 18, 19], [0, 2]), ([20, 19, 0, 1, 2, 3, 4, 5, 6, 7, 8, 9, 10, 11, 12, 13, 14, 15, 16, 17, 18, 19], [19, 20])])
def spec_l04Fire.B6 : List Nat := [0, 0, 2, 0, 0, 16, 56, 120, 0, 0, 512, 1792, 3840, 8184, 0, 0, 32768, 114688, 245760, 524280, 1048575, 2097151]
theorem spec_l04Fire.tab6 : rtab .any (opsOf Try.f80 6) = spec_l04Fire.T6 := by kernel_rfl
theorem spec_l04Fire.bits6 : waitsOk spec_l04Fire.T6.2 spec_l04Fire.B6 = true := by kernel_rfl
set_option maxHeartbeats 8000000 in
set_option maxRecDepth 100000 in
theorem spec_l04Fire.calls (k : Nat) (a0_0 : Int) (A0_1 : Option Addr) (c0_1 : Nat) (l0_1 : List (S68)) (A1 : Option Addr) (c1 : Nat) (l1 : List Int) (A2 : Option Addr) (c2 : Nat) (l2 : List Int) (r : List Int) (w : World) (hr0_1 : Kd.C k68 w A0_1 l0_1.length l0_1) (hc0_1 : l0_1.length ≤ c0_1) (hr1 : Kd.C (Kd.int .i64) w A1 l1.length l1) (hc1 : l1.length ≤ c1) (hr2 : Kd.C (Kd.int .i64) w A2 l2.length l2) (hc2 : l2.length ≤ c2) (h : spec_l04Fire.f k a0_0 l0_1 l1 l2 = some r) :
  Calls Try.prog 80 #[.agg #[.int .i64 a0_0, .slice A0_1 l0_1.length c0_1], .slice A1 l1.length c1, .slice A2 l2.length c2] w fun e w' => ∃ v0_ : Value, e = .returned (v0_) ∧ Kd.R (Kd.int .i64) 3 w' w.heap.size (fun _ => True) v0_ r ∧ Below w.heap.size w w' := by
 have hu37 := Try.underlying37
 have hu68 := Try.underlying68
 have HR0_1 := Aside0.mk hr0_1
 have HC0_1 := Aside0.mk hc0_1
 clear hr0_1 hc0_1
 have HR1 := Aside0.mk hr1
 have HC1 := Aside0.mk hc1
 clear hr1 hc1
 have HR2 := Aside0.mk hr2
 have HC2 := Aside0.mk hc2
 clear hr2 hc2
 have HB := Aside0.mk (Below.refl w.heap.size w)
 have H : ((some (([] : List Int) : List Int)).bind fun y482 => (if y482.length + l1.length < 17592186044416 then (spec_l04Fire.l0 k l2 (y482 ++ l1) l0_1 (l0_1.length : Int) 0) else (none))) = some r := h
 clear h
 obtain ⟨y482, hy482⟩ : ∃ y_ : List Int, y_ = (([] : List Int)) := ⟨_, rfl⟩
 replace H : (if y482.length + l1.length < 17592186044416 then (spec_l04Fire.l0 k l2 (y482 ++ l1) l0_1 (l0_1.length : Int) 0) else (none)) = some r := by first | (rw [hy482]; with_reducible exact H) | (have H2_ := (Option.bind_some _ _).symm.trans H; rw [hy482]; with_reducible exact H2_) | (have H2_ := (Option.bind_some _ _).symm.trans H; with_reducible exact H2_) | with_reducible exact H | (rw [hy482]; exact H) | exact H
 have Ny482 := Aside0.mk hy482
 clear hy482
 by_cases c4 : y482.length + l1.length < 17592186044416
 ·rw [if_pos c4] at H
  have LMc4 := Aside0.mk c4
  clear c4
  obtain ⟨y485, hy485⟩ : ∃ y_ : List Int, y_ = (y482 ++ l1) := ⟨_, rfl⟩
  replace H : (spec_l04Fire.l0 k l2 y485 l0_1 (l0_1.length : Int) 0) = some r := by first | (rw [hy485]; with_reducible exact H) | (have H2_ := (Option.bind_some _ _).symm.trans H; rw [hy485]; with_reducible exact H2_) | (have H2_ := (Option.bind_some _ _).symm.trans H; with_reducible exact H2_) | with_reducible exact H | (rw [hy485]; exact H) | exact H
  have Ny485 := Aside0.mk hy485
  clear hy485
  have H' := Aside0.mk H
  clear H
  go_enter Try.func80, Try.ntmps80
  go_wp2_with (first | ((with_reducible refine gate_dst (N := 3) rfl ?_); refine box_event ?hg (N := 3) ?hd (cs := #[.int .i64 a0_0, .slice A0_1 l0_1.length c0_1]) (t := 37) ?hr ?_; (case hd => rfl); (case hg => rfl); (case hr => first | (go_simp; done) | (go_simp; rfl)); intro gb481 hg w5 hbox hb; have BK481 := Aside0.mk (hbox); have GW481 := Aside0.mk ((by rw [hg]; exact (below_size (Lz HB)) : w.heap.size ≤ gb481)); have GE481 := Aside0.mk ((by rw [hg]; exact (below_size (Lz HB)) : w.heap.size ≤ gb481)); replace HB := Aside0.mk (below_step (Lz HB) hb); clear hb hbox hg) | ((with_reducible refine gate_dst (N := 10) rfl ?_); refine Kd.R_lit (Kd.int .i64) _ 3 ?hg (N := 10) ?hd (xs := ([] : List Int)) (inner := []) (ok := fun _ => True) (okp := fun _ => True) ?hr ?hp (fun _ hk => hk) trivial (Below.refl _ _) (Nat.le_refl _) (by simp) ?_; (case hd => rfl); (case hg => rfl); (case hr => first | (go_simp; done) | (go_simp; rfl)); (case hp => exact (Reps.none _ _)); intro v483 w6 ho7 hb hg_ hnew_; clear hg_ hnew_; (first | rw [← Ny482.out] at ho7 | (simp only [Int.reduceToNat] at ho7; rw [← Ny482.out] at ho7)); have HO484 := Aside0.mk (Kd.R_lower ho7 (below_size (by exact Lz1 HB GE481))); replace BK481 := Aside0.mk (blk_below (g := gb481) (o := .cells #[.int .i64 a0_0, .slice A0_1 l0_1.length c0_1] 37 (0, 0)) (Bz BK481) hb); replace HB := Aside0.mk (below_step (by exact Lz1 HB GE481) hb); clear hb ho7) | ((with_reducible refine gate_builtin (b := .append) (xs := #[.tmp 10, .tmp 11]) rfl ?_); at_builtin; refine Kd.R_append_rows (Kd.int .i64) (w0 := w) w.heap.size rfl (.tmp 10) (.tmp 11) 24 3 (.int .i64 0) 8 rfl Try.underlying24 info3 rfl (by decide) (by omega) v483 y482 l1 _ _ _ (fun _ => True) (fun _ => False) rfl rfl ?aO ?aR (fun _ _ h => h) (fun _ h => h.elim) ?aF ?aB ?aS ?aL ?_; (case aR => exact Cz ((Kd.C_below HR1.out HB.out))); (case aB => exact (by exact Lz1 HB GE481)); (case aF => exact (fun _ _ => trivial)); (case aO => exact (Rz HO484)); (case aS => exact (below_size (by exact Lz1 HB GE481))); (case aL => have := LMc4.out; omega); intro v486 w8 ho hb hg hat; rw [← Ny485.out] at ho; replace BK481 := Aside0.mk (blk_grown (g := gb481) (o := .cells #[.int .i64 a0_0, .slice A0_1 l0_1.length c0_1] 37 (0, 0)) (Bz BK481) hg (Kd.R_ne HO484.out BK481.out (by decide))); replace HB := Aside0.mk (hb); have HO487 := Aside0.mk (ho); clear HO484; clear ho hb hg hat; have hcz9_0 : w8.cell? ⟨gb481, 0, none⟩ = some (.int .i64 a0_0) := (blk_cell BK481.out 0).trans rfl; have hcz9_1 : w8.cell? ⟨gb481, 1, none⟩ = some (.slice A0_1 l0_1.length c0_1) := (blk_cell BK481.out 1).trans rfl; have hfz9_0 := blk_frozen BK481.out 0; have hfz9_1 := blk_frozen BK481.out 1))
  go_loopg [16] k (fun kq v16 w' => ∃ (x7_1 : List Int) (x16_1 : Int), v16 = .int .i64 x16_1 ∧ Aside0 (spec_l04Fire.l0 kq l2 x7_1 l0_1 (l0_1.length : Int) x16_1 = some r) ∧ Aside0 (kq ≤ k) ∧ Aside0 (Kd.R (Kd.int .i64) 3 w' w.heap.size (fun _ => True) v486 x7_1) ∧ Aside0 (w'.heap[gb481]? = some (.cells #[.int .i64 a0_0, (.slice A0_1 l0_1.length c0_1)] 37 (0, 0))) ∧ Aside0 (Below w.heap.size w w'))
  case atStart => exact ⟨(y485), (0), (by first | rfl | (simp; done) | (simp [*]; done)), H', ⟨Nat.le_refl _⟩, ⟨by exact Rz HO487⟩, ⟨by exact Bz BK481⟩, ⟨by exact Lz1 HB GE481⟩⟩
  case round =>
   clear H'
   try clear c1
   try clear c2
   try clear c4
   obtain ⟨x7_1, x16_1, rfl, HA, HK1, HO_7, BK481, HB⟩ := hrel
   cases gk with
   | zero => exact absurd HA.out (by simp [spec_l04Fire.l0])
   | succ k1 =>
    have H := HA.out
    clear HA
    simp only [spec_l04Fire.l0] at H
    by_cases c10 : x16_1 < (l0_1.length : Int)
    ·rw [if_pos c10] at H
     have c10b0 : decide (x16_1 < (l0_1.length : Int)) = true := decide_eq_true c10
     clear c10
     by_cases c11 : 0 ≤ x16_1
     ·rw [if_pos c11] at H
      have c11b0 : decide (0 ≤ x16_1) = true := decide_eq_true c11
      clear c11
      by_cases c12 : x16_1 < (l0_1.length : Int)
      ·rw [if_pos c12] at H
       have c12b0 : decide (x16_1 < (l0_1.length : Int)) = true := decide_eq_true c12
       clear c12
       by_cases c13 : 0 ≤ ((rd_T68 l0_1 x16_1).f0)
       ·rw [if_pos c13] at H
        have c13b0 : decide (0 ≤ ((rd_T68 l0_1 x16_1).f0)) = true := decide_eq_true c13
        clear c13
        by_cases c14 : ((rd_T68 l0_1 x16_1).f0) < (x7_1.length : Int)
        ·rw [if_pos c14] at H
         have c14b0 : decide (((rd_T68 l0_1 x16_1).f0) < (x7_1.length : Int)) = true := decide_eq_true c14
         clear c14
         by_cases c15 : ((rd_T68 l0_1 x16_1).f0) < (l2.length : Int)
         ·rw [if_pos c15] at H
          have c15b0 : decide (((rd_T68 l0_1 x16_1).f0) < (l2.length : Int)) = true := decide_eq_true c15
          clear c15
          by_cases c16 : 0 ≤ ((rd_T68 l0_1 x16_1).f1)
          ·rw [if_pos c16] at H
           have c16b0 : decide (0 ≤ ((rd_T68 l0_1 x16_1).f1)) = true := decide_eq_true c16
           clear c16
           by_cases c17 : ((rd_T68 l0_1 x16_1).f1) < (l2.length : Int)
           ·rw [if_pos c17] at H
            have c17b0 : decide (((rd_T68 l0_1 x16_1).f1) < (l2.length : Int)) = true := decide_eq_true c17
            clear c17
            obtain ⟨y493, hy493⟩ : ∃ y_ : List Int, y_ = (x7_1.set (((rd_T68 l0_1 x16_1).f0) : Int).toNat (wrap64 ((wrap64 ((rd x7_1 ((rd_T68 l0_1 x16_1).f0)) - (rd l2 ((rd_T68 l0_1 x16_1).f0)))) + (rd l2 ((rd_T68 l0_1 x16_1).f1))))) := ⟨_, rfl⟩
            replace H : (if ((rd_T68 l0_1 x16_1).f1) < (x7_1.length : Int) then (spec_l04Fire.l0 k1 l2 (y493.set (((rd_T68 l0_1 x16_1).f1) : Int).toNat (wrap64 ((wrap64 ((rd y493 ((rd_T68 l0_1 x16_1).f1)) - (rd l2 ((rd_T68 l0_1 x16_1).f1)))) + (rd l2 ((rd_T68 l0_1 x16_1).f0))))) l0_1 (l0_1.length : Int) (wrap64 (x16_1 + 1))) else (none)) = some r := by first | (rw [hy493]; with_reducible exact H) | (have H2_ := (Option.bind_some _ _).symm.trans H; rw [hy493]; with_reducible exact H2_) | (have H2_ := (Option.bind_some _ _).symm.trans H; with_reducible exact H2_) | with_reducible exact H | (rw [hy493]; exact H) | exact H
            have Ny493 := Aside0.mk hy493
            clear hy493
            by_cases c19 : ((rd_T68 l0_1 x16_1).f1) < (x7_1.length : Int)
            ·rw [if_pos c19] at H
             have c19b0 : decide (((rd_T68 l0_1 x16_1).f1) < (x7_1.length : Int)) = true := decide_eq_true c19
             clear c19
             obtain ⟨y497, hy497⟩ : ∃ y_ : List Int, y_ = (y493.set (((rd_T68 l0_1 x16_1).f1) : Int).toNat (wrap64 ((wrap64 ((rd y493 ((rd_T68 l0_1 x16_1).f1)) - (rd l2 ((rd_T68 l0_1 x16_1).f1)))) + (rd l2 ((rd_T68 l0_1 x16_1).f0))))) := ⟨_, rfl⟩
             replace H : (spec_l04Fire.l0 k1 l2 y497 l0_1 (l0_1.length : Int) (wrap64 (x16_1 + 1))) = some r := by first | (rw [hy497]; with_reducible exact H) | (have H2_ := (Option.bind_some _ _).symm.trans H; rw [hy497]; with_reducible exact H2_) | (have H2_ := (Option.bind_some _ _).symm.trans H; with_reducible exact H2_) | with_reducible exact H | (rw [hy497]; exact H) | exact H
             have Ny497 := Aside0.mk hy497
             clear hy497
             have H' := Aside0.mk H
             clear H
             have p488 : 0 ≤ (x16_1 : Int) := of_decide_eq_true (by first | (with_reducible assumption) | assumption)
             have q488 : x16_1 < (l0_1.length : Int) := of_decide_eq_true (by first | (with_reducible assumption) | assumption)
             obtain ⟨ad488, e488, hx488_0, hx488_1⟩ := at_T68 HR0_1.out x16_1 p488 q488
             cases e488
             replace hx488_0 := (HB.out.cell (World.block_lt_of_cell? w _ hx488_0)).trans hx488_0
             replace hx488_1 := (HB.out.cell (World.block_lt_of_cell? w _ hx488_1)).trans hx488_1
             replace p488 := eq_true p488
             replace q488 := eq_true q488
             try go_wp2_with (first | ((with_reducible refine gate_dst (N := 9) rfl ?_); refine box_event ?hg (N := 9) ?hd (cs := #[.int .i64 0, .int .i64 0]) (t := 68) ?hr ?_; (case hd => rfl); (case hg => rfl); (case hr => first | (go_simp; done) | (go_simp; rfl)); intro gb489 hg w21 hbox hb; replace HO_7 := Aside0.mk (Kd.R_below (Rz HO_7) hb); have BK489 := Aside0.mk (hbox); have GW489 := Aside0.mk ((by rw [hg]; exact (below_size (by exact Lz1 HB GE481)) : w.heap.size ≤ gb489)); have GE489 := Aside0.mk ((by rw [hg]; exact (below_size (by exact Lz1 HB GE481)) : w.heap.size ≤ gb489)); replace HB := Aside0.mk (below_step (by exact Lz1 HB GE481) hb); have NB481_489 := Aside0.mk ((by rw [hg]; exact Nat.ne_of_lt (blk_lt (g := gb481) (o := .cells #[.int .i64 a0_0, .slice (some ad488) l0_1.length c0_1] 37 (0, 0)) (Bz BK481)) : gb481 ≠ gb489)); have NB489_481 := Aside0.mk ((by rw [hg]; exact Nat.ne_of_gt (blk_lt (g := gb481) (o := .cells #[.int .i64 a0_0, .slice (some ad488) l0_1.length c0_1] 37 (0, 0)) (Bz BK481)) : gb489 ≠ gb481)); replace BK481 := Aside0.mk (blk_below (g := gb481) (o := .cells #[.int .i64 a0_0, .slice (some ad488) l0_1.length c0_1] 37 (0, 0)) (Bz BK481) hb); clear hb hbox hg; have hnb22 := NB489_481.out; have hnc22 := NB481_489.out; have hcz23_0 : w21.cell? ⟨gb489, 0, none⟩ = some (.int .i64 0) := (blk_cell BK489.out 0).trans rfl; have hcz23_1 : w21.cell? ⟨gb489, 1, none⟩ = some (.int .i64 0) := (blk_cell BK489.out 1).trans rfl; have hfz23_0 := blk_frozen BK489.out 0; have hfz23_1 := blk_frozen BK489.out 1))
             have n0_ : Aside0 (Kd.R (Kd.int .i64) 3 ((w21.setCell ⟨gb489, 0, none⟩ (.int .i64 ((rd_T68 l0_1 x16_1).f0))).setCell ⟨gb489, 1, none⟩ (.int .i64 ((rd_T68 l0_1 x16_1).f1))) w.heap.size (fun _ => True) v486 x7_1) := ⟨by (with_reducible repeat (first | apply Kd.R_alloc | apply Kd.R_drewN | apply Kd.R_drew)); exact Kd.R_mono (Kd.R_far (p := ⟨gb489, 1, none⟩) (Kd.R_far (p := ⟨gb489, 0, none⟩) (Kd.R_types HO_7.out BK489.out (by decide)) (fun _ hk => hk.2) (.int .i64 ((rd_T68 l0_1 x16_1).f0))) (fun _ hk => hk.2) (.int .i64 ((rd_T68 l0_1 x16_1).f1))) (fun _ hk => trivial)⟩
             have n1_ : Aside0 (((w21.setCell ⟨gb489, 0, none⟩ (.int .i64 ((rd_T68 l0_1 x16_1).f0))).setCell ⟨gb489, 1, none⟩ (.int .i64 ((rd_T68 l0_1 x16_1).f1))).heap[gb481]? = some (.cells #[.int .i64 a0_0, .slice (some ad488) l0_1.length c0_1] 37 (0, 0))) := ⟨by (with_reducible repeat (first | refine blk_drewN ?_ _ | refine blk_drew ?_ | refine blk_alloc ?_ _)); refine blk_far ?_ NB481_489.out _; (with_reducible repeat (first | refine blk_drewN ?_ _ | refine blk_drew ?_ | refine blk_alloc ?_ _)); refine blk_far ?_ NB481_489.out _; exact Bz BK481⟩
             have n2_ : Aside0 (((w21.setCell ⟨gb489, 0, none⟩ (.int .i64 ((rd_T68 l0_1 x16_1).f0))).setCell ⟨gb489, 1, none⟩ (.int .i64 ((rd_T68 l0_1 x16_1).f1))).heap[gb489]? = some (.cells #[.int .i64 ((rd_T68 l0_1 x16_1).f0), .int .i64 ((rd_T68 l0_1 x16_1).f1)] 68 (0, 0))) := ⟨by (with_reducible repeat (first | refine blk_drewN ?_ _ | refine blk_drew ?_ | refine blk_alloc ?_ _)); refine blk_put (cs := #[.int .i64 ((rd_T68 l0_1 x16_1).f0), .int .i64 0]) ?_ 1 _ rfl; (with_reducible repeat (first | refine blk_drewN ?_ _ | refine blk_drew ?_ | refine blk_alloc ?_ _)); refine blk_put (cs := #[.int .i64 0, .int .i64 0]) ?_ 0 _ rfl; exact Bz BK489⟩
             have n3_ : Aside0 (Below w.heap.size w ((w21.setCell ⟨gb489, 0, none⟩ (.int .i64 ((rd_T68 l0_1 x16_1).f0))).setCell ⟨gb489, 1, none⟩ (.int .i64 ((rd_T68 l0_1 x16_1).f1)))) := ⟨by exact Lz2 HB GE481 GE489⟩
             (try clear HO_7)
             (try clear BK481)
             (try clear BK489)
             (try clear HB)
             generalize ((w21.setCell ⟨gb489, 0, none⟩ (.int .i64 ((rd_T68 l0_1 x16_1).f0))).setCell ⟨gb489, 1, none⟩ (.int .i64 ((rd_T68 l0_1 x16_1).f1))) = w24 at n0_ n1_ n2_ n3_ ⊢
             have HO_7 := n0_
             have BK481 := n1_
             have BK489 := n2_
             have HB := n3_
             clear n0_ n1_ n2_ n3_
             replace HO_7 := Aside0.mk (Kd.R_drew HO_7.out)
             replace BK481 := Aside0.mk (blk_drew BK481.out)
             replace BK489 := Aside0.mk (blk_drew BK489.out)
             replace HB := Aside0.mk (below_drew1 HB.out)
             obtain ⟨Ao26, co26, eo26⟩ := Kd.R_slice HO_7.out
             (first | subst eo26 | (injection eo26 with f1_ f2_ f3_; have f4_ := f1_.symm; have f5_ := f3_.symm; clear f1_ f2_ f3_; subst f4_; subst f5_))
             have p490 : 0 ≤ (((rd_T68 l0_1 x16_1).f0) : Int) := of_decide_eq_true (by first | (with_reducible assumption) | assumption)
             have q490 : ((rd_T68 l0_1 x16_1).f0) < (x7_1.length : Int) := of_decide_eq_true (by first | (with_reducible assumption) | assumption)
             obtain ⟨ad490, e490, hx490_0⟩ := Kd.at_int (Kd.R_reads' HO_7.out).2.2 ((rd_T68 l0_1 x16_1).f0) p490 q490
             cases e490
             replace p490 := eq_true p490
             replace q490 := eq_true q490
             have p491 : 0 ≤ (((rd_T68 l0_1 x16_1).f0) : Int) := of_decide_eq_true (by first | (with_reducible assumption) | assumption)
             have q491 : ((rd_T68 l0_1 x16_1).f0) < (l2.length : Int) := of_decide_eq_true (by first | (with_reducible assumption) | assumption)
             obtain ⟨ad491, e491, hx491_0⟩ := Kd.at_int HR2.out ((rd_T68 l0_1 x16_1).f0) p491 q491
             have hw491_0 := hx491_0
             cases e491
             replace hx491_0 := (HB.out.cell (World.block_lt_of_cell? w _ hx491_0)).trans hx491_0
             replace p491 := eq_true p491
             replace q491 := eq_true q491
             have p492 : 0 ≤ (((rd_T68 l0_1 x16_1).f1) : Int) := of_decide_eq_true (by first | (with_reducible assumption) | assumption)
             have q492 : ((rd_T68 l0_1 x16_1).f1) < (l2.length : Int) := of_decide_eq_true (by first | (with_reducible assumption) | assumption)
             obtain ⟨ad492, e492, hx492_0⟩ := Kd.at_int HR2.out ((rd_T68 l0_1 x16_1).f1) p492 q492
             have hw492_0 := hx492_0
             obtain rfl : ad491 = ad492 := (by injection e492)
             replace hx492_0 := (HB.out.cell (World.block_lt_of_cell? w _ hx492_0)).trans hx492_0
             replace p492 := eq_true p492
             replace q492 := eq_true q492
             have p18 : 0 ≤ (((rd_T68 l0_1 x16_1).f0) : Int) := of_decide_eq_true (by first | (with_reducible assumption) | assumption)
             have q18 : (((rd_T68 l0_1 x16_1).f0) : Int) < ((x7_1.length : Int) : Int) := of_decide_eq_true (by first | (with_reducible assumption) | assumption)
             obtain ⟨go18, co18, eo18, gb18, gl18, cl18, HG18⟩ := Kd.R_form HO_7.out (by omega)
             (first | cases eo18 | (injection eo18 with ea_ en_ ec_; (first | subst ea_ | (injection ea_ with ea_; subst ea_)); subst ec_; clear en_))
             have GB18 := Aside0.mk gb18
             have GG18 := Aside0.mk HG18
             clear gb18 gl18 HG18
             (first | simp only [add_plain] at hx490_0 | skip)
             obtain ⟨hx18_0, hf18_0⟩ := Kd.R_celln 0 HO_7.out (((rd_T68 l0_1 x16_1).f0) : Int) p18 q18
             replace p18 := eq_true p18
             replace q18 := eq_true q18
             have HP27 := Kd.R_putn HO_7.out (((rd_T68 l0_1 x16_1).f0) : Int) (wrap64 ((wrap64 ((rd x7_1 ((rd_T68 l0_1 x16_1).f0)) - (rd l2 ((rd_T68 l0_1 x16_1).f0)))) + (rd l2 ((rd_T68 l0_1 x16_1).f1))))
             rw [← Ny493.out] at HP27
             have HQ27 := Aside0.mk HP27
             clear HP27
             refine start_ (n := 22) (S := fun w' => w'.cell? ⟨gb489, 0, none⟩ = some (.int .i64 ((rd_T68 l0_1 x16_1).f0)) ∧ w'.cell? ⟨gb489, 1, none⟩ = some (.int .i64 ((rd_T68 l0_1 x16_1).f1)) ∧ w'.cell? ⟨go18, (((rd_T68 l0_1 x16_1).f0)).toNat, none⟩ = some (.int .i64 (rd x7_1 ((rd_T68 l0_1 x16_1).f0))) ∧ w'.cell? (ad491.add (((rd_T68 l0_1 x16_1).f0)).toNat) = some (.int .i64 (rd l2 ((rd_T68 l0_1 x16_1).f0))) ∧ w'.cell? (ad491.add (((rd_T68 l0_1 x16_1).f1)).toNat) = some (.int .i64 (rd l2 ((rd_T68 l0_1 x16_1).f1)))) (ds := [21]) #[false, false, false, false, false, false, false, false, false, false, false, false, false, false, false, false, false, false, false, false, false, false] (by kernel_rfl) rfl rfl ⟨(blk_cell BK489.out 0).trans rfl, (blk_cell BK489.out 1).trans rfl, hx490_0, ((HB.out.cell (World.block_lt_of_cell? w _ hw491_0)).trans hw491_0), ((HB.out.cell (World.block_lt_of_cell? w _ hw492_0)).trans hw492_0)⟩ (fun hHeld => ?_); refine with_tabW spec_l04Fire.tab5 spec_l04Fire.bits5 (fun HT_ HW_ => ?_)
             generalize w24.drew = w25 at HO_7 BK481 BK489 HB GG18 HQ27 hf18_0 hx18_0 hx490_0 hx491_0 hx492_0 hHeld ⊢
             refine pureT_ 0 20 HT_ ?_
             refine pureT_ 1 21 HT_ ?_
             refine pureT_ 3 23 HT_ ?_
             refine pureT_ 4 24 HT_ ?_
             refine pureT_ 8 28 HT_ ?_
             refine pureT_ 9 29 HT_ ?_
             refine pureT_ 14 34 HT_ ?_
             refine pureT_ 15 35 HT_ ?_
             refine takeT_ 2 22 HT_ HW_ hHeld rfl (by rintro w' ⟨s0, s1, s2, s3, s4⟩; go_simp; with_reducible rfl) ?_
             refine takeT_ 5 25 HT_ HW_ hHeld rfl (by rintro w' ⟨s0, s1, s2, s3, s4⟩; go_simp; with_reducible rfl) ?_
             refine pureT_ 6 26 HT_ ?_
             refine takeT_ 7 27 HT_ HW_ hHeld rfl (by rintro w' ⟨s0, s1, s2, s3, s4⟩; go_simp; with_reducible rfl) ?_
             refine takeT_ 10 30 HT_ HW_ hHeld rfl (by rintro w' ⟨s0, s1, s2, s3, s4⟩; go_simp; with_reducible rfl) ?_
             refine pureT_ 11 31 HT_ ?_
             refine takeT_ 12 32 HT_ HW_ hHeld rfl (by rintro w' ⟨s0, s1, s2, s3, s4⟩; go_simp; with_reducible rfl) ?_
             refine pureT_ 13 33 HT_ ?_
             refine takeT_ 16 36 HT_ HW_ hHeld rfl (by rintro w' ⟨s0, s1, s2, s3, s4⟩; go_simp; with_reducible rfl) ?_
             refine pureT_ 17 37 HT_ ?_
             refine takeT_ 18 38 HT_ HW_ hHeld rfl (by rintro w' ⟨s0, s1, s2, s3, s4⟩; go_simp; with_reducible rfl) ?_
             refine pureT_ 19 39 HT_ ?_
             refine pureT_ 20 40 HT_ ?_
             refine last_ (i := 21) (N := none) #[true, true, true, true, true, true, true, true, true, true, true, true, true, true, true, true, true, true, true, true, true, true] rfl rfl (one_of HT_.out (by kernel_rfl)) (by decide) (fun K hK => ?_)
             refine skip_ (w1 := ?_) (by rfl) rfl ?_ ?_
             rotate_left
             ·go_simp
              rfl
             refine hK.out _ _ ?_
             clear hK K
             refine done_ (done_of HT_.out (by kernel_rfl)) ?_
             try go_wp2
             have n0_ : Aside0 (Kd.R (Kd.int .i64) 3 (w25.setCell ⟨go18, (((rd_T68 l0_1 x16_1).f0) : Int).toNat, none⟩ (.int .i64 (wrap64 ((wrap64 ((rd x7_1 ((rd_T68 l0_1 x16_1).f0)) - (rd l2 ((rd_T68 l0_1 x16_1).f0)))) + (rd l2 ((rd_T68 l0_1 x16_1).f1)))))) w.heap.size (fun _ => True) (.slice (some ⟨go18, 0, none⟩) x7_1.length co26) y493) := ⟨by exact Rz HQ27⟩
             have n1_ : Aside0 ((w25.setCell ⟨go18, (((rd_T68 l0_1 x16_1).f0) : Int).toNat, none⟩ (.int .i64 (wrap64 ((wrap64 ((rd x7_1 ((rd_T68 l0_1 x16_1).f0)) - (rd l2 ((rd_T68 l0_1 x16_1).f0)))) + (rd l2 ((rd_T68 l0_1 x16_1).f1)))))).heap[gb481]? = some (.cells #[.int .i64 a0_0, .slice (some ad488) l0_1.length c0_1] 37 (0, 0))) := ⟨by (with_reducible repeat (first | refine blk_drewN ?_ _ | refine blk_drew ?_ | refine blk_alloc ?_ _)); refine blk_far ?_ (by have h_ := Kd.R_ne HO_7.out BK481.out (by decide); intro e_; exact h_ (by rw [e_]; rfl)) _; exact Bz BK481⟩
             have n2_ : Aside0 ((w25.setCell ⟨go18, (((rd_T68 l0_1 x16_1).f0) : Int).toNat, none⟩ (.int .i64 (wrap64 ((wrap64 ((rd x7_1 ((rd_T68 l0_1 x16_1).f0)) - (rd l2 ((rd_T68 l0_1 x16_1).f0)))) + (rd l2 ((rd_T68 l0_1 x16_1).f1)))))).heap[gb489]? = some (.cells #[.int .i64 ((rd_T68 l0_1 x16_1).f0), .int .i64 ((rd_T68 l0_1 x16_1).f1)] 68 (0, 0))) := ⟨by (with_reducible repeat (first | refine blk_drewN ?_ _ | refine blk_drew ?_ | refine blk_alloc ?_ _)); refine blk_far ?_ (by have h_ := Kd.R_ne HO_7.out BK489.out (by decide); intro e_; exact h_ (by rw [e_]; rfl)) _; exact Bz BK489⟩
             have n3_ : Aside0 (Below w.heap.size w (w25.setCell ⟨go18, (((rd_T68 l0_1 x16_1).f0) : Int).toNat, none⟩ (.int .i64 (wrap64 ((wrap64 ((rd x7_1 ((rd_T68 l0_1 x16_1).f0)) - (rd l2 ((rd_T68 l0_1 x16_1).f0)))) + (rd l2 ((rd_T68 l0_1 x16_1).f1))))))) := ⟨by exact Lz3 HB GB18 GE481 GE489⟩
             (try clear HO_7)
             (try clear BK481)
             (try clear BK489)
             (try clear HB)
             generalize (w25.setCell ⟨go18, (((rd_T68 l0_1 x16_1).f0) : Int).toNat, none⟩ (.int .i64 (wrap64 ((wrap64 ((rd x7_1 ((rd_T68 l0_1 x16_1).f0)) - (rd l2 ((rd_T68 l0_1 x16_1).f0)))) + (rd l2 ((rd_T68 l0_1 x16_1).f1)))))) = w28 at n0_ n1_ n2_ n3_ ⊢
             have HO_7 := n0_
             have BK481 := n1_
             have BK489 := n2_
             have HB := n3_
             clear n0_ n1_ n2_ n3_
             replace HO_7 := Aside0.mk (Kd.R_drew HO_7.out)
             replace BK481 := Aside0.mk (blk_drew BK481.out)
             replace BK489 := Aside0.mk (blk_drew BK489.out)
             replace HB := Aside0.mk (below_drew1 HB.out)
             have p494 : 0 ≤ (((rd_T68 l0_1 x16_1).f1) : Int) := of_decide_eq_true (by first | (with_reducible assumption) | assumption)
             have q494 : ((rd_T68 l0_1 x16_1).f1) < (y493.length : Int) := (by have h_ : (((rd_T68 l0_1 x16_1).f1) : Int) < ((x7_1.length : Int) : Int) := of_decide_eq_true (by first | (with_reducible assumption) | assumption); first | (have e_ := (Kd.R_reads' HO_7.out).1; omega) | simpa only [Ny493.out, List.length_set] using h_)
             have ql494 : ((((rd_T68 l0_1 x16_1).f1) : Int) < ((x7_1.length : Int) : Int)) = True := eq_true (of_decide_eq_true (by first | (with_reducible assumption) | assumption))
             obtain ⟨ad494, e494, hx494_0⟩ := Kd.at_int (Kd.R_reads' HO_7.out).2.2 ((rd_T68 l0_1 x16_1).f1) p494 q494
             obtain rfl : (⟨go18, 0, none⟩ : Addr) = ad494 := (by injection e494)
             (first | simp only [add_plain] at hx494_0 | simp only [add_at] at hx494_0 | simp only [Addr.add, Nat.zero_add] at hx494_0 | skip)
             replace p494 := eq_true p494
             replace q494 := eq_true q494
             have p495 : 0 ≤ (((rd_T68 l0_1 x16_1).f1) : Int) := of_decide_eq_true (by first | (with_reducible assumption) | assumption)
             have q495 : ((rd_T68 l0_1 x16_1).f1) < (l2.length : Int) := of_decide_eq_true (by first | (with_reducible assumption) | assumption)
             obtain ⟨ad495, e495, hx495_0⟩ := Kd.at_int HR2.out ((rd_T68 l0_1 x16_1).f1) p495 q495
             have hw495_0 := hx495_0
             obtain rfl : ad491 = ad495 := (by injection e495)
             replace hx495_0 := (HB.out.cell (World.block_lt_of_cell? w _ hx495_0)).trans hx495_0
             replace p495 := eq_true p495
             replace q495 := eq_true q495
             have p496 : 0 ≤ (((rd_T68 l0_1 x16_1).f0) : Int) := of_decide_eq_true (by first | (with_reducible assumption) | assumption)
             have q496 : ((rd_T68 l0_1 x16_1).f0) < (l2.length : Int) := of_decide_eq_true (by first | (with_reducible assumption) | assumption)
             obtain ⟨ad496, e496, hx496_0⟩ := Kd.at_int HR2.out ((rd_T68 l0_1 x16_1).f0) p496 q496
             have hw496_0 := hx496_0
             obtain rfl : ad491 = ad496 := (by injection e496)
             replace hx496_0 := (HB.out.cell (World.block_lt_of_cell? w _ hx496_0)).trans hx496_0
             replace p496 := eq_true p496
             replace q496 := eq_true q496
             have p20 : 0 ≤ (((rd_T68 l0_1 x16_1).f1) : Int) := of_decide_eq_true (by first | (with_reducible assumption) | assumption)
             have q20 : (((rd_T68 l0_1 x16_1).f1) : Int) < ((x7_1.length : Int) : Int) := of_decide_eq_true (by first | (with_reducible assumption) | assumption)
             obtain ⟨hx20_0, hf20_0⟩ := Kd.R_celln 0 HO_7.out (((rd_T68 l0_1 x16_1).f1) : Int) p20 q20
             replace p20 := eq_true p20
             replace q20 := eq_true q20
             have HP30 := Kd.R_putn HO_7.out (((rd_T68 l0_1 x16_1).f1) : Int) (wrap64 ((wrap64 ((rd y493 ((rd_T68 l0_1 x16_1).f1)) - (rd l2 ((rd_T68 l0_1 x16_1).f1)))) + (rd l2 ((rd_T68 l0_1 x16_1).f0))))
             rw [← Ny497.out] at HP30
             have HQ30 := Aside0.mk HP30
             clear HP30
             refine start_ (n := 22) (S := fun w' => w'.cell? ⟨gb489, 0, none⟩ = some (.int .i64 ((rd_T68 l0_1 x16_1).f0)) ∧ w'.cell? ⟨gb489, 1, none⟩ = some (.int .i64 ((rd_T68 l0_1 x16_1).f1)) ∧ w'.cell? ⟨go18, (((rd_T68 l0_1 x16_1).f1)).toNat, none⟩ = some (.int .i64 (rd y493 ((rd_T68 l0_1 x16_1).f1))) ∧ w'.cell? (ad491.add (((rd_T68 l0_1 x16_1).f1)).toNat) = some (.int .i64 (rd l2 ((rd_T68 l0_1 x16_1).f1))) ∧ w'.cell? (ad491.add (((rd_T68 l0_1 x16_1).f0)).toNat) = some (.int .i64 (rd l2 ((rd_T68 l0_1 x16_1).f0)))) (ds := [21]) #[false, false, false, false, false, false, false, false, false, false, false, false, false, false, false, false, false, false, false, false, false, false] (by kernel_rfl) rfl rfl ⟨(blk_cell BK489.out 0).trans rfl, (blk_cell BK489.out 1).trans rfl, hx494_0, ((HB.out.cell (World.block_lt_of_cell? w _ hw495_0)).trans hw495_0), ((HB.out.cell (World.block_lt_of_cell? w _ hw496_0)).trans hw496_0)⟩ (fun hHeld => ?_); refine with_tabW spec_l04Fire.tab6 spec_l04Fire.bits6 (fun HT_ HW_ => ?_)
             generalize w28.drew = w29 at HO_7 BK481 BK489 HB HQ27 HQ30 hf20_0 hx20_0 hx494_0 hx495_0 hx496_0 hHeld ⊢
             refine pureT_ 0 41 HT_ ?_
             refine pureT_ 1 42 HT_ ?_
             refine pureT_ 3 44 HT_ ?_
             refine pureT_ 4 45 HT_ ?_
             refine pureT_ 8 49 HT_ ?_
             refine pureT_ 9 50 HT_ ?_
             refine pureT_ 14 55 HT_ ?_
             refine pureT_ 15 56 HT_ ?_
             refine takeT_ 2 43 HT_ HW_ hHeld rfl (by rintro w' ⟨s0, s1, s2, s3, s4⟩; go_simp; with_reducible rfl) ?_
             refine takeT_ 5 46 HT_ HW_ hHeld rfl (by rintro w' ⟨s0, s1, s2, s3, s4⟩; go_simp; with_reducible rfl) ?_
             refine pureT_ 6 47 HT_ ?_
             refine takeT_ 7 48 HT_ HW_ hHeld rfl (by rintro w' ⟨s0, s1, s2, s3, s4⟩; go_simp; with_reducible rfl) ?_
             refine takeT_ 10 51 HT_ HW_ hHeld rfl (by rintro w' ⟨s0, s1, s2, s3, s4⟩; go_simp; with_reducible rfl) ?_
             refine pureT_ 11 52 HT_ ?_
             refine takeT_ 12 53 HT_ HW_ hHeld rfl (by rintro w' ⟨s0, s1, s2, s3, s4⟩; go_simp; with_reducible rfl) ?_
             refine pureT_ 13 54 HT_ ?_
             refine takeT_ 16 57 HT_ HW_ hHeld rfl (by rintro w' ⟨s0, s1, s2, s3, s4⟩; go_simp; with_reducible rfl) ?_
             refine pureT_ 17 58 HT_ ?_
             refine takeT_ 18 59 HT_ HW_ hHeld rfl (by rintro w' ⟨s0, s1, s2, s3, s4⟩; go_simp; with_reducible rfl) ?_
             refine pureT_ 19 60 HT_ ?_
             refine pureT_ 20 61 HT_ ?_
             refine last_ (i := 21) (N := none) #[true, true, true, true, true, true, true, true, true, true, true, true, true, true, true, true, true, true, true, true, true, true] rfl rfl (one_of HT_.out (by kernel_rfl)) (by decide) (fun K hK => ?_)
             refine skip_ (w1 := ?_) (by rfl) rfl ?_ ?_
             rotate_left
             ·go_simp
              rfl
             refine hK.out _ _ ?_
             clear hK K
             refine done_ (done_of HT_.out (by kernel_rfl)) ?_
             try go_wp2
             go_roundg k1
             case measure => have := HK1.out; omega
             case rel => exact ⟨(y497), (wrap64 (x16_1 + 1)), (by first | rfl | (simp; done) | (simp [*]; done)), H', ⟨by have := HK1.out; omega⟩, ⟨by exact Rz HQ30⟩, ⟨by (with_reducible repeat (first | refine blk_drewN ?_ _ | refine blk_drew ?_ | refine blk_alloc ?_ _)); refine blk_far ?_ (by have h_ := Kd.R_ne HO_7.out BK481.out (by decide); intro e_; exact h_ (by rw [e_]; rfl)) _; exact Bz BK481⟩, ⟨by exact Lz3 HB GB18 GE481 GE489⟩⟩
            rw [if_neg c19] at H
            exact absurd H (by simp)
           rw [if_neg c17] at H
           exact absurd H (by simp)
          rw [if_neg c16] at H
          exact absurd H (by simp)
         rw [if_neg c15] at H
         exact absurd H (by simp)
        rw [if_neg c14] at H
        exact absurd H (by simp)
       rw [if_neg c13] at H
       exact absurd H (by simp)
      rw [if_neg c12] at H
      exact absurd H (by simp)
     rw [if_neg c11] at H
     exact absurd H (by simp)
    rw [if_neg c10] at H
    have c10b0 : decide (x16_1 < (l0_1.length : Int)) = false := decide_eq_false c10
    clear c10
    obtain rfl := Option.some.inj H
    go_wp2
    go_ret
    exact ⟨_, by first | rfl | (simp [errW_none, errW_some] <;> rfl) | (simp [*, errW_none, errW_some] <;> rfl), by exact Rz HO_7, by exact Lz1 HB GE481⟩
 rw [if_neg c4] at H
 exact absurd H (by simp)

/-! ### impl_fire: function 107 -/
def impl_fire.l0 : Nat → List Int → Int → Int → List (S68) → Int → Int → Option (List Int)
 | 0, _, _, _, _, _, _ => none
 | k + 1, x1, x2, x3, x11, x12, x13 => if x13 < x12 then (if 0 ≤ x13 then (if x13 < (x11.length : Int) then (if x2 = ((rd_T68 x11 x13).f0) then (if 0 ≤ x2 then (if x2 < (x1.length : Int) then ((some (x1.set (x2 : Int).toNat (wrap64 ((rd x1 x2) - x3)) : List Int)).bind fun y517 => (if 0 ≤ ((rd_T68 x11 x13).f1) then (if ((rd_T68 x11 x13).f1) < (x1.length : Int) then (impl_fire.l0 k (y517.set (((rd_T68 x11 x13).f1) : Int).toNat (wrap64 ((rd y517 ((rd_T68 x11 x13).f1)) + x3))) x2 x3 x11 x12 (wrap64 (x13 + 1))) else (none)) else (none))) else (none)) else (none)) else (if x2 = ((rd_T68 x11 x13).f1) then (if 0 ≤ x2 then (if x2 < (x1.length : Int) then ((some (x1.set (x2 : Int).toNat (wrap64 ((rd x1 x2) - x3)) : List Int)).bind fun y521 => (if 0 ≤ ((rd_T68 x11 x13).f0) then (if ((rd_T68 x11 x13).f0) < (x1.length : Int) then (impl_fire.l0 k (y521.set (((rd_T68 x11 x13).f0) : Int).toNat (wrap64 ((rd y521 ((rd_T68 x11 x13).f0)) + x3))) x2 x3 x11 x12 (wrap64 (x13 + 1))) else (none)) else (none))) else (none)) else (none)) else (impl_fire.l0 k x1 x2 x3 x11 x12 (wrap64 (x13 + 1))))) else (none)) else (none)) else (some x1)
def impl_fire.f (k : Nat) (a0_0 : Int) (l0_1 : List (S68)) (l1 : List Int) (a2 : Int) (a3 : Int) : Option (List Int) := impl_fire.l0 k l1 a2 a3 l0_1 (l0_1.length : Int) 0
set_option maxHeartbeats 8000000 in
set_option maxRecDepth 100000 in
theorem impl_fire.calls (k : Nat) (a0_0 : Int) (A0_1 : Option Addr) (c0_1 : Nat) (l0_1 : List (S68)) (P1_ : Nat → Prop) (u9000_ : Value) (l1 : List Int) (a2 : Int) (a3 : Int) (r : List Int) (w0 w : World) (hB : Below w0.heap.size w0 w) (hr0_1 : ∀ W_, Kept w W_ (fun k_ => P1_ k_) → Kd.C k68 W_ A0_1 l0_1.length l0_1) (hc0_1 : l0_1.length ≤ c0_1) (ho1 : Kd.R (Kd.int .i64) 3 w w0.heap.size P1_ u9000_ l1) (h : impl_fire.f k a0_0 l0_1 l1 a2 a3 = some r) :
  Calls Try.prog 107 #[.agg #[.int .i64 a0_0, .slice A0_1 l0_1.length c0_1], u9000_, .int .i64 a2, .int .i64 a3] w fun e w' => e = .returned (.tuple #[]) ∧ Kd.R (Kd.int .i64) 3 w' w0.heap.size (fun k_ => (P1_ k_ ∨ w.heap.size ≤ k_)) u9000_ r ∧ Below w0.heap.size w0 w' ∧ Kept w w' (fun k_ => P1_ k_) := by
 have hu37 := Try.underlying37
 have hu68 := Try.underlying68
 have HR0_1 := Aside0.mk hr0_1
 have HC0_1 := Aside0.mk hc0_1
 clear hr0_1 hc0_1
 have HO1 := Aside0.mk (show Kd.R (Kd.int .i64) 3 w w0.heap.size (fun k_ => (P1_ k_ ∨ w.heap.size ≤ k_)) u9000_ l1 from Kd.R_mono ho1 (fun k_ hk => (.inl hk)))
 have HK := Aside0.mk (Kept.refl w (fun k_ => P1_ k_))
 have HW0 := Aside0.mk hB.size
 have HB := Aside0.mk hB
 clear hB
 have H : (impl_fire.l0 k l1 a2 a3 l0_1 (l0_1.length : Int) 0) = some r := h
 clear h
 have H' := Aside0.mk H
 clear H
 go_enter Try.func107, Try.ntmps107
 go_wp2_with (first | ((with_reducible refine gate_dst (N := 4) rfl ?_); refine box_event ?hg (N := 4) ?hd (cs := #[.int .i64 a0_0, .slice A0_1 l0_1.length c0_1]) (t := 37) ?hr ?_; (case hd => rfl); (case hg => rfl); (case hr => first | (go_simp; done) | (go_simp; rfl)); intro gb513 hg w5 hbox hb; replace HO1 := Aside0.mk (Kd.R_below (Rz HO1) hb); have BK513 := Aside0.mk (hbox); have GW513 := Aside0.mk ((by rw [hg]; exact (by first | exact HK.out.1 | exact (show Kept w _ (fun k_ => P1_ k_) from by repeat (first | (with_reducible first | exact HK.out | apply Kept.alloc | apply Kept.drewN | apply Kept.drew) | exact HK.out)).1) : w.heap.size ≤ gb513)); replace HK := Aside0.mk (Kept.below (S := (fun k_ => P1_ k_)) (by repeat (first | (with_reducible first | exact HK.out | apply Kept.alloc | apply Kept.drewN | apply Kept.drew) | exact HK.out)) hb); have GE513 := Aside0.mk ((by rw [hg]; exact (below_size (Lz HB)) : w0.heap.size ≤ gb513)); replace HB := Aside0.mk (below_step (Lz HB) hb); clear hb hbox hg; have hcz6_0 : w5.cell? ⟨gb513, 0, none⟩ = some (.int .i64 a0_0) := (blk_cell BK513.out 0).trans rfl; have hcz6_1 : w5.cell? ⟨gb513, 1, none⟩ = some (.slice A0_1 l0_1.length c0_1) := (blk_cell BK513.out 1).trans rfl; have hfz6_0 := blk_frozen BK513.out 0; have hfz6_1 := blk_frozen BK513.out 1))
 go_loopg [13] k (fun kq v13 w' => ∃ (x1_1 : List Int) (x13_1 : Int), v13 = .int .i64 x13_1 ∧ Aside0 (impl_fire.l0 kq x1_1 a2 a3 l0_1 (l0_1.length : Int) x13_1 = some r) ∧ Aside0 (kq ≤ k) ∧ Aside0 (Kd.R (Kd.int .i64) 3 w' w0.heap.size (fun k_ => (P1_ k_ ∨ w.heap.size ≤ k_)) u9000_ x1_1) ∧ Aside0 (w'.heap[gb513]? = some (.cells #[.int .i64 a0_0, (.slice A0_1 l0_1.length c0_1)] 37 (0, 0))) ∧ Aside0 (Kept w w' (fun k_ => P1_ k_)) ∧ Aside0 (Below w0.heap.size w0 w'))
 case atStart => exact ⟨(l1), (0), (by first | rfl | (simp; done) | (simp [*]; done)), H', ⟨Nat.le_refl _⟩, ⟨by exact Rz HO1⟩, ⟨by exact Bz BK513⟩, ⟨by repeat (first | (with_reducible first | exact HK.out | apply Kept.alloc | apply Kept.drewN | apply Kept.drew | refine Kept.setCell ?_ (.inr GW513.out) _) | exact HK.out)⟩, ⟨by exact Lz1 HB GE513⟩⟩
 case round =>
  clear H'
  obtain ⟨x1_1, x13_1, rfl, HA, HK1, HO_1, BK513, HK, HB⟩ := hrel
  cases gk with
  | zero => exact absurd HA.out (by simp [impl_fire.l0])
  | succ k1 =>
   have H := HA.out
   clear HA
   simp only [impl_fire.l0] at H
   by_cases c7 : x13_1 < (l0_1.length : Int)
   ·rw [if_pos c7] at H
    have c7b0 : decide (x13_1 < (l0_1.length : Int)) = true := decide_eq_true c7
    clear c7
    by_cases c8 : 0 ≤ x13_1
    ·rw [if_pos c8] at H
     have c8b0 : decide (0 ≤ x13_1) = true := decide_eq_true c8
     clear c8
     by_cases c9 : x13_1 < (l0_1.length : Int)
     ·rw [if_pos c9] at H
      have c9b0 : decide (x13_1 < (l0_1.length : Int)) = true := decide_eq_true c9
      clear c9
      by_cases c10 : a2 = ((rd_T68 l0_1 x13_1).f0)
      ·rw [if_pos c10] at H
       have c10b0 : (a2 == ((rd_T68 l0_1 x13_1).f0)) = true := beq_iff_eq.mpr c10
       have c10b1 : (a2 != ((rd_T68 l0_1 x13_1).f0)) = false := bne_eq_false_iff_eq.mpr c10
       clear c10
       by_cases c11 : 0 ≤ a2
       ·rw [if_pos c11] at H
        have c11b0 : decide (0 ≤ a2) = true := decide_eq_true c11
        clear c11
        by_cases c12 : a2 < (x1_1.length : Int)
        ·rw [if_pos c12] at H
         have c12b0 : decide (a2 < (x1_1.length : Int)) = true := decide_eq_true c12
         clear c12
         obtain ⟨y517, hy517⟩ : ∃ y_ : List Int, y_ = (x1_1.set (a2 : Int).toNat (wrap64 ((rd x1_1 a2) - a3))) := ⟨_, rfl⟩
         replace H : (if 0 ≤ ((rd_T68 l0_1 x13_1).f1) then (if ((rd_T68 l0_1 x13_1).f1) < (x1_1.length : Int) then (impl_fire.l0 k1 (y517.set (((rd_T68 l0_1 x13_1).f1) : Int).toNat (wrap64 ((rd y517 ((rd_T68 l0_1 x13_1).f1)) + a3))) a2 a3 l0_1 (l0_1.length : Int) (wrap64 (x13_1 + 1))) else (none)) else (none)) = some r := by first | (rw [hy517]; with_reducible exact H) | (have H2_ := (Option.bind_some _ _).symm.trans H; rw [hy517]; with_reducible exact H2_) | (have H2_ := (Option.bind_some _ _).symm.trans H; with_reducible exact H2_) | with_reducible exact H | (rw [hy517]; exact H) | exact H
         have Ny517 := Aside0.mk hy517
         clear hy517
         by_cases c14 : 0 ≤ ((rd_T68 l0_1 x13_1).f1)
         ·rw [if_pos c14] at H
          have c14b0 : decide (0 ≤ ((rd_T68 l0_1 x13_1).f1)) = true := decide_eq_true c14
          clear c14
          by_cases c15 : ((rd_T68 l0_1 x13_1).f1) < (x1_1.length : Int)
          ·rw [if_pos c15] at H
           have c15b0 : decide (((rd_T68 l0_1 x13_1).f1) < (x1_1.length : Int)) = true := decide_eq_true c15
           clear c15
           obtain ⟨y519, hy519⟩ : ∃ y_ : List Int, y_ = (y517.set (((rd_T68 l0_1 x13_1).f1) : Int).toNat (wrap64 ((rd y517 ((rd_T68 l0_1 x13_1).f1)) + a3))) := ⟨_, rfl⟩
           replace H : (impl_fire.l0 k1 y519 a2 a3 l0_1 (l0_1.length : Int) (wrap64 (x13_1 + 1))) = some r := by first | (rw [hy519]; with_reducible exact H) | (have H2_ := (Option.bind_some _ _).symm.trans H; rw [hy519]; with_reducible exact H2_) | (have H2_ := (Option.bind_some _ _).symm.trans H; with_reducible exact H2_) | with_reducible exact H | (rw [hy519]; exact H) | exact H
           have Ny519 := Aside0.mk hy519
           clear hy519
           have H' := Aside0.mk H
           clear H
           have p514 : 0 ≤ (x13_1 : Int) := of_decide_eq_true (by first | (with_reducible assumption) | assumption)
           have q514 : x13_1 < (l0_1.length : Int) := of_decide_eq_true (by first | (with_reducible assumption) | assumption)
           obtain ⟨ad514, e514, hx514_0, hx514_1⟩ := at_T68 (Kd.C_kept_now HR0_1.out HK.out) x13_1 p514 q514
           cases e514
           replace p514 := eq_true p514
           replace q514 := eq_true q514
           go_wp2_with (first | ((with_reducible refine gate_dst (N := 9) rfl ?_); refine box_event ?hg (N := 9) ?hd (cs := #[.int .i64 0, .int .i64 0]) (t := 68) ?hr ?_; (case hd => rfl); (case hg => rfl); (case hr => first | (go_simp; done) | (go_simp; rfl)); intro gb515 hg w17 hbox hb; replace HO_1 := Aside0.mk (Kd.R_below (Rz HO_1) hb); have BK515 := Aside0.mk (hbox); have GW515 := Aside0.mk ((by rw [hg]; exact (by first | exact HK.out.1 | exact (show Kept w _ (fun k_ => P1_ k_) from by repeat (first | (with_reducible first | exact HK.out | apply Kept.alloc | apply Kept.drewN | apply Kept.drew | refine Kept.setCell ?_ (.inr GW513.out) _) | exact HK.out)).1) : w.heap.size ≤ gb515)); replace HK := Aside0.mk (Kept.below (S := (fun k_ => P1_ k_)) (by repeat (first | (with_reducible first | exact HK.out | apply Kept.alloc | apply Kept.drewN | apply Kept.drew | refine Kept.setCell ?_ (.inr GW513.out) _) | exact HK.out)) hb); have GE515 := Aside0.mk ((by rw [hg]; exact (below_size (by exact Lz1 HB GE513)) : w0.heap.size ≤ gb515)); replace HB := Aside0.mk (below_step (by exact Lz1 HB GE513) hb); have NB513_515 := Aside0.mk ((by rw [hg]; exact Nat.ne_of_lt (blk_lt (g := gb513) (o := .cells #[.int .i64 a0_0, .slice (some ad514) l0_1.length c0_1] 37 (0, 0)) (Bz BK513)) : gb513 ≠ gb515)); have NB515_513 := Aside0.mk ((by rw [hg]; exact Nat.ne_of_gt (blk_lt (g := gb513) (o := .cells #[.int .i64 a0_0, .slice (some ad514) l0_1.length c0_1] 37 (0, 0)) (Bz BK513)) : gb515 ≠ gb513)); replace BK513 := Aside0.mk (blk_below (g := gb513) (o := .cells #[.int .i64 a0_0, .slice (some ad514) l0_1.length c0_1] 37 (0, 0)) (Bz BK513) hb); clear hb hbox hg; have hnb18 := NB515_513.out; have hnc18 := NB513_515.out; have hcz19_0 : w17.cell? ⟨gb515, 0, none⟩ = some (.int .i64 0) := (blk_cell BK515.out 0).trans rfl; have hcz19_1 : w17.cell? ⟨gb515, 1, none⟩ = some (.int .i64 0) := (blk_cell BK515.out 1).trans rfl; have hfz19_0 := blk_frozen BK515.out 0; have hfz19_1 := blk_frozen BK515.out 1) | ((with_reducible refine gate_store (t := 68) (p := 9) rfl ?_); refine store_event (t := 68) (p := 9) (v := ?vo_w20) (w1 := ((w17.setCell ⟨gb515, 0, none⟩ (.int .i64 ((rd_T68 l0_1 x13_1).f0))).setCell ⟨gb515, 1, none⟩ (.int .i64 ((rd_T68 l0_1 x13_1).f1)))) ?hg ?ho ?hn ?hr ?_; (case ho => rfl); (case hg => rfl); (case hn => rfl); (case hr => first | (go_simp; done) | (go_simp; rfl)); intro w20 hw; have n0_ : Aside0 (Kd.R (Kd.int .i64) 3 w20 w0.heap.size (fun k_ => (P1_ k_ ∨ w.heap.size ≤ k_)) u9000_ x1_1) := ⟨(by rw [hw]; exact (by (with_reducible repeat (first | apply Kd.R_alloc | apply Kd.R_drewN | apply Kd.R_drew)); exact Kd.R_mono (Kd.R_far (p := ⟨gb515, 1, none⟩) (Kd.R_far (p := ⟨gb515, 0, none⟩) (Kd.R_types HO_1.out BK515.out (by decide)) (fun _ hk => hk.2) (.int .i64 ((rd_T68 l0_1 x13_1).f0))) (fun _ hk => hk.2) (.int .i64 ((rd_T68 l0_1 x13_1).f1))) (fun _ hk => hk.1)))⟩; have n1_ : Aside0 (w20.heap[gb513]? = some (.cells #[.int .i64 a0_0, .slice (some ad514) l0_1.length c0_1] 37 (0, 0))) := ⟨(by rw [hw]; exact (by (with_reducible repeat (first | refine blk_drewN ?_ _ | refine blk_drew ?_ | refine blk_alloc ?_ _)); refine blk_far ?_ NB513_515.out _; (with_reducible repeat (first | refine blk_drewN ?_ _ | refine blk_drew ?_ | refine blk_alloc ?_ _)); refine blk_far ?_ NB513_515.out _; exact Bz BK513))⟩; have n2_ : Aside0 (w20.heap[gb515]? = some (.cells #[.int .i64 ((rd_T68 l0_1 x13_1).f0), .int .i64 ((rd_T68 l0_1 x13_1).f1)] 68 (0, 0))) := ⟨(by rw [hw]; exact (by (with_reducible repeat (first | refine blk_drewN ?_ _ | refine blk_drew ?_ | refine blk_alloc ?_ _)); refine blk_put (cs := #[.int .i64 ((rd_T68 l0_1 x13_1).f0), .int .i64 0]) ?_ 1 _ rfl; (with_reducible repeat (first | refine blk_drewN ?_ _ | refine blk_drew ?_ | refine blk_alloc ?_ _)); refine blk_put (cs := #[.int .i64 0, .int .i64 0]) ?_ 0 _ rfl; exact Bz BK515))⟩; have n3_ : Aside0 (Kept w w20 (fun k_ => P1_ k_)) := ⟨(by rw [hw]; exact (by repeat (first | (with_reducible first | exact HK.out | apply Kept.alloc | apply Kept.drewN | apply Kept.drew | refine Kept.setCell ?_ (.inr GW513.out) _ | refine Kept.setCell ?_ (.inr GW515.out) _) | exact HK.out)))⟩; have n4_ : Aside0 (Below w0.heap.size w0 w20) := ⟨(by rw [hw]; exact (by exact Lz2 HB GE513 GE515))⟩; clear hw; clear HO_1; clear BK513; clear BK515; clear HK; clear HB; have HO_1 := n0_; have BK513 := n1_; have BK515 := n2_; have HK := n3_; have HB := n4_; clear n0_ n1_ n2_ n3_ n4_; have hcz21_0 : w20.cell? ⟨gb515, 0, none⟩ = some (.int .i64 ((rd_T68 l0_1 x13_1).f0)) := (blk_cell BK515.out 0).trans rfl; have hcz21_1 : w20.cell? ⟨gb515, 1, none⟩ = some (.int .i64 ((rd_T68 l0_1 x13_1).f1)) := (blk_cell BK515.out 1).trans rfl; have hfz21_0 := blk_frozen BK515.out 0; have hfz21_1 := blk_frozen BK515.out 1; obtain ⟨Ao22, co22, eo22⟩ := Kd.R_slice HO_1.out; subst eo22; have p516 : 0 ≤ (a2 : Int) := of_decide_eq_true (by first | (with_reducible assumption) | assumption); have q516 : a2 < (x1_1.length : Int) := of_decide_eq_true (by first | (with_reducible assumption) | assumption); obtain ⟨ad516, e516, hx516_0⟩ := Kd.at_int (Kd.R_reads' HO_1.out).2.2 a2 p516 q516; cases e516; replace p516 := eq_true p516; replace q516 := eq_true q516; have p13 : 0 ≤ (a2 : Int) := of_decide_eq_true (by first | (with_reducible assumption) | assumption); have q13 : (a2 : Int) < ((x1_1.length : Int) : Int) := of_decide_eq_true (by first | (with_reducible assumption) | assumption); obtain ⟨go13, co13, eo13, gb13, gl13, cl13, HG13⟩ := Kd.R_form HO_1.out (by omega); (first | cases eo13 | (injection eo13 with ea_ en_ ec_; (first | subst ea_ | (injection ea_ with ea_; subst ea_)); subst ec_; clear en_)); have GB13 := Aside0.mk gb13; have GG13 := Aside0.mk HG13; clear gb13 gl13 HG13; have HMgo13 := Aside0.mk (show (P1_ go13 ∨ w.heap.size ≤ go13) from (HO_1.out.1 _ rfl)); (first | simp only [add_plain] at hx516_0 | skip); obtain ⟨hx13_0, hf13_0⟩ := Kd.R_celln 0 HO_1.out (a2 : Int) p13 q13; replace p13 := eq_true p13; replace q13 := eq_true q13; obtain ⟨hy23_, hz23_⟩ := Kd.R_celln 0 HO_1.out (a2 : Int) (of_decide_eq_true (by first | (with_reducible assumption) | assumption)) (of_decide_eq_true (by first | (with_reducible assumption) | assumption)); have HP23 := Kd.R_putg HO_1.out (a2 : Int) (wrap64 ((rd x1_1 a2) - a3))) | ((with_reducible refine gate_store (t := 3) (p := 28) rfl ?_); refine store_event (t := 3) (p := 28) (v := ?vo_w24) (w1 := (w20.setCell ⟨go13, (a2 : Int).toNat, none⟩ (.int .i64 (wrap64 ((rd x1_1 a2) - a3))))) ?hg ?ho ?hn ?hr ?_; (case ho => rfl); (case hg => rfl); (case hn => rfl); (case hr => first | (go_simp; done) | (go_simp; rfl)); intro w24 hw; have hg : w20.grownBy w24 (some go13) := (by rw [hw]; exact HP23.2); have hp_ : Kd.R (Kd.int .i64) 3 w24 w0.heap.size (fun k_ => (P1_ k_ ∨ w.heap.size ≤ k_)) (.slice (some ⟨go13, 0, none⟩) x1_1.length co22) y517 := (by rw [hw, Ny517.out]; exact HP23.1); clear HP23; replace BK513 := Aside0.mk (blk_grown (g := gb513) (o := .cells #[.int .i64 a0_0, .slice (some ad514) l0_1.length c0_1] 37 (0, 0)) (Bz BK513) hg (Kd.R_ne HO_1.out BK513.out (by decide))); replace BK515 := Aside0.mk (blk_grown (g := gb515) (o := .cells #[.int .i64 ((rd_T68 l0_1 x13_1).f0), .int .i64 ((rd_T68 l0_1 x13_1).f1)] 68 (0, 0)) (Bz BK515) hg (Kd.R_ne HO_1.out BK515.out (by decide))); replace HB := Aside0.mk ((by rw [hw]; exact below_set (HB.out) GB13.out : Below w0.heap.size w0 w24)); replace HK := Aside0.mk (Kept.of_grown (S := (fun k_ => P1_ k_)) hg (by repeat (first | (with_reducible first | exact HK.out | apply Kept.alloc | apply Kept.drewN | apply Kept.drew | refine Kept.setCell ?_ (.inr GW513.out) _ | refine Kept.setCell ?_ (.inr GW515.out) _) | exact HK.out)) (fun k_ e_ => (HO_1.out.1 k_ e_))); replace HO_1 := Aside0.mk (hp_); clear hg hw hp_; have hcz25_0 : w24.cell? ⟨gb515, 0, none⟩ = some (.int .i64 ((rd_T68 l0_1 x13_1).f0)) := (blk_cell BK515.out 0).trans rfl; have hcz25_1 : w24.cell? ⟨gb515, 1, none⟩ = some (.int .i64 ((rd_T68 l0_1 x13_1).f1)) := (blk_cell BK515.out 1).trans rfl; have hfz25_0 := blk_frozen BK515.out 0; have hfz25_1 := blk_frozen BK515.out 1; have p518 : 0 ≤ (((rd_T68 l0_1 x13_1).f1) : Int) := of_decide_eq_true (by first | (with_reducible assumption) | assumption); have q518 : ((rd_T68 l0_1 x13_1).f1) < (y517.length : Int) := (by have h_ : (((rd_T68 l0_1 x13_1).f1) : Int) < ((x1_1.length : Int) : Int) := of_decide_eq_true (by first | (with_reducible assumption) | assumption); first | (have e_ := (Kd.R_reads' HO_1.out).1; omega) | simpa only [Ny517.out, List.length_set] using h_); have ql518 : ((((rd_T68 l0_1 x13_1).f1) : Int) < ((x1_1.length : Int) : Int)) = True := eq_true (of_decide_eq_true (by first | (with_reducible assumption) | assumption)); obtain ⟨ad518, e518, hx518_0⟩ := Kd.at_int (Kd.R_reads' HO_1.out).2.2 ((rd_T68 l0_1 x13_1).f1) p518 q518; obtain rfl : (⟨go13, 0, none⟩ : Addr) = ad518 := (by injection e518); (first | simp only [add_plain] at hx518_0 | simp only [add_at] at hx518_0 | simp only [Addr.add, Nat.zero_add] at hx518_0 | skip); replace p518 := eq_true p518; replace q518 := eq_true q518; have p16 : 0 ≤ (((rd_T68 l0_1 x13_1).f1) : Int) := of_decide_eq_true (by first | (with_reducible assumption) | assumption); have q16 : (((rd_T68 l0_1 x13_1).f1) : Int) < ((x1_1.length : Int) : Int) := of_decide_eq_true (by first | (with_reducible assumption) | assumption); obtain ⟨hx16_0, hf16_0⟩ := Kd.R_celln 0 HO_1.out (((rd_T68 l0_1 x13_1).f1) : Int) p16 q16; replace p16 := eq_true p16; replace q16 := eq_true q16; obtain ⟨hy26_, hz26_⟩ := Kd.R_celln 0 HO_1.out (((rd_T68 l0_1 x13_1).f1) : Int) (of_decide_eq_true (by first | (with_reducible assumption) | assumption)) (of_decide_eq_true (by first | (with_reducible assumption) | assumption)); have HP26 := Kd.R_putg HO_1.out (((rd_T68 l0_1 x13_1).f1) : Int) (wrap64 ((rd y517 ((rd_T68 l0_1 x13_1).f1)) + a3))) | ((with_reducible refine gate_store (t := 3) (p := 36) rfl ?_); refine store_event (t := 3) (p := 36) (v := ?vo_w27) (w1 := (w24.setCell ⟨go13, (((rd_T68 l0_1 x13_1).f1) : Int).toNat, none⟩ (.int .i64 (wrap64 ((rd y517 ((rd_T68 l0_1 x13_1).f1)) + a3))))) ?hg ?ho ?hn ?hr ?_; (case ho => rfl); (case hg => rfl); (case hn => rfl); (case hr => first | (go_simp; done) | (go_simp; rfl)); intro w27 hw; have hg : w24.grownBy w27 (some go13) := (by rw [hw]; exact HP26.2); have hp_ : Kd.R (Kd.int .i64) 3 w27 w0.heap.size (fun k_ => (P1_ k_ ∨ w.heap.size ≤ k_)) (.slice (some ⟨go13, 0, none⟩) x1_1.length co22) y519 := (by rw [hw, Ny519.out]; exact HP26.1); clear HP26; replace BK513 := Aside0.mk (blk_grown (g := gb513) (o := .cells #[.int .i64 a0_0, .slice (some ad514) l0_1.length c0_1] 37 (0, 0)) (Bz BK513) hg (Kd.R_ne HO_1.out BK513.out (by decide))); replace BK515 := Aside0.mk (blk_grown (g := gb515) (o := .cells #[.int .i64 ((rd_T68 l0_1 x13_1).f0), .int .i64 ((rd_T68 l0_1 x13_1).f1)] 68 (0, 0)) (Bz BK515) hg (Kd.R_ne HO_1.out BK515.out (by decide))); replace HB := Aside0.mk ((by rw [hw]; exact below_set (HB.out) GB13.out : Below w0.heap.size w0 w27)); replace HK := Aside0.mk (Kept.of_grown (S := (fun k_ => P1_ k_)) hg (by repeat (first | (with_reducible first | exact HK.out | apply Kept.alloc | apply Kept.drewN | apply Kept.drew | refine Kept.setCell ?_ (.inr GW513.out) _ | refine Kept.setCell ?_ (.inr GW515.out) _) | exact HK.out)) (fun k_ e_ => (HO_1.out.1 k_ e_))); replace HO_1 := Aside0.mk (hp_); clear hg hw hp_))
           go_roundg k1
           case measure => have := HK1.out; omega
           case rel => exact ⟨(y519), (wrap64 (x13_1 + 1)), (by first | rfl | (simp; done) | (simp [*]; done)), H', ⟨by have := HK1.out; omega⟩, ⟨by exact Rz HO_1⟩, ⟨by exact Bz BK513⟩, ⟨by repeat (first | (with_reducible first | exact HK.out | apply Kept.alloc | apply Kept.drewN | apply Kept.drew | refine Kept.setCell ?_ (.inr GW513.out) _ | refine Kept.setCell ?_ (.inr GW515.out) _) | exact HK.out)⟩, ⟨by exact Lz2 HB GE513 GE515⟩⟩
          rw [if_neg c15] at H
          exact absurd H (by simp)
         rw [if_neg c14] at H
         exact absurd H (by simp)
        rw [if_neg c12] at H
        exact absurd H (by simp)
       rw [if_neg c11] at H
       exact absurd H (by simp)
      rw [if_neg c10] at H
      have c10b0 : (a2 == ((rd_T68 l0_1 x13_1).f0)) = false := beq_eq_false_iff_ne.mpr c10
      have c10b1 : (a2 != ((rd_T68 l0_1 x13_1).f0)) = true := bne_iff_ne.mpr c10
      by_cases c28 : a2 = ((rd_T68 l0_1 x13_1).f1)
      ·rw [if_pos c28] at H
       have c28b0 : (a2 == ((rd_T68 l0_1 x13_1).f1)) = true := beq_iff_eq.mpr c28
       have c28b1 : (a2 != ((rd_T68 l0_1 x13_1).f1)) = false := bne_eq_false_iff_eq.mpr c28
       clear c28
       by_cases c29 : 0 ≤ a2
       ·rw [if_pos c29] at H
        have c29b0 : decide (0 ≤ a2) = true := decide_eq_true c29
        clear c29
        by_cases c30 : a2 < (x1_1.length : Int)
        ·rw [if_pos c30] at H
         have c30b0 : decide (a2 < (x1_1.length : Int)) = true := decide_eq_true c30
         clear c30
         obtain ⟨y521, hy521⟩ : ∃ y_ : List Int, y_ = (x1_1.set (a2 : Int).toNat (wrap64 ((rd x1_1 a2) - a3))) := ⟨_, rfl⟩
         replace H : (if 0 ≤ ((rd_T68 l0_1 x13_1).f0) then (if ((rd_T68 l0_1 x13_1).f0) < (x1_1.length : Int) then (impl_fire.l0 k1 (y521.set (((rd_T68 l0_1 x13_1).f0) : Int).toNat (wrap64 ((rd y521 ((rd_T68 l0_1 x13_1).f0)) + a3))) a2 a3 l0_1 (l0_1.length : Int) (wrap64 (x13_1 + 1))) else (none)) else (none)) = some r := by first | (rw [hy521]; with_reducible exact H) | (have H2_ := (Option.bind_some _ _).symm.trans H; rw [hy521]; with_reducible exact H2_) | (have H2_ := (Option.bind_some _ _).symm.trans H; with_reducible exact H2_) | with_reducible exact H | (rw [hy521]; exact H) | exact H
         have Ny521 := Aside0.mk hy521
         clear hy521
         by_cases c32 : 0 ≤ ((rd_T68 l0_1 x13_1).f0)
         ·rw [if_pos c32] at H
          have c32b0 : decide (0 ≤ ((rd_T68 l0_1 x13_1).f0)) = true := decide_eq_true c32
          clear c32
          by_cases c33 : ((rd_T68 l0_1 x13_1).f0) < (x1_1.length : Int)
          ·rw [if_pos c33] at H
           have c33b0 : decide (((rd_T68 l0_1 x13_1).f0) < (x1_1.length : Int)) = true := decide_eq_true c33
           clear c33
           obtain ⟨y523, hy523⟩ : ∃ y_ : List Int, y_ = (y521.set (((rd_T68 l0_1 x13_1).f0) : Int).toNat (wrap64 ((rd y521 ((rd_T68 l0_1 x13_1).f0)) + a3))) := ⟨_, rfl⟩
           replace H : (impl_fire.l0 k1 y523 a2 a3 l0_1 (l0_1.length : Int) (wrap64 (x13_1 + 1))) = some r := by first | (rw [hy523]; with_reducible exact H) | (have H2_ := (Option.bind_some _ _).symm.trans H; rw [hy523]; with_reducible exact H2_) | (have H2_ := (Option.bind_some _ _).symm.trans H; with_reducible exact H2_) | with_reducible exact H | (rw [hy523]; exact H) | exact H
           have Ny523 := Aside0.mk hy523
           clear hy523
           have H' := Aside0.mk H
           clear H
           have p514 : 0 ≤ (x13_1 : Int) := of_decide_eq_true (by first | (with_reducible assumption) | assumption)
           have q514 : x13_1 < (l0_1.length : Int) := of_decide_eq_true (by first | (with_reducible assumption) | assumption)
           obtain ⟨ad514, e514, hx514_0, hx514_1⟩ := at_T68 (Kd.C_kept_now HR0_1.out HK.out) x13_1 p514 q514
           cases e514
           replace p514 := eq_true p514
           replace q514 := eq_true q514
           go_wp2_with (first | ((with_reducible refine gate_dst (N := 9) rfl ?_); refine box_event ?hg (N := 9) ?hd (cs := #[.int .i64 0, .int .i64 0]) (t := 68) ?hr ?_; (case hd => rfl); (case hg => rfl); (case hr => first | (go_simp; done) | (go_simp; rfl)); intro gb515 hg w35 hbox hb; replace HO_1 := Aside0.mk (Kd.R_below (Rz HO_1) hb); have BK515 := Aside0.mk (hbox); have GW515 := Aside0.mk ((by rw [hg]; exact (by first | exact HK.out.1 | exact (show Kept w _ (fun k_ => P1_ k_) from by repeat (first | (with_reducible first | exact HK.out | apply Kept.alloc | apply Kept.drewN | apply Kept.drew | refine Kept.setCell ?_ (.inr GW513.out) _) | exact HK.out)).1) : w.heap.size ≤ gb515)); replace HK := Aside0.mk (Kept.below (S := (fun k_ => P1_ k_)) (by repeat (first | (with_reducible first | exact HK.out | apply Kept.alloc | apply Kept.drewN | apply Kept.drew | refine Kept.setCell ?_ (.inr GW513.out) _) | exact HK.out)) hb); have GE515 := Aside0.mk ((by rw [hg]; exact (below_size (by exact Lz1 HB GE513)) : w0.heap.size ≤ gb515)); replace HB := Aside0.mk (below_step (by exact Lz1 HB GE513) hb); have NB513_515 := Aside0.mk ((by rw [hg]; exact Nat.ne_of_lt (blk_lt (g := gb513) (o := .cells #[.int .i64 a0_0, .slice (some ad514) l0_1.length c0_1] 37 (0, 0)) (Bz BK513)) : gb513 ≠ gb515)); have NB515_513 := Aside0.mk ((by rw [hg]; exact Nat.ne_of_gt (blk_lt (g := gb513) (o := .cells #[.int .i64 a0_0, .slice (some ad514) l0_1.length c0_1] 37 (0, 0)) (Bz BK513)) : gb515 ≠ gb513)); replace BK513 := Aside0.mk (blk_below (g := gb513) (o := .cells #[.int .i64 a0_0, .slice (some ad514) l0_1.length c0_1] 37 (0, 0)) (Bz BK513) hb); clear hb hbox hg; have hnb36 := NB515_513.out; have hnc36 := NB513_515.out; have hcz37_0 : w35.cell? ⟨gb515, 0, none⟩ = some (.int .i64 0) := (blk_cell BK515.out 0).trans rfl; have hcz37_1 : w35.cell? ⟨gb515, 1, none⟩ = some (.int .i64 0) := (blk_cell BK515.out 1).trans rfl; have hfz37_0 := blk_frozen BK515.out 0; have hfz37_1 := blk_frozen BK515.out 1) | ((with_reducible refine gate_store (t := 68) (p := 9) rfl ?_); refine store_event (t := 68) (p := 9) (v := ?vo_w38) (w1 := ((w35.setCell ⟨gb515, 0, none⟩ (.int .i64 ((rd_T68 l0_1 x13_1).f0))).setCell ⟨gb515, 1, none⟩ (.int .i64 ((rd_T68 l0_1 x13_1).f1)))) ?hg ?ho ?hn ?hr ?_; (case ho => rfl); (case hg => rfl); (case hn => rfl); (case hr => first | (go_simp; done) | (go_simp; rfl)); intro w38 hw; have n0_ : Aside0 (Kd.R (Kd.int .i64) 3 w38 w0.heap.size (fun k_ => (P1_ k_ ∨ w.heap.size ≤ k_)) u9000_ x1_1) := ⟨(by rw [hw]; exact (by (with_reducible repeat (first | apply Kd.R_alloc | apply Kd.R_drewN | apply Kd.R_drew)); exact Kd.R_mono (Kd.R_far (p := ⟨gb515, 1, none⟩) (Kd.R_far (p := ⟨gb515, 0, none⟩) (Kd.R_types HO_1.out BK515.out (by decide)) (fun _ hk => hk.2) (.int .i64 ((rd_T68 l0_1 x13_1).f0))) (fun _ hk => hk.2) (.int .i64 ((rd_T68 l0_1 x13_1).f1))) (fun _ hk => hk.1)))⟩; have n1_ : Aside0 (w38.heap[gb513]? = some (.cells #[.int .i64 a0_0, .slice (some ad514) l0_1.length c0_1] 37 (0, 0))) := ⟨(by rw [hw]; exact (by (with_reducible repeat (first | refine blk_drewN ?_ _ | refine blk_drew ?_ | refine blk_alloc ?_ _)); refine blk_far ?_ NB513_515.out _; (with_reducible repeat (first | refine blk_drewN ?_ _ | refine blk_drew ?_ | refine blk_alloc ?_ _)); refine blk_far ?_ NB513_515.out _; exact Bz BK513))⟩; have n2_ : Aside0 (w38.heap[gb515]? = some (.cells #[.int .i64 ((rd_T68 l0_1 x13_1).f0), .int .i64 ((rd_T68 l0_1 x13_1).f1)] 68 (0, 0))) := ⟨(by rw [hw]; exact (by (with_reducible repeat (first | refine blk_drewN ?_ _ | refine blk_drew ?_ | refine blk_alloc ?_ _)); refine blk_put (cs := #[.int .i64 ((rd_T68 l0_1 x13_1).f0), .int .i64 0]) ?_ 1 _ rfl; (with_reducible repeat (first | refine blk_drewN ?_ _ | refine blk_drew ?_ | refine blk_alloc ?_ _)); refine blk_put (cs := #[.int .i64 0, .int .i64 0]) ?_ 0 _ rfl; exact Bz BK515))⟩; have n3_ : Aside0 (Kept w w38 (fun k_ => P1_ k_)) := ⟨(by rw [hw]; exact (by repeat (first | (with_reducible first | exact HK.out | apply Kept.alloc | apply Kept.drewN | apply Kept.drew | refine Kept.setCell ?_ (.inr GW513.out) _ | refine Kept.setCell ?_ (.inr GW515.out) _) | exact HK.out)))⟩; have n4_ : Aside0 (Below w0.heap.size w0 w38) := ⟨(by rw [hw]; exact (by exact Lz2 HB GE513 GE515))⟩; clear hw; clear HO_1; clear BK513; clear BK515; clear HK; clear HB; have HO_1 := n0_; have BK513 := n1_; have BK515 := n2_; have HK := n3_; have HB := n4_; clear n0_ n1_ n2_ n3_ n4_; have hcz39_0 : w38.cell? ⟨gb515, 0, none⟩ = some (.int .i64 ((rd_T68 l0_1 x13_1).f0)) := (blk_cell BK515.out 0).trans rfl; have hcz39_1 : w38.cell? ⟨gb515, 1, none⟩ = some (.int .i64 ((rd_T68 l0_1 x13_1).f1)) := (blk_cell BK515.out 1).trans rfl; have hfz39_0 := blk_frozen BK515.out 0; have hfz39_1 := blk_frozen BK515.out 1; obtain ⟨Ao40, co40, eo40⟩ := Kd.R_slice HO_1.out; subst eo40; have p520 : 0 ≤ (a2 : Int) := of_decide_eq_true (by first | (with_reducible assumption) | assumption); have q520 : a2 < (x1_1.length : Int) := of_decide_eq_true (by first | (with_reducible assumption) | assumption); obtain ⟨ad520, e520, hx520_0⟩ := Kd.at_int (Kd.R_reads' HO_1.out).2.2 a2 p520 q520; cases e520; replace p520 := eq_true p520; replace q520 := eq_true q520; have p31 : 0 ≤ (a2 : Int) := of_decide_eq_true (by first | (with_reducible assumption) | assumption); have q31 : (a2 : Int) < ((x1_1.length : Int) : Int) := of_decide_eq_true (by first | (with_reducible assumption) | assumption); obtain ⟨go31, co31, eo31, gb31, gl31, cl31, HG31⟩ := Kd.R_form HO_1.out (by omega); (first | cases eo31 | (injection eo31 with ea_ en_ ec_; (first | subst ea_ | (injection ea_ with ea_; subst ea_)); subst ec_; clear en_)); have GB31 := Aside0.mk gb31; have GG31 := Aside0.mk HG31; clear gb31 gl31 HG31; have HMgo31 := Aside0.mk (show (P1_ go31 ∨ w.heap.size ≤ go31) from (HO_1.out.1 _ rfl)); (first | simp only [add_plain] at hx520_0 | skip); obtain ⟨hx31_0, hf31_0⟩ := Kd.R_celln 0 HO_1.out (a2 : Int) p31 q31; replace p31 := eq_true p31; replace q31 := eq_true q31; obtain ⟨hy41_, hz41_⟩ := Kd.R_celln 0 HO_1.out (a2 : Int) (of_decide_eq_true (by first | (with_reducible assumption) | assumption)) (of_decide_eq_true (by first | (with_reducible assumption) | assumption)); have HP41 := Kd.R_putg HO_1.out (a2 : Int) (wrap64 ((rd x1_1 a2) - a3))) | ((with_reducible refine gate_store (t := 3) (p := 47) rfl ?_); refine store_event (t := 3) (p := 47) (v := ?vo_w42) (w1 := (w38.setCell ⟨go31, (a2 : Int).toNat, none⟩ (.int .i64 (wrap64 ((rd x1_1 a2) - a3))))) ?hg ?ho ?hn ?hr ?_; (case ho => rfl); (case hg => rfl); (case hn => rfl); (case hr => first | (go_simp; done) | (go_simp; rfl)); intro w42 hw; have hg : w38.grownBy w42 (some go31) := (by rw [hw]; exact HP41.2); have hp_ : Kd.R (Kd.int .i64) 3 w42 w0.heap.size (fun k_ => (P1_ k_ ∨ w.heap.size ≤ k_)) (.slice (some ⟨go31, 0, none⟩) x1_1.length co40) y521 := (by rw [hw, Ny521.out]; exact HP41.1); clear HP41; replace BK513 := Aside0.mk (blk_grown (g := gb513) (o := .cells #[.int .i64 a0_0, .slice (some ad514) l0_1.length c0_1] 37 (0, 0)) (Bz BK513) hg (Kd.R_ne HO_1.out BK513.out (by decide))); replace BK515 := Aside0.mk (blk_grown (g := gb515) (o := .cells #[.int .i64 ((rd_T68 l0_1 x13_1).f0), .int .i64 ((rd_T68 l0_1 x13_1).f1)] 68 (0, 0)) (Bz BK515) hg (Kd.R_ne HO_1.out BK515.out (by decide))); replace HB := Aside0.mk ((by rw [hw]; exact below_set (HB.out) GB31.out : Below w0.heap.size w0 w42)); replace HK := Aside0.mk (Kept.of_grown (S := (fun k_ => P1_ k_)) hg (by repeat (first | (with_reducible first | exact HK.out | apply Kept.alloc | apply Kept.drewN | apply Kept.drew | refine Kept.setCell ?_ (.inr GW513.out) _ | refine Kept.setCell ?_ (.inr GW515.out) _) | exact HK.out)) (fun k_ e_ => (HO_1.out.1 k_ e_))); replace HO_1 := Aside0.mk (hp_); clear hg hw hp_; have hcz43_0 : w42.cell? ⟨gb515, 0, none⟩ = some (.int .i64 ((rd_T68 l0_1 x13_1).f0)) := (blk_cell BK515.out 0).trans rfl; have hcz43_1 : w42.cell? ⟨gb515, 1, none⟩ = some (.int .i64 ((rd_T68 l0_1 x13_1).f1)) := (blk_cell BK515.out 1).trans rfl; have hfz43_0 := blk_frozen BK515.out 0; have hfz43_1 := blk_frozen BK515.out 1; have p522 : 0 ≤ (((rd_T68 l0_1 x13_1).f0) : Int) := of_decide_eq_true (by first | (with_reducible assumption) | assumption); have q522 : ((rd_T68 l0_1 x13_1).f0) < (y521.length : Int) := (by have h_ : (((rd_T68 l0_1 x13_1).f0) : Int) < ((x1_1.length : Int) : Int) := of_decide_eq_true (by first | (with_reducible assumption) | assumption); first | (have e_ := (Kd.R_reads' HO_1.out).1; omega) | simpa only [Ny521.out, List.length_set] using h_); have ql522 : ((((rd_T68 l0_1 x13_1).f0) : Int) < ((x1_1.length : Int) : Int)) = True := eq_true (of_decide_eq_true (by first | (with_reducible assumption) | assumption)); obtain ⟨ad522, e522, hx522_0⟩ := Kd.at_int (Kd.R_reads' HO_1.out).2.2 ((rd_T68 l0_1 x13_1).f0) p522 q522; obtain rfl : (⟨go31, 0, none⟩ : Addr) = ad522 := (by injection e522); (first | simp only [add_plain] at hx522_0 | simp only [add_at] at hx522_0 | simp only [Addr.add, Nat.zero_add] at hx522_0 | skip); replace p522 := eq_true p522; replace q522 := eq_true q522; have p34 : 0 ≤ (((rd_T68 l0_1 x13_1).f0) : Int) := of_decide_eq_true (by first | (with_reducible assumption) | assumption); have q34 : (((rd_T68 l0_1 x13_1).f0) : Int) < ((x1_1.length : Int) : Int) := of_decide_eq_true (by first | (with_reducible assumption) | assumption); obtain ⟨hx34_0, hf34_0⟩ := Kd.R_celln 0 HO_1.out (((rd_T68 l0_1 x13_1).f0) : Int) p34 q34; replace p34 := eq_true p34; replace q34 := eq_true q34; obtain ⟨hy44_, hz44_⟩ := Kd.R_celln 0 HO_1.out (((rd_T68 l0_1 x13_1).f0) : Int) (of_decide_eq_true (by first | (with_reducible assumption) | assumption)) (of_decide_eq_true (by first | (with_reducible assumption) | assumption)); have HP44 := Kd.R_putg HO_1.out (((rd_T68 l0_1 x13_1).f0) : Int) (wrap64 ((rd y521 ((rd_T68 l0_1 x13_1).f0)) + a3))) | ((with_reducible refine gate_store (t := 3) (p := 55) rfl ?_); refine store_event (t := 3) (p := 55) (v := ?vo_w45) (w1 := (w42.setCell ⟨go31, (((rd_T68 l0_1 x13_1).f0) : Int).toNat, none⟩ (.int .i64 (wrap64 ((rd y521 ((rd_T68 l0_1 x13_1).f0)) + a3))))) ?hg ?ho ?hn ?hr ?_; (case ho => rfl); (case hg => rfl); (case hn => rfl); (case hr => first | (go_simp; done) | (go_simp; rfl)); intro w45 hw; have hg : w42.grownBy w45 (some go31) := (by rw [hw]; exact HP44.2); have hp_ : Kd.R (Kd.int .i64) 3 w45 w0.heap.size (fun k_ => (P1_ k_ ∨ w.heap.size ≤ k_)) (.slice (some ⟨go31, 0, none⟩) x1_1.length co40) y523 := (by rw [hw, Ny523.out]; exact HP44.1); clear HP44; replace BK513 := Aside0.mk (blk_grown (g := gb513) (o := .cells #[.int .i64 a0_0, .slice (some ad514) l0_1.length c0_1] 37 (0, 0)) (Bz BK513) hg (Kd.R_ne HO_1.out BK513.out (by decide))); replace BK515 := Aside0.mk (blk_grown (g := gb515) (o := .cells #[.int .i64 ((rd_T68 l0_1 x13_1).f0), .int .i64 ((rd_T68 l0_1 x13_1).f1)] 68 (0, 0)) (Bz BK515) hg (Kd.R_ne HO_1.out BK515.out (by decide))); replace HB := Aside0.mk ((by rw [hw]; exact below_set (HB.out) GB31.out : Below w0.heap.size w0 w45)); replace HK := Aside0.mk (Kept.of_grown (S := (fun k_ => P1_ k_)) hg (by repeat (first | (with_reducible first | exact HK.out | apply Kept.alloc | apply Kept.drewN | apply Kept.drew | refine Kept.setCell ?_ (.inr GW513.out) _ | refine Kept.setCell ?_ (.inr GW515.out) _) | exact HK.out)) (fun k_ e_ => (HO_1.out.1 k_ e_))); replace HO_1 := Aside0.mk (hp_); clear hg hw hp_))
           go_roundg k1
           case measure => have := HK1.out; omega
           case rel => exact ⟨(y523), (wrap64 (x13_1 + 1)), (by first | rfl | (simp; done) | (simp [*]; done)), H', ⟨by have := HK1.out; omega⟩, ⟨by exact Rz HO_1⟩, ⟨by exact Bz BK513⟩, ⟨by repeat (first | (with_reducible first | exact HK.out | apply Kept.alloc | apply Kept.drewN | apply Kept.drew | refine Kept.setCell ?_ (.inr GW513.out) _ | refine Kept.setCell ?_ (.inr GW515.out) _) | exact HK.out)⟩, ⟨by exact Lz2 HB GE513 GE515⟩⟩
          rw [if_neg c33] at H
          exact absurd H (by simp)
         rw [if_neg c32] at H
         exact absurd H (by simp)
        rw [if_neg c30] at H
        exact absurd H (by simp)
       rw [if_neg c29] at H
       exact absurd H (by simp)
      rw [if_neg c28] at H
      have c28b0 : (a2 == ((rd_T68 l0_1 x13_1).f1)) = false := beq_eq_false_iff_ne.mpr c28
      have c28b1 : (a2 != ((rd_T68 l0_1 x13_1).f1)) = true := bne_iff_ne.mpr c28
      have H' := Aside0.mk H
      clear H
      have p514 : 0 ≤ (x13_1 : Int) := of_decide_eq_true (by first | (with_reducible assumption) | assumption)
      have q514 : x13_1 < (l0_1.length : Int) := of_decide_eq_true (by first | (with_reducible assumption) | assumption)
      obtain ⟨ad514, e514, hx514_0, hx514_1⟩ := at_T68 (Kd.C_kept_now HR0_1.out HK.out) x13_1 p514 q514
      cases e514
      replace p514 := eq_true p514
      replace q514 := eq_true q514
      go_wp2_with (first | ((with_reducible refine gate_dst (N := 9) rfl ?_); refine box_event ?hg (N := 9) ?hd (cs := #[.int .i64 0, .int .i64 0]) (t := 68) ?hr ?_; (case hd => rfl); (case hg => rfl); (case hr => first | (go_simp; done) | (go_simp; rfl)); intro gb515 hg w46 hbox hb; replace HO_1 := Aside0.mk (Kd.R_below (Rz HO_1) hb); have BK515 := Aside0.mk (hbox); have GW515 := Aside0.mk ((by rw [hg]; exact (by first | exact HK.out.1 | exact (show Kept w _ (fun k_ => P1_ k_) from by repeat (first | (with_reducible first | exact HK.out | apply Kept.alloc | apply Kept.drewN | apply Kept.drew | refine Kept.setCell ?_ (.inr GW513.out) _) | exact HK.out)).1) : w.heap.size ≤ gb515)); replace HK := Aside0.mk (Kept.below (S := (fun k_ => P1_ k_)) (by repeat (first | (with_reducible first | exact HK.out | apply Kept.alloc | apply Kept.drewN | apply Kept.drew | refine Kept.setCell ?_ (.inr GW513.out) _) | exact HK.out)) hb); have GE515 := Aside0.mk ((by rw [hg]; exact (below_size (by exact Lz1 HB GE513)) : w0.heap.size ≤ gb515)); replace HB := Aside0.mk (below_step (by exact Lz1 HB GE513) hb); have NB513_515 := Aside0.mk ((by rw [hg]; exact Nat.ne_of_lt (blk_lt (g := gb513) (o := .cells #[.int .i64 a0_0, .slice (some ad514) l0_1.length c0_1] 37 (0, 0)) (Bz BK513)) : gb513 ≠ gb515)); have NB515_513 := Aside0.mk ((by rw [hg]; exact Nat.ne_of_gt (blk_lt (g := gb513) (o := .cells #[.int .i64 a0_0, .slice (some ad514) l0_1.length c0_1] 37 (0, 0)) (Bz BK513)) : gb515 ≠ gb513)); replace BK513 := Aside0.mk (blk_below (g := gb513) (o := .cells #[.int .i64 a0_0, .slice (some ad514) l0_1.length c0_1] 37 (0, 0)) (Bz BK513) hb); clear hb hbox hg; have hnb47 := NB515_513.out; have hnc47 := NB513_515.out; have hcz48_0 : w46.cell? ⟨gb515, 0, none⟩ = some (.int .i64 0) := (blk_cell BK515.out 0).trans rfl; have hcz48_1 : w46.cell? ⟨gb515, 1, none⟩ = some (.int .i64 0) := (blk_cell BK515.out 1).trans rfl; have hfz48_0 := blk_frozen BK515.out 0; have hfz48_1 := blk_frozen BK515.out 1))
      go_roundg k1
      case measure => have := HK1.out; omega
      case rel => exact ⟨(x1_1), (wrap64 (x13_1 + 1)), (by first | rfl | (simp; done) | (simp [*]; done)), H', ⟨by have := HK1.out; omega⟩, ⟨by (with_reducible repeat (first | apply Kd.R_alloc | apply Kd.R_drewN | apply Kd.R_drew)); exact Kd.R_mono (Kd.R_far (p := ⟨gb515, 1, none⟩) (Kd.R_far (p := ⟨gb515, 0, none⟩) (Kd.R_types HO_1.out BK515.out (by decide)) (fun _ hk => hk.2) (.int .i64 ((rd_T68 l0_1 x13_1).f0))) (fun _ hk => hk.2) (.int .i64 ((rd_T68 l0_1 x13_1).f1))) (fun _ hk => hk.1)⟩, ⟨by (with_reducible repeat (first | refine blk_drewN ?_ _ | refine blk_drew ?_ | refine blk_alloc ?_ _)); refine blk_far ?_ NB513_515.out _; (with_reducible repeat (first | refine blk_drewN ?_ _ | refine blk_drew ?_ | refine blk_alloc ?_ _)); refine blk_far ?_ NB513_515.out _; exact Bz BK513⟩, ⟨by repeat (first | (with_reducible first | exact HK.out | apply Kept.alloc | apply Kept.drewN | apply Kept.drew | refine Kept.setCell ?_ (.inr GW513.out) _ | refine Kept.setCell ?_ (.inr GW515.out) _) | exact HK.out)⟩, ⟨by exact Lz2 HB GE513 GE515⟩⟩
     rw [if_neg c9] at H
     exact absurd H (by simp)
    rw [if_neg c8] at H
    exact absurd H (by simp)
   rw [if_neg c7] at H
   have c7b0 : decide (x13_1 < (l0_1.length : Int)) = false := decide_eq_false c7
   clear c7
   obtain rfl := Option.some.inj H
   go_wp2
   first | go_end0 | ((try simp only [Exit.inBlock, Exit.then]); refine bodyPost_ret (results_none rfl _ _ _) rfl ?_)
   exact ⟨by first | rfl | (simp [errW_none, errW_some] <;> rfl) | (simp [*, errW_none, errW_some] <;> rfl), by exact Rz HO_1, by exact Lz1 HB GE513, by repeat (first | (with_reducible first | exact HK.out | apply Kept.alloc | apply Kept.drewN | apply Kept.drew | refine Kept.setCell ?_ (.inr GW513.out) _) | exact HK.out)⟩

/-! ### impl_fired: function 83 -/
def impl_fired.l0 : Nat → List Int → List Int → Int → Int → Int → List (S68) → Option (List Int)
 | 0, _, _, _, _, _, _ => none
 | k + 1, x7, x12, x13, x14, x525000, x525001 => if x14 < x13 then (if 0 ≤ x14 then (if x14 < (x12.length : Int) then ((impl_fire.f k x525000 x525001 x7 x14 (rd x12 x14)).bind fun t529 => (impl_fired.l0 k t529 x12 x13 (wrap64 (x14 + 1)) x525000 x525001)) else (none)) else (none)) else (some x7)
def impl_fired.f (k : Nat) (a0_0 : Int) (l0_1 : List (S68)) (l1 : List Int) (l2 : List Int) : Option (List Int) := (impl_copyInts.f l1).bind fun t525 => (impl_fired.l0 k t525 l2 (l2.length : Int) 0 a0_0 l0_1)
set_option maxHeartbeats 8000000 in
set_option maxRecDepth 100000 in
theorem impl_fired.calls (k : Nat) (a0_0 : Int) (A0_1 : Option Addr) (c0_1 : Nat) (l0_1 : List (S68)) (A1 : Option Addr) (c1 : Nat) (l1 : List Int) (A2 : Option Addr) (c2 : Nat) (l2 : List Int) (r : List Int) (w : World) (hr0_1 : Kd.C k68 w A0_1 l0_1.length l0_1) (hc0_1 : l0_1.length ≤ c0_1) (hr1 : Kd.C (Kd.int .i64) w A1 l1.length l1) (hc1 : l1.length ≤ c1) (hr2 : Kd.C (Kd.int .i64) w A2 l2.length l2) (hc2 : l2.length ≤ c2) (h : impl_fired.f k a0_0 l0_1 l1 l2 = some r) :
  Calls Try.prog 83 #[.agg #[.int .i64 a0_0, .slice A0_1 l0_1.length c0_1], .slice A1 l1.length c1, .slice A2 l2.length c2] w fun e w' => ∃ v0_ : Value, e = .returned (v0_) ∧ Kd.R (Kd.int .i64) 3 w' w.heap.size (fun _ => True) v0_ r ∧ Below w.heap.size w w' := by
 have hu37 := Try.underlying37
 have HR0_1 := Aside0.mk hr0_1
 have HC0_1 := Aside0.mk hc0_1
 clear hr0_1 hc0_1
 have HR1 := Aside0.mk hr1
 have HC1 := Aside0.mk hc1
 clear hr1 hc1
 have HR2 := Aside0.mk hr2
 have HC2 := Aside0.mk hc2
 clear hr2 hc2
 have HB := Aside0.mk (Below.refl w.heap.size w)
 have H : ((impl_copyInts.f l1).bind fun t525 => (impl_fired.l0 k t525 l2 (l2.length : Int) 0 a0_0 l0_1)) = some r := h
 clear h
 replace H := Option.bind_eq_some_iff.mp H
 obtain ⟨t525, A40, H⟩ := H
 replace H : (impl_fired.l0 k t525 l2 (l2.length : Int) 0 a0_0 l0_1) = some r := H
 have A4 := Aside0.mk A40
 clear A40
 have H' := Aside0.mk H
 clear H
 go_enter Try.func83, Try.ntmps83
 go_wp2_with (first | ((with_reducible refine gate_dst (N := 3) rfl ?_); refine box_event ?hg (N := 3) ?hd (cs := #[.int .i64 a0_0, .slice A0_1 l0_1.length c0_1]) (t := 37) ?hr ?_; (case hd => rfl); (case hg => rfl); (case hr => first | (go_simp; done) | (go_simp; rfl)); intro gb524 hg w5 hbox hb; have BK524 := Aside0.mk (hbox); have GW524 := Aside0.mk ((by rw [hg]; exact (below_size (Lz HB)) : w.heap.size ≤ gb524)); have GE524 := Aside0.mk ((by rw [hg]; exact (below_size (Lz HB)) : w.heap.size ≤ gb524)); replace HB := Aside0.mk (below_step (Lz HB) hb); clear hb hbox hg) | ((with_reducible refine gate_callee (f := 106) rfl ?_); refine goesM_ (some 11) rfl rfl Try.func106 (by kernel_rfl) rfl #[.slice A1 l1.length c1] rfl ?_; (with_reducible refine (impl_copyInts.calls _ _ l1 t525 _ ?side1 ?side2 A4.out).mono ?_); (case side1 => exact Cz ((Kd.C_below HR1.out HB.out))); (case side2 => exact HC1.out); rintro e w6 ⟨v526, rfl, ho0, hb⟩; refine ⟨_, rfl, ?_⟩; have HO527 := Aside0.mk (Kd.R_lower ho0 (below_size (by exact Lz1 HB GE524))); replace BK524 := Aside0.mk (blk_below (g := gb524) (o := .cells #[.int .i64 a0_0, .slice A0_1 l0_1.length c0_1] 37 (0, 0)) (Bz BK524) hb); replace HB := Aside0.mk (below_step (by exact Lz1 HB GE524) hb); (try clear hb); (try clear ho0)))
 go_loopg [14] k (fun kq v14 w' => ∃ (x7_1 : List Int) (x14_1 : Int), v14 = .int .i64 x14_1 ∧ Aside0 (impl_fired.l0 kq x7_1 l2 (l2.length : Int) x14_1 a0_0 l0_1 = some r) ∧ Aside0 (kq ≤ k) ∧ Aside0 (Kd.R (Kd.int .i64) 3 w' w.heap.size (fun _ => True) v526 x7_1) ∧ Aside0 (w'.heap[gb524]? = some (.cells #[.int .i64 a0_0, (.slice A0_1 l0_1.length c0_1)] 37 (0, 0))) ∧ Aside0 (Below w.heap.size w w'))
 case atStart => exact ⟨(t525), (0), (by first | rfl | (simp; done) | (simp [*]; done)), H', ⟨Nat.le_refl _⟩, ⟨by exact Rz HO527⟩, ⟨by exact Bz BK524⟩, ⟨by exact Lz1 HB GE524⟩⟩
 case round =>
  clear H'
  try clear c1
  try clear c2
  obtain ⟨x7_1, x14_1, rfl, HA, HK1, HO_7, BK524, HB⟩ := hrel
  cases gk with
  | zero => exact absurd HA.out (by simp [impl_fired.l0])
  | succ k1 =>
   have H := HA.out
   clear HA
   simp only [impl_fired.l0] at H
   by_cases c7 : x14_1 < (l2.length : Int)
   ·rw [if_pos c7] at H
    have c7b0 : decide (x14_1 < (l2.length : Int)) = true := decide_eq_true c7
    clear c7
    by_cases c8 : 0 ≤ x14_1
    ·rw [if_pos c8] at H
     have c8b0 : decide (0 ≤ x14_1) = true := decide_eq_true c8
     clear c8
     by_cases c9 : x14_1 < (l2.length : Int)
     ·rw [if_pos c9] at H
      have c9b0 : decide (x14_1 < (l2.length : Int)) = true := decide_eq_true c9
      clear c9
      replace H := Option.bind_eq_some_iff.mp H
      obtain ⟨t529, A100, H⟩ := H
      replace H : (impl_fired.l0 k1 t529 l2 (l2.length : Int) (wrap64 (x14_1 + 1)) a0_0 l0_1) = some r := H
      have A10 := Aside0.mk A100
      clear A100
      have H' := Aside0.mk H
      clear H
      have p528 : 0 ≤ (x14_1 : Int) := of_decide_eq_true (by first | (with_reducible assumption) | assumption)
      have q528 : x14_1 < (l2.length : Int) := of_decide_eq_true (by first | (with_reducible assumption) | assumption)
      obtain ⟨ad528, e528, hx528_0⟩ := Kd.at_int HR2.out x14_1 p528 q528
      cases e528
      replace hx528_0 := (HB.out.cell (World.block_lt_of_cell? w _ hx528_0)).trans hx528_0
      replace p528 := eq_true p528
      replace q528 := eq_true q528
      have hcz11_0 : wr.cell? ⟨gb524, 0, none⟩ = some (.int .i64 a0_0) := (blk_cell BK524.out 0).trans rfl
      have hcz11_1 : wr.cell? ⟨gb524, 1, none⟩ = some (.slice A0_1 l0_1.length c0_1) := (blk_cell BK524.out 1).trans rfl
      have hfz11_0 := blk_frozen BK524.out 0
      have hfz11_1 := blk_frozen BK524.out 1
      obtain ⟨Ao12, co12, eo12⟩ := Kd.R_slice HO_7.out
      subst eo12
      go_wp2_with (first | ((with_reducible refine gate_callee (f := 107) rfl ?_); refine goesM_ (some 23) rfl rfl Try.func107 (by kernel_rfl) rfl #[.agg #[.int .i64 a0_0, .slice A0_1 l0_1.length c0_1], .slice Ao12 x7_1.length co12, .int .i64 x14_1, .int .i64 (rd l2 x14_1)] rfl ?_; (with_reducible refine (impl_fire.calls k1 a0_0 _ _ l0_1 (fun k_ => some k_ = (.slice Ao12 x7_1.length co12 : Value).ownBlock) (.slice Ao12 x7_1.length co12) x7_1 x14_1 (rd l2 x14_1) t529 w _ ?side1 ?side2 ?side3 ?side4 A10.out).mono ?_); (case side1 => exact Lz1 HB GE524); (case side2 => exact Kd.C_kept_came k68_heap HR0_1.out (by exact Lz1 HB GE524) (fun k_ hs_ => (fun e_ => Kd.R_base HO_7.out k_ e_.symm) hs_)); (case side3 => exact HC0_1.out); (case side4 => exact Kd.R_tight rfl HO_7.out); rintro e w13 ⟨rfl, hy0, hb, hkp⟩; refine ⟨_, rfl, ?_⟩; replace BK524 := Aside0.mk (blk_kept (Bz BK524) hkp (fun hs_ => (fun e_ => (Kd.R_ne HO_7.out BK524.out (by decide)) e_) hs_)); replace HO_7 := Aside0.mk (Kd.R_reok rfl hy0 (fun k_ e_ => HO_7.out.1 k_ e_)); replace HB := Aside0.mk (hb); (try clear hb); (try clear hkp); (try clear hy0)))
      go_roundg k1
      case measure => have := HK1.out; omega
      case rel => exact ⟨(t529), (wrap64 (x14_1 + 1)), (by first | rfl | (simp; done) | (simp [*]; done)), H', ⟨by have := HK1.out; omega⟩, ⟨by exact Rz HO_7⟩, ⟨by exact Bz BK524⟩, ⟨by exact Lz1 HB GE524⟩⟩
     rw [if_neg c9] at H
     exact absurd H (by simp)
    rw [if_neg c8] at H
    exact absurd H (by simp)
   rw [if_neg c7] at H
   have c7b0 : decide (x14_1 < (l2.length : Int)) = false := decide_eq_false c7
   clear c7
   obtain rfl := Option.some.inj H
   go_wp2
   go_ret
   exact ⟨_, by first | rfl | (simp [errW_none, errW_some] <;> rfl) | (simp [*, errW_none, errW_some] <;> rfl), by exact Rz HO_7, by exact Lz1 HB GE524⟩

end Go.Proofs.Ytfpcgccnhpfcnaa.P
