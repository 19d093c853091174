/- Functions of the program as plain Lean functions and that the machine's calls answer as they do, the words of the print that these use, lemmas and plain proofs of laws. Put together by a program of this work that leaves out what nothing uses; Lean checks it. -/
import Derived.Test.YtplcclifmajcfaaGadccbf711f
import Derived.Test.YtplcclifmajcfaaG93f7dcd6b6
import Derived.Test.YtplcclifmajcfaaG0fda13519b
import Derived.Test.YtplcclifmajcfaaGa72f26dfdf
import Derived.Test.YtplcclifmajcfaaG804bd74855
import Derived.Test.YtplcclifmajcfaaG55ba419656
section
namespace Go.Proofs.Ytplcclifmajcfaa.P
open Go.RowKit Go.Proofs.YtplcclifmajcfaaW.PrintWords Go.Proofs.YtplcclifmajcfaaW.PrintLast Go.Proofs.YtplcclifmajcfaaW.PrintMore
attribute [local go_sem] max2_int min2_int max_two min_two max_three min_three max_four min_four
set_option linter.unusedVariables false
set_option linter.unusedSimpArgs false
def spec_MakeGraph.f (k : Nat) (l0 : List Int) : Option (Int × (List (S57))) := (spec_l01New.f k l0).bind fun bt673 => ((spec_l02Graph.f k bt673.1 bt673.2.1 bt673.2.2).bind fun bt677 => (some (bt677.1, bt677.2.1)))
set_option maxHeartbeats 8000000 in
set_option maxRecDepth 100000 in
theorem spec_MakeGraph.calls (k : Nat) (A0 : Option Addr) (c0 : Nat) (l0 : List Int) (r1 : Int) (r2 : List (S57)) (w : World) (hr0 : Kd.C (Kd.int .u8) w A0 l0.length l0) (hc0 : l0.length ≤ c0) (h : spec_MakeGraph.f k l0 = some (r1, r2)) :
  Calls Try.prog 36 #[.slice A0 l0.length c0] w fun e w' => ∃ v1_ : Value, e = .returned (.agg #[.int .i64 r1, v1_]) ∧ Kd.R k57 57 w' w.heap.size (fun _ => True) v1_ r2 ∧ Below w.heap.size w w' := by
 have hu30 := Try.underlying30
 have HR0 := Aside0.mk hr0
 have HC0 := Aside0.mk hc0
 clear hr0 hc0
 have HB := Aside0.mk (Below.refl w.heap.size w)
 have H : ((spec_l01New.f k l0).bind fun bt673 => ((spec_l02Graph.f k bt673.1 bt673.2.1 bt673.2.2).bind fun bt677 => (some (bt677.1, bt677.2.1)))) = some (r1, r2) := h
 clear h
 replace H := Option.bind_eq_some_iff.mp H
 obtain ⟨⟨t673, t674, t675⟩, A20, H⟩ := H
 replace H : ((spec_l02Graph.f k t673 t674 t675).bind fun bt677 => (some (bt677.1, bt677.2.1))) = some (r1, r2) := H
 have A2 := Aside0.mk A20
 clear A20
 replace H := Option.bind_eq_some_iff.mp H
 obtain ⟨⟨t677, t678, t681, t682⟩, A30, H⟩ := H
 replace H : (some (t677, t678)) = some (r1, r2) := H
 have A3 := Aside0.mk A30
 clear A30
 simp only [Option.some.injEq, Prod.mk.injEq] at H
 obtain ⟨rfl, rfl⟩ := H
 go_enter Try.func36, Try.ntmps36
 go_wp2_with (first | ((with_reducible refine gate_dst (N := 2) rfl ?_); refine box_event ?hg (N := 2) ?hd (cs := #[.int .i64 0, .slice none 0 0]) (t := 30) ?hr ?_; (case hd => rfl); (case hg => rfl); (case hr => first | (go_simp; done) | (go_simp; rfl)); intro gb672 hg w4 hbox hb; have BK672 := Aside0.mk (hbox); have GW672 := Aside0.mk ((by rw [hg]; exact (below_size (Lz HB)) : w.heap.size ≤ gb672)); have GE672 := Aside0.mk ((by rw [hg]; exact (below_size (Lz HB)) : w.heap.size ≤ gb672)); replace HB := Aside0.mk (below_step (Lz HB) hb); clear hb hbox hg) | ((with_reducible refine gate_callee (f := 73) rfl ?_); refine goesM_ (some 4) rfl rfl Try.func73 (by kernel_rfl) rfl #[.slice A0 l0.length c0] rfl ?_; (with_reducible refine (spec_l01New.calls k _ _ l0 t673 t674 t675 w _ ?side1 ?side2 ?side3 A2.out).mono ?_); (case side1 => exact Lz1 HB GE672); (case side2 => exact HR0.out); (case side3 => exact HC0.out); rintro e w5 ⟨g676, rfl, hi, hb, hb2⟩; refine ⟨_, rfl, ?_⟩; replace HB := Aside0.mk (hb); have HI676 := Aside0.mk (hi); have NB676_672 := Aside0.mk (IsS88.ne_blk hi (blk_below (g := gb672) (o := .cells #[.int .i64 0, .slice none 0 0] 30 (0, 0)) (Bz BK672) hb2) (by decide)); have NB672_676 := Aside0.mk (Ne.symm (IsS88.ne_blk hi (blk_below (g := gb672) (o := .cells #[.int .i64 0, .slice none 0 0] 30 (0, 0)) (Bz BK672) hb2) (by decide))); replace BK672 := Aside0.mk (blk_below (g := gb672) (o := .cells #[.int .i64 0, .slice none 0 0] 30 (0, 0)) (Bz BK672) hb2); (try clear hb); (try clear hb2); (try clear hk); (try clear hi)) | ((with_reducible refine gate_callee (f := 72) rfl ?_); refine goesM_ (some 5) rfl rfl Try.func72 (by kernel_rfl) rfl #[.pointer (some ⟨g676, 0, none⟩)] rfl ?_; (with_reducible refine (spec_l02Graph.calls k g676 t673 t674 t675 t677 t678 t681 t682 w _ ?side1 ?side2 A3.out).mono ?_); (case side1 => repeat (first | (with_reducible first | exact HI676.out | apply IsS88.alloc | apply IsS88.drewN | apply IsS88.drew | apply IsS88.set_1 | apply IsS88.set_2 | refine IsS88.far ?_ NB676_672.out _) | exact HI676.out)); (case side2 => repeat (first | (with_reducible first | exact HB.out | apply below_alloc | apply pw_below_drewN | apply below_drew1 | refine below_set ?_ (IsS88.ge HI676.out) | refine below_set ?_ GE672.out) | exact HB.out)); rintro e w6 ⟨v679, rfl, ho0, hi, hb, hk⟩; refine ⟨_, rfl, ?_⟩; replace BK672 := Aside0.mk (KeepBut.blk hk (g' := gb672) (o := .cells #[.int .i64 0, .slice none 0 0] 30 (0, 0)) (Bz BK672) NB672_676.out (by simp)); have HO680 := Aside0.mk (Kd.R_lower ho0 (below_size (by repeat (first | (with_reducible first | exact HB.out | apply below_alloc | apply pw_below_drewN | apply below_drew1 | refine below_set ?_ (IsS88.ge HI676.out) | refine below_set ?_ GE672.out) | exact HB.out)))); replace HB := Aside0.mk (hb); replace HI676 := Aside0.mk (hi); (try clear hb); (try clear ho0); have hnb7 := NB672_676.out; have hnc7 := NB676_672.out; have hcz8_0 : w6.cell? ⟨gb672, 0, none⟩ = some (.int .i64 0) := (blk_cell BK672.out 0).trans rfl; have hcz8_1 : w6.cell? ⟨gb672, 1, none⟩ = some (.slice none 0 0) := (blk_cell BK672.out 1).trans rfl; have hfz8_0 := blk_frozen BK672.out 0; have hfz8_1 := blk_frozen BK672.out 1; obtain ⟨Ao9, co9, eo9⟩ := Kd.R_slice HO680.out; subst eo9))
 refine bodyPost_ret (results_cell_row rfl _ _ gb672 30 #[.int .i64 t677, .slice Ao9 t678.length co9] (0, 0) _ rfl (by (with_reducible repeat (first | refine blk_drewN ?_ _ | refine blk_drew ?_ | refine blk_alloc ?_ _)); refine blk_put (cs := #[.int .i64 t677, .slice none 0 0]) ?_ 1 _ rfl; (with_reducible repeat (first | refine blk_drewN ?_ _ | refine blk_drew ?_ | refine blk_alloc ?_ _)); refine blk_put (cs := #[.int .i64 0, .slice none 0 0]) ?_ 0 _ rfl; exact Bz BK672) Try.underlying30 rfl (by kernel_rfl)) rfl ?_
 exact ⟨_, by first | rfl | (simp [errW_none, errW_some] <;> rfl) | (simp [*, errW_none, errW_some] <;> rfl), by (with_reducible repeat (first | apply Kd.R_alloc | apply Kd.R_drewN | apply Kd.R_drew)); exact Kd.R_mono (Kd.R_far (p := ⟨gb672, 1, none⟩) (Kd.R_far (p := ⟨gb672, 0, none⟩) (Kd.R_types HO680.out BK672.out (by decide)) (fun _ hk => hk.2) (.int .i64 t677)) (fun _ hk => hk.2) (.slice Ao9 t678.length co9)) (fun _ hk => trivial), by repeat (first | (with_reducible first | exact HB.out | apply below_alloc | apply pw_below_drewN | apply below_drew1 | refine below_set ?_ (IsS88.ge HI676.out) | refine below_set ?_ GE672.out) | exact HB.out)⟩
def impl_GroupFactors.l0 : Nat → List Int → List Int → Int → Int → Option (List Int)
 | 0, _, _, _, _ => none
 | k + 1, x3, x11, x12, x13 => if x13 < x12 then (if 0 ≤ x13 then (if x13 < (x11.length : Int) then (if (rd x11 x13) > 1 then (if x3.length < 17592186044416 then (impl_GroupFactors.l0 k (x3 ++ [rd x11 x13]) x11 x12 (wrap64 (x13 + 1))) else (none)) else (impl_GroupFactors.l0 k x3 x11 x12 (wrap64 (x13 + 1)))) else (none)) else (none)) else (some x3)
def impl_GroupFactors.f (k : Nat) (a0_0 : Int) (l0_1 : List (S57)) : Option (List Int) := (impl_GraphOk.f k a0_0 l0_1).bind fun t749 => (if t749 = true then ((impl_ReducedLaplacian.f k a0_0 l0_1 0).bind fun t750 => ((impl_InvariantFactors.f k t750).bind fun t753 => (impl_GroupFactors.l0 k ([] : List Int) t753 (t753.length : Int) 0))) else (some ([] : List Int)))
set_option maxHeartbeats 8000000 in
set_option maxRecDepth 100000 in
theorem impl_GroupFactors.calls (k : Nat) (a0_0 : Int) (A0_1 : Option Addr) (c0_1 : Nat) (l0_1 : List (S57)) (r : List Int) (w : World) (hr0_1 : Kd.C k57 w A0_1 l0_1.length l0_1) (hc0_1 : l0_1.length ≤ c0_1) (h : impl_GroupFactors.f k a0_0 l0_1 = some r) :
  Calls Try.prog 37 #[.agg #[.int .i64 a0_0, .slice A0_1 l0_1.length c0_1]] w fun e w' => ∃ v0_ : Value, e = .returned (v0_) ∧ Kd.R (Kd.int .i64) 3 w' w.heap.size (fun _ => True) v0_ r ∧ Below w.heap.size w w' := by
 have hu30 := Try.underlying30
 have HR0_1 := Aside0.mk hr0_1
 have HC0_1 := Aside0.mk hc0_1
 clear hr0_1 hc0_1
 have HB := Aside0.mk (Below.refl w.heap.size w)
 have H : ((impl_GraphOk.f k a0_0 l0_1).bind fun t749 => (if t749 = true then ((impl_ReducedLaplacian.f k a0_0 l0_1 0).bind fun t750 => ((impl_InvariantFactors.f k t750).bind fun t753 => (impl_GroupFactors.l0 k ([] : List Int) t753 (t753.length : Int) 0))) else (some ([] : List Int)))) = some r := h
 clear h
 replace H := Option.bind_eq_some_iff.mp H
 obtain ⟨t749, A20, H⟩ := H
 replace H : (if t749 = true then ((impl_ReducedLaplacian.f k a0_0 l0_1 0).bind fun t750 => ((impl_InvariantFactors.f k t750).bind fun t753 => (impl_GroupFactors.l0 k ([] : List Int) t753 (t753.length : Int) 0))) else (some ([] : List Int))) = some r := H
 have A2 := Aside0.mk A20
 clear A20
 by_cases c3 : t749 = true
 ·subst c3
  have H1 : ((impl_ReducedLaplacian.f k a0_0 l0_1 0).bind fun t750 => ((impl_InvariantFactors.f k t750).bind fun t753 => (impl_GroupFactors.l0 k ([] : List Int) t753 (t753.length : Int) 0))) = some r := by rw [if_pos rfl] at H; exact H
  clear H
  have H := H1
  clear H1
  replace H := Option.bind_eq_some_iff.mp H
  obtain ⟨t750, A40, H⟩ := H
  replace H : ((impl_InvariantFactors.f k t750).bind fun t753 => (impl_GroupFactors.l0 k ([] : List Int) t753 (t753.length : Int) 0)) = some r := H
  have A4 := Aside0.mk A40
  clear A40
  replace H := Option.bind_eq_some_iff.mp H
  obtain ⟨t753, A50, H⟩ := H
  replace H : (impl_GroupFactors.l0 k ([] : List Int) t753 (t753.length : Int) 0) = some r := H
  have A5 := Aside0.mk A50
  clear A50
  have H' := Aside0.mk H
  clear H
  go_enter Try.func37, Try.ntmps37
  go_wp2_with (first | ((with_reducible refine gate_dst (N := 1) rfl ?_); refine box_event ?hg (N := 1) ?hd (cs := #[.int .i64 a0_0, .slice A0_1 l0_1.length c0_1]) (t := 30) ?hr ?_; (case hd => rfl); (case hg => rfl); (case hr => first | (go_simp; done) | (go_simp; rfl)); intro gb748 hg w6 hbox hb; have BK748 := Aside0.mk (hbox); have GW748 := Aside0.mk ((by rw [hg]; exact (below_size (Lz HB)) : w.heap.size ≤ gb748)); have GE748 := Aside0.mk ((by rw [hg]; exact (below_size (Lz HB)) : w.heap.size ≤ gb748)); replace HB := Aside0.mk (below_step (Lz HB) hb); clear hb hbox hg; have hcz7_0 : w6.cell? ⟨gb748, 0, none⟩ = some (.int .i64 a0_0) := (blk_cell BK748.out 0).trans rfl; have hcz7_1 : w6.cell? ⟨gb748, 1, none⟩ = some (.slice A0_1 l0_1.length c0_1) := (blk_cell BK748.out 1).trans rfl; have hfz7_0 := blk_frozen BK748.out 0; have hfz7_1 := blk_frozen BK748.out 1) | ((with_reducible refine gate_callee (f := 38) rfl ?_); refine goesM_ (some 7) rfl rfl Try.func38 (by kernel_rfl) rfl #[.agg #[.int .i64 a0_0, .slice A0_1 l0_1.length c0_1]] rfl ?_; (with_reducible refine (impl_GraphOk.calls k a0_0 _ _ l0_1 true _ ?side1 ?side2 A2.out).mono ?_); (case side1 => exact Cz ((Kd.C_below HR0_1.out HB.out))); (case side2 => exact HC0_1.out); rintro e w8 ⟨rfl, hb⟩; refine ⟨_, rfl, ?_⟩; replace BK748 := Aside0.mk (blk_below (g := gb748) (o := .cells #[.int .i64 a0_0, .slice A0_1 l0_1.length c0_1] 30 (0, 0)) (Bz BK748) hb); replace HB := Aside0.mk (below_step (by exact Lz1 HB GE748) hb); (try clear hb); (try clear hb2); (try clear hk); (try clear hi); have hcz9_0 : w8.cell? ⟨gb748, 0, none⟩ = some (.int .i64 a0_0) := (blk_cell BK748.out 0).trans rfl; have hcz9_1 : w8.cell? ⟨gb748, 1, none⟩ = some (.slice A0_1 l0_1.length c0_1) := (blk_cell BK748.out 1).trans rfl; have hfz9_0 := blk_frozen BK748.out 0; have hfz9_1 := blk_frozen BK748.out 1) | ((with_reducible refine gate_callee (f := 28) rfl ?_); refine goesM_ (some 10) rfl rfl Try.func28 (by kernel_rfl) rfl #[.agg #[.int .i64 a0_0, .slice A0_1 l0_1.length c0_1], .int .i64 0] rfl ?_; (with_reducible refine (impl_ReducedLaplacian.calls k a0_0 _ _ l0_1 0 t750 _ ?side1 ?side2 A4.out).mono ?_); (case side1 => exact Cz ((Kd.C_below HR0_1.out HB.out))); (case side2 => exact HC0_1.out); rintro e w10 ⟨v751, rfl, ho0, hb⟩; refine ⟨_, rfl, ?_⟩; have HO752 := Aside0.mk (Kd.S_lower ho0 (below_size (by exact Lz1 HB GE748))); replace BK748 := Aside0.mk (blk_below (g := gb748) (o := .cells #[.int .i64 a0_0, .slice A0_1 l0_1.length c0_1] 30 (0, 0)) (Bz BK748) hb); replace HB := Aside0.mk (below_step (by exact Lz1 HB GE748) hb); (try clear hb); (try clear ho0); obtain ⟨Ao11, co11, eo11⟩ := Kd.S_slice HO752.out; subst eo11) | ((with_reducible refine gate_callee (f := 23) rfl ?_); refine goesM_ (some 11) rfl rfl Try.func23 (by kernel_rfl) rfl #[.slice Ao11 t750.length co11] rfl ?_; (with_reducible refine (impl_InvariantFactors.calls k _ _ t750 t753 _ ?side1 ?side2 A5.out).mono ?_); (case side1 => exact Cz ((Kd.S_reads' HO752.out).2.2)); (case side2 => exact (Kd.S_reads' HO752.out).2.1); rintro e w12 ⟨v754, rfl, ho0, hb⟩; refine ⟨_, rfl, ?_⟩; replace HO752 := Aside0.mk (Kd.S_elder' (by (with_reducible repeat (first | apply Kd.S_alloc | apply Kd.S_drewN | apply Kd.S_drew)); exact HO752.out) (Kd.R_base ho0) hb); have HO755 := Aside0.mk (Kd.R_lower ho0 (below_size (by exact Lz1 HB GE748))); replace BK748 := Aside0.mk (blk_below (g := gb748) (o := .cells #[.int .i64 a0_0, .slice A0_1 l0_1.length c0_1] 30 (0, 0)) (Bz BK748) hb); replace HB := Aside0.mk (below_step (by exact Lz1 HB GE748) hb); (try clear hb); (try clear ho0); obtain ⟨Ao13, co13, eo13⟩ := Kd.R_slice HO755.out; subst eo13))
  go_loopg [3, 13] k (fun kq v3 v13 w' => ∃ (x3_1 : List Int) (x13_1 : Int), v13 = .int .i64 x13_1 ∧ Aside0 (impl_GroupFactors.l0 kq x3_1 t753 (t753.length : Int) x13_1 = some r) ∧ Aside0 (kq ≤ k) ∧ Aside0 (Kd.R (Kd.int .i64) 3 w' w.heap.size (fun k_ => some k_ ≠ ((.slice Ao13 t753.length co13) : Value).ownBlock) v3 x3_1) ∧ Aside0 (Kd.R (Kd.int .i64) 3 w' w.heap.size (fun k_ => some k_ ≠ (v3 : Value).ownBlock) (.slice Ao13 t753.length co13) t753) ∧ Aside0 (w'.heap[gb748]? = some (.cells #[.int .i64 a0_0, (.slice A0_1 l0_1.length c0_1)] 30 (0, 0))) ∧ Aside0 (Below w.heap.size w w'))
  case atStart => exact ⟨(([] : List Int)), (0), eqA, H', ⟨Nat.le_refl _⟩, ⟨by first | exact Kd.R_nil _ _ _ _ _ | exact Kd.N_nil _ _ _ _ _ | exact Kd.V_nil _ _ _ _ _ | exact Kd.Q_nil _ _ _ _ _ | exact Kd.S_nil _ _ _ _ _⟩, ⟨by (with_reducible repeat (first | apply Kd.R_alloc | apply Kd.R_drewN | apply Kd.R_drew)); exact Kd.R_mono HO755.out (fun _ hk => (by simp [Value.ownBlock]))⟩, ⟨by exact Bz BK748⟩, ⟨by exact Lz1 HB GE748⟩⟩
  case round =>
   clear H'
   try clear c3
   obtain ⟨x3_1, x13_1, rfl, HA, HK1, HO_3, HO_11, BK748, HB⟩ := hrel
   cases gk with
   | zero => exact absurd HA.out (by simp [impl_GroupFactors.l0])
   | succ k1 =>
    have H := HA.out
    clear HA
    simp only [impl_GroupFactors.l0] at H
    by_cases c14 : x13_1 < (t753.length : Int)
    ·rw [if_pos c14] at H
     have c14b0 : decide (x13_1 < (t753.length : Int)) = true := decide_eq_true c14
     clear c14
     by_cases c15 : 0 ≤ x13_1
     ·rw [if_pos c15] at H
      have c15b0 : decide (0 ≤ x13_1) = true := decide_eq_true c15
      clear c15
      by_cases c16 : x13_1 < (t753.length : Int)
      ·rw [if_pos c16] at H
       have c16b0 : decide (x13_1 < (t753.length : Int)) = true := decide_eq_true c16
       clear c16
       by_cases c17 : (rd t753 x13_1) > 1
       ·rw [if_pos c17] at H
        have c17b0 : decide (1 < (rd t753 x13_1)) = true := decide_eq_true c17
        clear c17
        by_cases c18 : x3_1.length < 17592186044416
        ·rw [if_pos c18] at H
         have LMc18 := Aside0.mk c18
         clear c18
         obtain ⟨y757, hy757⟩ : ∃ y_ : List Int, y_ = (x3_1 ++ [rd t753 x13_1]) := ⟨_, rfl⟩
         replace H : (impl_GroupFactors.l0 k1 y757 t753 (t753.length : Int) (wrap64 (x13_1 + 1))) = some r := by first | (rw [hy757]; with_reducible exact H) | (have H2_ := (Option.bind_some _ _).symm.trans H; rw [hy757]; with_reducible exact H2_) | (have H2_ := (Option.bind_some _ _).symm.trans H; with_reducible exact H2_) | with_reducible exact H | (rw [hy757]; exact H) | exact H
         have Ny757 := Aside0.mk hy757
         clear hy757
         have H' := Aside0.mk H
         clear H
         have p756 : 0 ≤ (x13_1 : Int) := ofA
         have q756 : x13_1 < (t753.length : Int) := ofA
         obtain ⟨ad756, e756, hx756_0⟩ := Kd.at_int (Kd.R_reads' HO_11.out).2.2 x13_1 p756 q756
         cases e756
         replace p756 := eq_true p756
         replace q756 := eq_true q756
         go_wp2_with (first | ((with_reducible refine gate_builtin (b := .append) (xs := #[.tmp 19, .tmp 21]) rfl ?_); at_builtin; refine Kd.R_append (Kd.int .i64) (w0 := w) w.heap.size rfl (.tmp 19) (.tmp 21) 37 3 (.int .i64 0) 8 rfl Try.underlying37 info3 rfl (by decide) (by omega) u3 x3_1 (rd t753 x13_1) [.int .i64 (rd t753 x13_1)] (fun k_ => some k_ ≠ (.slice (some ad756) t753.length co13 : Value).ownBlock) (fun _ => False) rfl rfl ?aP (fun _ hk => hk.elim) ?aF ?aO ?aB ?aS ?aL ?_; (case aP => exact rfl); (case aB => exact (by exact Lz1 HB GE748)); (case aF => exact (fun k_ hk => Kd.fresh' (Kd.R_lt (Rz HO_11)) k_ hk)); (case aO => exact (Rz HO_3)); (case aS => exact (below_size (by exact Lz1 HB GE748))); (case aL => have := LMc18.out; omega); intro v758 w19 ho hb hg hat; rw [← Ny757.out] at ho; replace HO_11 := Aside0.mk (Kd.R_after (ok := (fun _ => True)) (by (with_reducible repeat (first | apply Kd.R_alloc | apply Kd.R_drewN | apply Kd.R_drew)); exact Kd.R_mono HO_11.out (fun _ hk => ⟨trivial, hk⟩)) hg hat); replace BK748 := Aside0.mk (blk_grown (g := gb748) (o := .cells #[.int .i64 a0_0, .slice A0_1 l0_1.length c0_1] 30 (0, 0)) (Bz BK748) hg (Kd.R_ne HO_3.out BK748.out (by decide))); replace HB := Aside0.mk (hb); have HO759 := Aside0.mk (ho); clear HO_3; clear ho hb hg hat))
         go_roundg k1
         case measure => have := HK1.out; omega
         case rel => exact ⟨(y757), (wrap64 (x13_1 + 1)), eqA, H', ⟨by have := HK1.out; omega⟩, ⟨by exact Rz HO759⟩, ⟨by (with_reducible repeat (first | apply Kd.R_alloc | apply Kd.R_drewN | apply Kd.R_drew)); exact Kd.R_mono HO_11.out (fun _ hk => hk.2)⟩, ⟨by exact Bz BK748⟩, ⟨by exact Lz1 HB GE748⟩⟩
        rw [if_neg c18] at H
        exact absurd H (by simp)
       rw [if_neg c17] at H
       have c17b0 : decide (1 < (rd t753 x13_1)) = false := decide_eq_false c17
       clear c17
       have H' := Aside0.mk H
       clear H
       have p756 : 0 ≤ (x13_1 : Int) := ofA
       have q756 : x13_1 < (t753.length : Int) := ofA
       obtain ⟨ad756, e756, hx756_0⟩ := Kd.at_int (Kd.R_reads' HO_11.out).2.2 x13_1 p756 q756
       cases e756
       replace p756 := eq_true p756
       replace q756 := eq_true q756
       go_wp2
       go_roundg k1
       case measure => have := HK1.out; omega
       case rel => exact ⟨(x3_1), (wrap64 (x13_1 + 1)), eqA, H', ⟨by have := HK1.out; omega⟩, ⟨by exact Rz HO_3⟩, ⟨by exact Rz HO_11⟩, ⟨by exact Bz BK748⟩, ⟨by exact Lz1 HB GE748⟩⟩
      rw [if_neg c16] at H
      exact absurd H (by simp)
     rw [if_neg c15] at H
     exact absurd H (by simp)
    rw [if_neg c14] at H
    have c14b0 : decide (x13_1 < (t753.length : Int)) = false := decide_eq_false c14
    clear c14
    obtain rfl := Option.some.inj H
    go_wp2
    go_ret
    exact ⟨_, by first | rfl | (simp [errW_none, errW_some] <;> rfl) | (simp [*, errW_none, errW_some] <;> rfl), by (with_reducible repeat (first | apply Kd.R_alloc | apply Kd.R_drewN | apply Kd.R_drew)); exact Kd.R_mono HO_3.out (fun _ hk => trivial), by exact Lz1 HB GE748⟩
 replace c3 := Bool.eq_false_iff.mpr c3
 subst c3
 have H1 : (some ([] : List Int)) = some r := by rw [if_neg (show ¬ (false = true) by decide)] at H; exact H
 clear H
 have H := H1
 clear H1
 obtain rfl := Option.some.inj H
 go_enter Try.func37, Try.ntmps37
 go_wp2_with (first | ((with_reducible refine gate_dst (N := 1) rfl ?_); refine box_event ?hg (N := 1) ?hd (cs := #[.int .i64 a0_0, .slice A0_1 l0_1.length c0_1]) (t := 30) ?hr ?_; (case hd => rfl); (case hg => rfl); (case hr => first | (go_simp; done) | (go_simp; rfl)); intro gb748 hg w20 hbox hb; have BK748 := Aside0.mk (hbox); have GW748 := Aside0.mk ((by rw [hg]; exact (below_size (Lz HB)) : w.heap.size ≤ gb748)); have GE748 := Aside0.mk ((by rw [hg]; exact (below_size (Lz HB)) : w.heap.size ≤ gb748)); replace HB := Aside0.mk (below_step (Lz HB) hb); clear hb hbox hg; have hcz21_0 : w20.cell? ⟨gb748, 0, none⟩ = some (.int .i64 a0_0) := (blk_cell BK748.out 0).trans rfl; have hcz21_1 : w20.cell? ⟨gb748, 1, none⟩ = some (.slice A0_1 l0_1.length c0_1) := (blk_cell BK748.out 1).trans rfl; have hfz21_0 := blk_frozen BK748.out 0; have hfz21_1 := blk_frozen BK748.out 1) | ((with_reducible refine gate_callee (f := 38) rfl ?_); refine goesM_ (some 7) rfl rfl Try.func38 (by kernel_rfl) rfl #[.agg #[.int .i64 a0_0, .slice A0_1 l0_1.length c0_1]] rfl ?_; (with_reducible refine (impl_GraphOk.calls k a0_0 _ _ l0_1 false _ ?side1 ?side2 A2.out).mono ?_); (case side1 => exact Cz ((Kd.C_below HR0_1.out HB.out))); (case side2 => exact HC0_1.out); rintro e w22 ⟨rfl, hb⟩; refine ⟨_, rfl, ?_⟩; replace BK748 := Aside0.mk (blk_below (g := gb748) (o := .cells #[.int .i64 a0_0, .slice A0_1 l0_1.length c0_1] 30 (0, 0)) (Bz BK748) hb); replace HB := Aside0.mk (below_step (by exact Lz1 HB GE748) hb); (try clear hb); (try clear hb2); (try clear hk); (try clear hi)))
 go_ret
 exact ⟨_, by first | rfl | (simp [errW_none, errW_some] <;> rfl) | (simp [*, errW_none, errW_some] <;> rfl), by first | exact Kd.R_nil _ _ _ _ _ | exact Kd.N_nil _ _ _ _ _ | exact Kd.V_nil _ _ _ _ _ | exact Kd.Q_nil _ _ _ _ _ | exact Kd.S_nil _ _ _ _ _, by exact Lz1 HB GE748⟩
def impl_IsCyclic.f (k : Nat) (a0_0 : Int) (l0_1 : List (S57)) : Option (Bool) := (impl_GraphOk.f k a0_0 l0_1).bind fun t761 => (if t761 = true then ((impl_GroupFactors.f k a0_0 l0_1).bind fun t762 => (some (decide ((t762.length : Int) ≤ 1)))) else (some false))
set_option maxHeartbeats 8000000 in
set_option maxRecDepth 100000 in
theorem impl_IsCyclic.calls (k : Nat) (a0_0 : Int) (A0_1 : Option Addr) (c0_1 : Nat) (l0_1 : List (S57)) (r : Bool) (w : World) (hr0_1 : Kd.C k57 w A0_1 l0_1.length l0_1) (hc0_1 : l0_1.length ≤ c0_1) (h : impl_IsCyclic.f k a0_0 l0_1 = some r) :
  Calls Try.prog 39 #[.agg #[.int .i64 a0_0, .slice A0_1 l0_1.length c0_1]] w fun e w' => e = .returned (.bool r) ∧ Below w.heap.size w w' := by
 have hu30 := Try.underlying30
 have HR0_1 := Aside0.mk hr0_1
 have HC0_1 := Aside0.mk hc0_1
 clear hr0_1 hc0_1
 have HB := Aside0.mk (Below.refl w.heap.size w)
 have H : ((impl_GraphOk.f k a0_0 l0_1).bind fun t761 => (if t761 = true then ((impl_GroupFactors.f k a0_0 l0_1).bind fun t762 => (some (decide ((t762.length : Int) ≤ 1)))) else (some false))) = some r := h
 clear h
 replace H := Option.bind_eq_some_iff.mp H
 obtain ⟨t761, A20, H⟩ := H
 replace H : (if t761 = true then ((impl_GroupFactors.f k a0_0 l0_1).bind fun t762 => (some (decide ((t762.length : Int) ≤ 1)))) else (some false)) = some r := H
 have A2 := Aside0.mk A20
 clear A20
 by_cases c3 : t761 = true
 ·subst c3
  have H1 : ((impl_GroupFactors.f k a0_0 l0_1).bind fun t762 => (some (decide ((t762.length : Int) ≤ 1)))) = some r := by rw [if_pos rfl] at H; exact H
  clear H
  have H := H1
  clear H1
  replace H := Option.bind_eq_some_iff.mp H
  obtain ⟨t762, A40, H⟩ := H
  replace H : (some (decide ((t762.length : Int) ≤ 1))) = some r := H
  have A4 := Aside0.mk A40
  clear A40
  obtain rfl := Option.some.inj H
  go_enter Try.func39, Try.ntmps39
  go_wp2_with (first | ((with_reducible refine gate_dst (N := 1) rfl ?_); (try (refine gate_guard (by rfl) ?_; dsimp only)); refine box_event ?hg (N := 1) ?hd (cs := #[.int .i64 a0_0, .slice A0_1 l0_1.length c0_1]) (t := 30) ?hr ?_; (case hd => rfl); (case hg => rfl); (case hr => first | (go_simp; done) | (go_simp; rfl)); intro gb760 hg w5 hbox hb; have BK760 := Aside0.mk (hbox); have GW760 := Aside0.mk ((by rw [hg]; exact (below_size (Lz HB)) : w.heap.size ≤ gb760)); have GE760 := Aside0.mk ((by rw [hg]; exact (below_size (Lz HB)) : w.heap.size ≤ gb760)); replace HB := Aside0.mk (below_step (Lz HB) hb); clear hb hbox hg; have hcz6_0 : w5.cell? ⟨gb760, 0, none⟩ = some (.int .i64 a0_0) := (blk_cell BK760.out 0).trans rfl; have hcz6_1 : w5.cell? ⟨gb760, 1, none⟩ = some (.slice A0_1 l0_1.length c0_1) := (blk_cell BK760.out 1).trans rfl; have hfz6_0 := blk_frozen BK760.out 0; have hfz6_1 := blk_frozen BK760.out 1) | ((with_reducible refine gate_callee (f := 38) rfl ?_); refine goesM_ (some 4) rfl rfl Try.func38 (by kernel_rfl) rfl #[.agg #[.int .i64 a0_0, .slice A0_1 l0_1.length c0_1]] rfl ?_; (with_reducible refine (impl_GraphOk.calls k a0_0 _ _ l0_1 true _ ?side1 ?side2 A2.out).mono ?_); (case side1 => exact Cz ((Kd.C_below HR0_1.out HB.out))); (case side2 => exact HC0_1.out); rintro e w7 ⟨rfl, hb⟩; refine ⟨_, rfl, ?_⟩; replace BK760 := Aside0.mk (blk_below (g := gb760) (o := .cells #[.int .i64 a0_0, .slice A0_1 l0_1.length c0_1] 30 (0, 0)) (Bz BK760) hb); replace HB := Aside0.mk (below_step (by exact Lz1 HB GE760) hb); (try clear hb); (try clear hb2); (try clear hk); (try clear hi); have hcz8_0 : w7.cell? ⟨gb760, 0, none⟩ = some (.int .i64 a0_0) := (blk_cell BK760.out 0).trans rfl; have hcz8_1 : w7.cell? ⟨gb760, 1, none⟩ = some (.slice A0_1 l0_1.length c0_1) := (blk_cell BK760.out 1).trans rfl; have hfz8_0 := blk_frozen BK760.out 0; have hfz8_1 := blk_frozen BK760.out 1) | (go_at_call 37; (with_reducible refine (impl_GroupFactors.calls k a0_0 _ _ l0_1 t762 _ ?side1 ?side2 A4.out).mono ?_); (case side1 => exact Cz ((Kd.C_below HR0_1.out HB.out))); (case side2 => exact HC0_1.out); rintro e w9 ⟨v763, rfl, ho0, hb⟩; have HO764 := Aside0.mk (Kd.R_lower ho0 (below_size (by exact Lz1 HB GE760))); replace BK760 := Aside0.mk (blk_below (g := gb760) (o := .cells #[.int .i64 a0_0, .slice A0_1 l0_1.length c0_1] 30 (0, 0)) (Bz BK760) hb); replace HB := Aside0.mk (below_step (by exact Lz1 HB GE760) hb); (try clear hb); (try clear ho0); obtain ⟨Ao10, co10, eo10⟩ := Kd.R_slice HO764.out; subst eo10))
  go_ret
  exact ⟨by first | rfl | (simp [errW_none, errW_some] <;> rfl) | (simp [*, errW_none, errW_some] <;> rfl), by exact Lz1 HB GE760⟩
 replace c3 := Bool.eq_false_iff.mpr c3
 subst c3
 have H1 : (some false) = some r := by rw [if_neg (show ¬ (false = true) by decide)] at H; exact H
 clear H
 have H := H1
 clear H1
 obtain rfl := Option.some.inj H
 go_enter Try.func39, Try.ntmps39
 go_wp2_with (first | ((with_reducible refine gate_dst (N := 1) rfl ?_); (try (refine gate_guard (by rfl) ?_; dsimp only)); refine box_event ?hg (N := 1) ?hd (cs := #[.int .i64 a0_0, .slice A0_1 l0_1.length c0_1]) (t := 30) ?hr ?_; (case hd => rfl); (case hg => rfl); (case hr => first | (go_simp; done) | (go_simp; rfl)); intro gb760 hg w11 hbox hb; have BK760 := Aside0.mk (hbox); have GW760 := Aside0.mk ((by rw [hg]; exact (below_size (Lz HB)) : w.heap.size ≤ gb760)); have GE760 := Aside0.mk ((by rw [hg]; exact (below_size (Lz HB)) : w.heap.size ≤ gb760)); replace HB := Aside0.mk (below_step (Lz HB) hb); clear hb hbox hg; have hcz12_0 : w11.cell? ⟨gb760, 0, none⟩ = some (.int .i64 a0_0) := (blk_cell BK760.out 0).trans rfl; have hcz12_1 : w11.cell? ⟨gb760, 1, none⟩ = some (.slice A0_1 l0_1.length c0_1) := (blk_cell BK760.out 1).trans rfl; have hfz12_0 := blk_frozen BK760.out 0; have hfz12_1 := blk_frozen BK760.out 1) | ((with_reducible refine gate_callee (f := 38) rfl ?_); refine goesM_ (some 4) rfl rfl Try.func38 (by kernel_rfl) rfl #[.agg #[.int .i64 a0_0, .slice A0_1 l0_1.length c0_1]] rfl ?_; (with_reducible refine (impl_GraphOk.calls k a0_0 _ _ l0_1 false _ ?side1 ?side2 A2.out).mono ?_); (case side1 => exact Cz ((Kd.C_below HR0_1.out HB.out))); (case side2 => exact HC0_1.out); rintro e w13 ⟨rfl, hb⟩; refine ⟨_, rfl, ?_⟩; replace BK760 := Aside0.mk (blk_below (g := gb760) (o := .cells #[.int .i64 a0_0, .slice A0_1 l0_1.length c0_1] 30 (0, 0)) (Bz BK760) hb); replace HB := Aside0.mk (below_step (by exact Lz1 HB GE760) hb); (try clear hb); (try clear hb2); (try clear hk); (try clear hi)))
 go_ret
 exact ⟨by first | rfl | (simp [errW_none, errW_some] <;> rfl) | (simp [*, errW_none, errW_some] <;> rfl), by exact Lz1 HB GE760⟩
mutual
def laws_FnFactors.j0 : Nat → List Int → Option (Bool)
 | 0, _ => none
 | k + 1, x0 => (spec_MakeGraph.f k x0).bind fun bt765 => ((impl_GroupFactors.f k bt765.1 bt765.2).bind fun t770 => (laws_FnFactors.l0 k t770 1 t770 (t770.length : Int) 0 bt765.1 bt765.2))
def laws_FnFactors.l0 : Nat → List Int → Int → List Int → Int → Int → Int → List (S57) → Option (Bool)
 | 0, _, _, _, _, _, _, _ => none
 | k + 1, x4, x5, x16, x17, x18, x770000, x770001 => if x18 < x17 then (laws_FnFactors.j2 k x4 x5 x16 x17 x18 x770000 x770001) else ((impl_LaplacianOf.f k x770000 x770001).bind fun t775 => ((impl_InvariantFactors.f k t775).bind fun t778 => ((impl_GraphOk.f k x770000 x770001).bind fun t781 => (if t781 = true then ((impl_GroupOrder.f k x770000 x770001).bind fun t782 => (if x5 = t782 then ((impl_CountTrees.f k x770000 x770001).bind fun t783 => (if x5 = t783 then (if (t778.length : Int) = x770000 then (if 0 ≤ (wrap64 (x770000 - 1)) then (if (wrap64 (x770000 - 1)) < (t778.length : Int) then (if (rd t778 (wrap64 (x770000 - 1))) = 0 then ((impl_IsCyclic.f k x770000 x770001).bind fun t785 => (some (t785 == (decide ((x4.length : Int) ≤ 1))))) else (some false)) else (none)) else (none)) else (some false)) else (some false))) else (some false))) else (some false)))))
def laws_FnFactors.j2 : Nat → List Int → Int → List Int → Int → Int → Int → List (S57) → Option (Bool)
 | 0, _, _, _, _, _, _, _ => none
 | k + 1, x4, x5, x16, x17, x18, x770000, x770001 => if 0 ≤ x18 then (if x18 < (x16.length : Int) then (if (rd x16 x18) < 2 then (laws_FnFactors.j3 k x4 x5 (rd x16 x18) x16 x17 x18 true x770000 x770001) else (if x18 > 0 then (if 0 ≤ (wrap64 (x18 - 1)) then (if (wrap64 (x18 - 1)) < (x4.length : Int) then (if (rd x4 (wrap64 (x18 - 1))) = 0 then (none) else (laws_FnFactors.j3 k x4 x5 (rd x16 x18) x16 x17 x18 ((Int.tmod (rd x16 x18) (rd x4 (wrap64 (x18 - 1)))) != 0) x770000 x770001)) else (none)) else (none)) else (laws_FnFactors.j3 k x4 x5 (rd x16 x18) x16 x17 x18 false x770000 x770001))) else (none)) else (none)
def laws_FnFactors.j3 : Nat → List Int → Int → Int → List Int → Int → Int → Bool → Int → List (S57) → Option (Bool)
 | 0, _, _, _, _, _, _, _, _, _ => none
 | k + 1, x4, x5, x7, x16, x17, x18, x38, x770000, x770001 => if x38 = true then (some false) else (laws_FnFactors.l0 k x4 (wrap64 (x5 * x7)) x16 x17 (wrap64 (x18 + 1)) x770000 x770001)
end
def laws_FnFactors.f (k : Nat) (l0 : List Int) : Option (Bool) := if (l0.length : Int) > 1048576 then (some true) else (laws_FnFactors.j0 k l0)
set_option maxHeartbeats 8000000 in
set_option maxRecDepth 100000 in
theorem laws_FnFactors.calls (k : Nat) (A0 : Option Addr) (c0 : Nat) (l0 : List Int) (r : Bool) (w : World) (hr0 : Kd.C (Kd.int .u8) w A0 l0.length l0) (hc0 : l0.length ≤ c0) (h : laws_FnFactors.f k l0 = some r) (hR_ : r = true := by rfl) :
  Calls Try.prog 9 #[.slice A0 l0.length c0] w fun e w' => e = .returned (.bool r) ∧ Below w.heap.size w w' := by
 have HR_ := Aside0.mk hR_
 clear hR_
 have hu30 := Try.underlying30
 have HR0 := Aside0.mk hr0
 have HC0 := Aside0.mk hc0
 clear hr0 hc0
 have HB := Aside0.mk (Below.refl w.heap.size w)
 have H : (if (l0.length : Int) > 1048576 then (some true) else (laws_FnFactors.j0 k l0)) = some r := h
 clear h
 have HC2 := Aside0.mk H
 clear H
 go_enter Try.func9, Try.ntmps9
 go_upto_if 11 with (fail)
 go_cut [] (fun wc => ∃ (kq : Nat), Aside0 (laws_FnFactors.j0 kq l0 = some r) ∧ Aside0 (kq ≤ k) ∧ Aside0 (Below w.heap.size w wc))
 case first =>
  have H := HC2.out
  clear HC2
  by_cases c3 : (l0.length : Int) > 1048576
  ·rw [if_pos c3] at H
   have c3b0 : decide (1048576 < (l0.length : Int)) = true := decide_eq_true c3
   have c3b1 : decide (1048576 < l0.length) = true := decide_eq_true (by omega)
   clear c3
   (first | rw [c3b0] | (simp only [i64_w, i32_w]; rw [c3b0]) | skip)
   obtain rfl := Option.some.inj H
   go_wp2
   go_ret
   exact ⟨by first | rfl | (simp [errW_none, errW_some] <;> rfl) | (simp [*, errW_none, errW_some] <;> rfl), by exact Lz HB⟩
  rw [if_neg c3] at H
  have c3b0 : decide (1048576 < (l0.length : Int)) = false := decide_eq_false c3
  have c3b1 : decide (1048576 < l0.length) = false := decide_eq_false (by omega)
  clear c3
  (first | rw [c3b0] | (simp only [i64_w, i32_w]; rw [c3b0]) | skip)
  have H' := Aside0.mk H
  clear H
  go_wp2
  go_meet
  case rel => exact ⟨_, H', ⟨by first | omega | exact Nat.le_refl _⟩, ⟨by exact Lz HB⟩⟩
 case rest =>
  clear HC2
  try clear c3
  try clear c3b0
  try clear c3b1
  obtain ⟨kq, HA, HJ1, HB⟩ := hcut
  cases kq with
  | zero => exact absurd HA.out (by simp [laws_FnFactors.j0])
  | succ kj1 =>
   have H := HA.out
   clear HA
   simp only [laws_FnFactors.j0] at H
   replace H := Option.bind_eq_some_iff.mp H
   obtain ⟨⟨t765, t766⟩, A40, H⟩ := H
   replace H : ((impl_GroupFactors.f kj1 t765 t766).bind fun t770 => (laws_FnFactors.l0 kj1 t770 1 t770 (t770.length : Int) 0 t765 t766)) = some r := H
   have A4 := Aside0.mk A40
   clear A40
   replace H := Option.bind_eq_some_iff.mp H
   obtain ⟨t770, A50, H⟩ := H
   replace H : (laws_FnFactors.l0 kj1 t770 1 t770 (t770.length : Int) 0 t765 t766) = some r := H
   have A5 := Aside0.mk A50
   clear A50
   have H' := Aside0.mk H
   clear H
   go_wp2_with (first | ((with_reducible refine gate_callee (f := 36) rfl ?_); refine goesM_ (some 13) rfl rfl Try.func36 (by kernel_rfl) rfl #[.slice A0 l0.length c0] rfl ?_; (with_reducible refine (spec_MakeGraph.calls kj1 _ _ l0 t765 t766 _ ?side1 ?side2 A4.out).mono ?_); (case side1 => exact Cz ((Kd.C_below HR0.out HB.out))); (case side2 => exact HC0.out); rintro e w6 ⟨v767, rfl, ho0, hb⟩; refine ⟨_, rfl, ?_⟩; have HO768 := Aside0.mk (Kd.R_lower ho0 (below_size (Lz HB))); replace HB := Aside0.mk (below_step (Lz HB) hb); (try clear hb); (try clear ho0)) | ((with_reducible refine gate_dst (N := 3) rfl ?_); (try (refine gate_guard (by rfl) ?_; dsimp only)); refine box_event ?hg (N := 3) ?hd (cs := #[.int .i64 0, .slice none 0 0]) (t := 30) ?hr ?_; (case hd => rfl); (case hg => rfl); (case hr => first | (go_simp; done) | (go_simp; rfl)); intro gb769 hg w7 hbox hb; replace HO768 := Aside0.mk (Kd.R_below (Rz HO768) hb); have BK769 := Aside0.mk (hbox); have GW769 := Aside0.mk ((by rw [hg]; exact (below_size (Lz HB)) : w.heap.size ≤ gb769)); have GE769 := Aside0.mk ((by rw [hg]; exact (below_size (Lz HB)) : w.heap.size ≤ gb769)); replace HB := Aside0.mk (below_step (Lz HB) hb); clear hb hbox hg; have hcz8_0 : w7.cell? ⟨gb769, 0, none⟩ = some (.int .i64 0) := (blk_cell BK769.out 0).trans rfl; have hcz8_1 : w7.cell? ⟨gb769, 1, none⟩ = some (.slice none 0 0) := (blk_cell BK769.out 1).trans rfl; have hfz8_0 := blk_frozen BK769.out 0; have hfz8_1 := blk_frozen BK769.out 1; obtain ⟨Ao9, co9, eo9⟩ := Kd.R_slice HO768.out; subst eo9) | ((with_reducible refine gate_callee (f := 37) rfl ?_); refine goesM_ (some 15) rfl rfl Try.func37 (by kernel_rfl) rfl #[.agg #[.int .i64 t765, .slice Ao9 t766.length co9]] rfl ?_; (with_reducible refine (impl_GroupFactors.calls kj1 t765 _ _ t766 t770 _ ?side1 ?side2 A5.out).mono ?_); (case side1 => refine (Kd.R_reads' (e := 57) (base := w.heap.size) (ok := fun k_ => True) (n := t766.length) (c := co9) ?_).2.2; exact (by (with_reducible repeat (first | apply Kd.R_alloc | apply Kd.R_drewN | apply Kd.R_drew)); exact (Kd.R_mono (Kd.R_far (p := ⟨gb769, 1, none⟩) (Kd.R_far (p := ⟨gb769, 0, none⟩) (Kd.R_types HO768.out BK769.out (by decide)) (fun _ hk => hk.2) (.int .i64 t765)) (fun _ hk => hk.2) (.slice Ao9 t766.length co9)) (fun _ h_ => h_.1)))); (case side2 => exact (Kd.R_reads' HO768.out).2.1); rintro e w10 ⟨v771, rfl, ho0, hb⟩; refine ⟨_, rfl, ?_⟩; replace HO768 := Aside0.mk (Kd.R_below (by (with_reducible repeat (first | apply Kd.R_alloc | apply Kd.R_drewN | apply Kd.R_drew)); exact (Kd.R_mono (Kd.R_far (p := ⟨gb769, 1, none⟩) (Kd.R_far (p := ⟨gb769, 0, none⟩) (Kd.R_types HO768.out BK769.out (by decide)) (fun _ hk => hk.2) (.int .i64 t765)) (fun _ hk => hk.2) (.slice Ao9 t766.length co9)) (fun _ h_ => h_.1))) hb); have HO772 := Aside0.mk (Kd.R_lower ho0 (below_size (by exact Lz1 HB GE769))); replace BK769 := Aside0.mk (blk_below (g := gb769) (o := .cells #[.int .i64 t765, .slice Ao9 t766.length co9] 30 (0, 0)) (by (with_reducible repeat (first | refine blk_drewN ?_ _ | refine blk_drew ?_ | refine blk_alloc ?_ _)); refine blk_put (cs := #[.int .i64 t765, .slice none 0 0]) ?_ 1 _ rfl; (with_reducible repeat (first | refine blk_drewN ?_ _ | refine blk_drew ?_ | refine blk_alloc ?_ _)); refine blk_put (cs := #[.int .i64 0, .slice none 0 0]) ?_ 0 _ rfl; exact Bz BK769) hb); replace HB := Aside0.mk (below_step (by exact Lz1 HB GE769) hb); (try clear hb); (try clear ho0); obtain ⟨Ao11, co11, eo11⟩ := Kd.R_slice HO772.out; subst eo11))
   go_loopg [5, 18] kj1 (fun kq v5 v18 w' => ∃ (x5_2 : Int) (x18_2 : Int), v5 = .int .i64 x5_2 ∧ v18 = .int .i64 x18_2 ∧ Aside0 (laws_FnFactors.l0 kq t770 x5_2 t770 (t770.length : Int) x18_2 t765 t766 = some r) ∧ Aside0 (kq ≤ kj1) ∧ Aside0 (Kd.R (Kd.int .i64) 3 w' w.heap.size (fun _ => True) (.slice Ao11 t770.length co11) t770) ∧ Aside0 (Kd.R (Kd.int .i64) 3 w' w.heap.size (fun _ => True) (.slice Ao11 t770.length co11) t770) ∧ Aside0 (Kd.R k57 57 w' w.heap.size (fun _ => True) (.slice Ao9 t766.length co9) t766) ∧ Aside0 (w'.heap[gb769]? = some (.cells #[.int .i64 t765, (.slice Ao9 t766.length co9)] 30 (0, 0))) ∧ Aside0 (Below w.heap.size w w'))
   case atStart => exact ⟨(1), (0), eqA, eqA, H', ⟨Nat.le_refl _⟩, ⟨by exact Rz HO772⟩, ⟨by exact Rz HO772⟩, ⟨by exact Rz HO768⟩, ⟨by exact Bz BK769⟩, ⟨by exact Lz1 HB GE769⟩⟩
   case round =>
    clear H'
    try clear c3
    try clear c3b0
    try clear c3b1
    obtain ⟨x5_2, x18_2, rfl, rfl, HA, HK2, HO_4, HO_16, HO_770001, BK769, HB⟩ := hrel
    cases gk with
    | zero => exact absurd HA.out (by simp [laws_FnFactors.l0])
    | succ k2 =>
     have H := HA.out
     clear HA
     simp only [laws_FnFactors.l0] at H
     have HC12 := Aside0.mk H
     clear H
     go_upto_if 19 with (fail)
     go_cut [] (fun wc => ∃ (kq : Nat), Aside0 (laws_FnFactors.j2 kq t770 x5_2 t770 (t770.length : Int) x18_2 t765 t766 = some r) ∧ Aside0 (kq ≤ k2) ∧ Aside0 (Kd.R (Kd.int .i64) 3 wc w.heap.size (fun _ => True) (.slice Ao11 t770.length co11) t770) ∧ Aside0 (Kd.R (Kd.int .i64) 3 wc w.heap.size (fun _ => True) (.slice Ao11 t770.length co11) t770) ∧ Aside0 (Kd.R k57 57 wc w.heap.size (fun _ => True) (.slice Ao9 t766.length co9) t766) ∧ Aside0 (wc.heap[gb769]? = some (.cells #[.int .i64 t765, (.slice Ao9 t766.length co9)] 30 (0, 0))) ∧ Aside0 (Below w.heap.size w wc))
     case first =>
      have H := HC12.out
      clear HC12
      by_cases c13 : x18_2 < (t770.length : Int)
      ·rw [if_pos c13] at H
       have c13b0 : decide (x18_2 < (t770.length : Int)) = true := decide_eq_true c13
       clear c13
       (first | rw [c13b0] | (simp only [i64_w, i32_w]; rw [c13b0]) | skip)
       have H' := Aside0.mk H
       clear H
       go_wp2
       go_meet
       case rel => exact ⟨_, H', ⟨by have := HJ1.out; have := HK2.out; first | omega | exact Nat.le_refl _⟩, ⟨by exact Rz HO_4⟩, ⟨by exact Rz HO_16⟩, ⟨by exact Rz HO_770001⟩, ⟨by exact Bz BK769⟩, ⟨by exact Lz1 HB GE769⟩⟩
      rw [if_neg c13] at H
      have c13b0 : decide (x18_2 < (t770.length : Int)) = false := decide_eq_false c13
      clear c13
      (first | rw [c13b0] | (simp only [i64_w, i32_w]; rw [c13b0]) | skip)
      replace H := Option.bind_eq_some_iff.mp H
      obtain ⟨t775, A140, H⟩ := H
      replace H : ((impl_InvariantFactors.f k2 t775).bind fun t778 => ((impl_GraphOk.f k2 t765 t766).bind fun t781 => (if t781 = true then ((impl_GroupOrder.f k2 t765 t766).bind fun t782 => (if x5_2 = t782 then ((impl_CountTrees.f k2 t765 t766).bind fun t783 => (if x5_2 = t783 then (if (t778.length : Int) = t765 then (if 0 ≤ (wrap64 (t765 - 1)) then (if (wrap64 (t765 - 1)) < (t778.length : Int) then (if (rd t778 (wrap64 (t765 - 1))) = 0 then ((impl_IsCyclic.f k2 t765 t766).bind fun t785 => (some (t785 == (decide ((t770.length : Int) ≤ 1))))) else (some false)) else (none)) else (none)) else (some false)) else (some false))) else (some false))) else (some false)))) = some r := H
      have A14 := Aside0.mk A140
      clear A140
      replace H := Option.bind_eq_some_iff.mp H
      obtain ⟨t778, A150, H⟩ := H
      replace H : ((impl_GraphOk.f k2 t765 t766).bind fun t781 => (if t781 = true then ((impl_GroupOrder.f k2 t765 t766).bind fun t782 => (if x5_2 = t782 then ((impl_CountTrees.f k2 t765 t766).bind fun t783 => (if x5_2 = t783 then (if (t778.length : Int) = t765 then (if 0 ≤ (wrap64 (t765 - 1)) then (if (wrap64 (t765 - 1)) < (t778.length : Int) then (if (rd t778 (wrap64 (t765 - 1))) = 0 then ((impl_IsCyclic.f k2 t765 t766).bind fun t785 => (some (t785 == (decide ((t770.length : Int) ≤ 1))))) else (some false)) else (none)) else (none)) else (some false)) else (some false))) else (some false))) else (some false))) = some r := H
      have A15 := Aside0.mk A150
      clear A150
      replace H := Option.bind_eq_some_iff.mp H
      obtain ⟨t781, A160, H⟩ := H
      replace H : (if t781 = true then ((impl_GroupOrder.f k2 t765 t766).bind fun t782 => (if x5_2 = t782 then ((impl_CountTrees.f k2 t765 t766).bind fun t783 => (if x5_2 = t783 then (if (t778.length : Int) = t765 then (if 0 ≤ (wrap64 (t765 - 1)) then (if (wrap64 (t765 - 1)) < (t778.length : Int) then (if (rd t778 (wrap64 (t765 - 1))) = 0 then ((impl_IsCyclic.f k2 t765 t766).bind fun t785 => (some (t785 == (decide ((t770.length : Int) ≤ 1))))) else (some false)) else (none)) else (none)) else (some false)) else (some false))) else (some false))) else (some false)) = some r := H
      have A16 := Aside0.mk A160
      clear A160
      by_cases c17 : t781 = true
      ·subst c17
       have H1 : ((impl_GroupOrder.f k2 t765 t766).bind fun t782 => (if x5_2 = t782 then ((impl_CountTrees.f k2 t765 t766).bind fun t783 => (if x5_2 = t783 then (if (t778.length : Int) = t765 then (if 0 ≤ (wrap64 (t765 - 1)) then (if (wrap64 (t765 - 1)) < (t778.length : Int) then (if (rd t778 (wrap64 (t765 - 1))) = 0 then ((impl_IsCyclic.f k2 t765 t766).bind fun t785 => (some (t785 == (decide ((t770.length : Int) ≤ 1))))) else (some false)) else (none)) else (none)) else (some false)) else (some false))) else (some false))) = some r := by rw [if_pos rfl] at H; exact H
       clear H
       have H := H1
       clear H1
       replace H := Option.bind_eq_some_iff.mp H
       obtain ⟨t782, A180, H⟩ := H
       replace H : (if x5_2 = t782 then ((impl_CountTrees.f k2 t765 t766).bind fun t783 => (if x5_2 = t783 then (if (t778.length : Int) = t765 then (if 0 ≤ (wrap64 (t765 - 1)) then (if (wrap64 (t765 - 1)) < (t778.length : Int) then (if (rd t778 (wrap64 (t765 - 1))) = 0 then ((impl_IsCyclic.f k2 t765 t766).bind fun t785 => (some (t785 == (decide ((t770.length : Int) ≤ 1))))) else (some false)) else (none)) else (none)) else (some false)) else (some false))) else (some false)) = some r := H
       have A18 := Aside0.mk A180
       clear A180
       by_cases c19 : x5_2 = t782
       ·rw [if_pos c19] at H
        have c19b0 : (x5_2 == t782) = true := beq_iff_eq.mpr c19
        have c19b1 : (x5_2 != t782) = false := bne_eq_false_iff_eq.mpr c19
        clear c19
        replace H := Option.bind_eq_some_iff.mp H
        obtain ⟨t783, A200, H⟩ := H
        replace H : (if x5_2 = t783 then (if (t778.length : Int) = t765 then (if 0 ≤ (wrap64 (t765 - 1)) then (if (wrap64 (t765 - 1)) < (t778.length : Int) then (if (rd t778 (wrap64 (t765 - 1))) = 0 then ((impl_IsCyclic.f k2 t765 t766).bind fun t785 => (some (t785 == (decide ((t770.length : Int) ≤ 1))))) else (some false)) else (none)) else (none)) else (some false)) else (some false)) = some r := H
        have A20 := Aside0.mk A200
        clear A200
        by_cases c21 : x5_2 = t783
        ·rw [if_pos c21] at H
         have c21b0 : (x5_2 == t783) = true := beq_iff_eq.mpr c21
         have c21b1 : (x5_2 != t783) = false := bne_eq_false_iff_eq.mpr c21
         clear c21
         by_cases c22 : (t778.length : Int) = t765
         ·rw [if_pos c22] at H
          have c22b0 : ((t778.length : Int) == t765) = true := beq_iff_eq.mpr c22
          have c22b1 : ((t778.length : Int) != t765) = false := bne_eq_false_iff_eq.mpr c22
          clear c22
          obtain ⟨ji23, hji23⟩ : ∃ j_ : Int, (wrap64 (t765 - 1)) = j_ := ⟨_, rfl⟩
          replace H : (if 0 ≤ (ji23) then (if (ji23) < (t778.length : Int) then (if (rd t778 (ji23)) = 0 then ((impl_IsCyclic.f k2 t765 t766).bind fun t785 => (some (t785 == (decide ((t770.length : Int) ≤ 1))))) else (some false)) else (none)) else (none)) = some r := by first | (rw [hji23] at H; exact H) | (simp only [hji23] at H ⊢; exact H)
          (try rw [hji23] at A14)
          (try rw [hji23] at A15)
          (try rw [hji23] at A16)
          (try rw [hji23] at A18)
          (try rw [hji23] at A20)
          have hji23w : (IntKind.i64.wrap (t765 - 1)) = ji23 := (i64_w _).trans hji23
          by_cases c24 : 0 ≤ (ji23)
          ·rw [if_pos c24] at H
           have c24b0 : decide (0 ≤ (ji23)) = true := decide_eq_true c24
           clear c24
           by_cases c25 : (ji23) < (t778.length : Int)
           ·rw [if_pos c25] at H
            have c25b0 : decide ((ji23) < (t778.length : Int)) = true := decide_eq_true c25
            clear c25
            by_cases c26 : (rd t778 (ji23)) = 0
            ·rw [if_pos c26] at H
             have c26b0 : ((rd t778 (ji23)) == 0) = true := beq_iff_eq.mpr c26
             have c26b1 : ((rd t778 (ji23)) != 0) = false := bne_eq_false_iff_eq.mpr c26
             clear c26
             replace H := Option.bind_eq_some_iff.mp H
             obtain ⟨t785, A270, H⟩ := H
             replace H : (some (t785 == (decide ((t770.length : Int) ≤ 1)))) = some r := H
             have A27 := Aside0.mk A270
             clear A270
             obtain rfl := Option.some.inj H
             have hcz28_0 : wr.cell? ⟨gb769, 0, none⟩ = some (.int .i64 t765) := (blk_cell BK769.out 0).trans rfl
             have hcz28_1 : wr.cell? ⟨gb769, 1, none⟩ = some (.slice Ao9 t766.length co9) := (blk_cell BK769.out 1).trans rfl
             have hfz28_0 := blk_frozen BK769.out 0
             have hfz28_1 := blk_frozen BK769.out 1
             go_wp2_with (first | ((with_reducible refine gate_callee (f := 14) rfl ?_); refine goesM_ (some 44) rfl rfl Try.func14 (by kernel_rfl) rfl #[.agg #[.int .i64 t765, .slice Ao9 t766.length co9]] rfl ?_; (with_reducible refine (impl_LaplacianOf.calls k2 t765 _ _ t766 t775 _ ?side1 ?side2 A14.out).mono ?_); (case side1 => exact Cz ((Kd.R_reads' HO_770001.out).2.2)); (case side2 => exact (Kd.R_reads' HO_770001.out).2.1); rintro e w29 ⟨v776, rfl, ho0, hb⟩; refine ⟨_, rfl, ?_⟩; replace HO_770001 := Aside0.mk (Kd.R_below (Rz HO_770001) hb); have HO777 := Aside0.mk (Kd.S_lower (Kd.S_new' (Kd.S_new' ho0 (Kd.R_lt (Rz HO_4))) (Kd.R_lt (Rz HO_16))) (below_size (by exact Lz1 HB GE769))); replace HO_4 := Aside0.mk (Kd.R_below (Rz HO_4) hb); replace HO_16 := Aside0.mk (Kd.R_below (Rz HO_16) hb); replace BK769 := Aside0.mk (blk_below (g := gb769) (o := .cells #[.int .i64 t765, .slice Ao9 t766.length co9] 30 (0, 0)) (Bz BK769) hb); replace HB := Aside0.mk (below_step (by exact Lz1 HB GE769) hb); (try clear hb); (try clear ho0); obtain ⟨Ao30, co30, eo30⟩ := Kd.S_slice HO777.out; subst eo30) | ((with_reducible refine gate_callee (f := 23) rfl ?_); refine goesM_ (some 45) rfl rfl Try.func23 (by kernel_rfl) rfl #[.slice Ao30 t775.length co30] rfl ?_; (with_reducible refine (impl_InvariantFactors.calls k2 _ _ t775 t778 _ ?side1 ?side2 A15.out).mono ?_); (case side1 => exact Cz ((Kd.S_reads' HO777.out).2.2)); (case side2 => exact (Kd.S_reads' HO777.out).2.1); rintro e w31 ⟨v779, rfl, ho0, hb⟩; refine ⟨_, rfl, ?_⟩; replace HO_770001 := Aside0.mk (Kd.R_below (Rz HO_770001) hb); replace HO777 := Aside0.mk (Kd.S_elder' (by (with_reducible repeat (first | apply Kd.S_alloc | apply Kd.S_drewN | apply Kd.S_drew)); exact HO777.out) (Kd.R_base ho0) hb); have HO780 := Aside0.mk (Kd.R_lower (Kd.R_new' (Kd.R_new' ho0 (Kd.R_lt (Rz HO_4))) (Kd.R_lt (Rz HO_16))) (below_size (by exact Lz1 HB GE769))); replace HO_4 := Aside0.mk (Kd.R_elder' (Rz HO_4) (Kd.R_base ho0) hb); replace HO_16 := Aside0.mk (Kd.R_elder' (Rz HO_16) (Kd.R_base ho0) hb); replace BK769 := Aside0.mk (blk_below (g := gb769) (o := .cells #[.int .i64 t765, .slice Ao9 t766.length co9] 30 (0, 0)) (Bz BK769) hb); replace HB := Aside0.mk (below_step (by exact Lz1 HB GE769) hb); (try clear hb); (try clear ho0); have hcz32_0 : w31.cell? ⟨gb769, 0, none⟩ = some (.int .i64 t765) := (blk_cell BK769.out 0).trans rfl; have hcz32_1 : w31.cell? ⟨gb769, 1, none⟩ = some (.slice Ao9 t766.length co9) := (blk_cell BK769.out 1).trans rfl; have hfz32_0 := blk_frozen BK769.out 0; have hfz32_1 := blk_frozen BK769.out 1) | ((with_reducible refine gate_callee (f := 38) rfl ?_); refine goesM_ (some 47) rfl rfl Try.func38 (by kernel_rfl) rfl #[.agg #[.int .i64 t765, .slice Ao9 t766.length co9]] rfl ?_; (with_reducible refine (impl_GraphOk.calls k2 t765 _ _ t766 true _ ?side1 ?side2 A16.out).mono ?_); (case side1 => exact Cz ((Kd.R_reads' HO_770001.out).2.2)); (case side2 => exact (Kd.R_reads' HO_770001.out).2.1); rintro e w33 ⟨rfl, hb⟩; refine ⟨_, rfl, ?_⟩; replace HO_4 := Aside0.mk (Kd.R_below (Rz HO_4) hb); replace HO_16 := Aside0.mk (Kd.R_below (Rz HO_16) hb); replace HO_770001 := Aside0.mk (Kd.R_below (Rz HO_770001) hb); replace HO777 := Aside0.mk (Kd.S_below (by (with_reducible repeat (first | apply Kd.S_alloc | apply Kd.S_drewN | apply Kd.S_drew)); exact HO777.out) hb); replace HO780 := Aside0.mk (Kd.R_below (Rz HO780) hb); replace BK769 := Aside0.mk (blk_below (g := gb769) (o := .cells #[.int .i64 t765, .slice Ao9 t766.length co9] 30 (0, 0)) (Bz BK769) hb); replace HB := Aside0.mk (below_step (by exact Lz1 HB GE769) hb); (try clear hb); (try clear hb2); (try clear hk); (try clear hi); have hcz34_0 : w33.cell? ⟨gb769, 0, none⟩ = some (.int .i64 t765) := (blk_cell BK769.out 0).trans rfl; have hcz34_1 : w33.cell? ⟨gb769, 1, none⟩ = some (.slice Ao9 t766.length co9) := (blk_cell BK769.out 1).trans rfl; have hfz34_0 := blk_frozen BK769.out 0; have hfz34_1 := blk_frozen BK769.out 1) | (go_at_call 32; (with_reducible refine (impl_GroupOrder.calls k2 t765 _ _ t766 t782 _ ?side1 ?side2 A18.out).mono ?_); (case side1 => exact Cz ((Kd.R_reads' HO_770001.out).2.2)); (case side2 => exact (Kd.R_reads' HO_770001.out).2.1); rintro e w35 ⟨rfl, hb⟩; replace HO_4 := Aside0.mk (Kd.R_below (Rz HO_4) hb); replace HO_16 := Aside0.mk (Kd.R_below (Rz HO_16) hb); replace HO_770001 := Aside0.mk (Kd.R_below (Rz HO_770001) hb); replace HO777 := Aside0.mk (Kd.S_below (by (with_reducible repeat (first | apply Kd.S_alloc | apply Kd.S_drewN | apply Kd.S_drew)); exact HO777.out) hb); replace HO780 := Aside0.mk (Kd.R_below (Rz HO780) hb); replace BK769 := Aside0.mk (blk_below (g := gb769) (o := .cells #[.int .i64 t765, .slice Ao9 t766.length co9] 30 (0, 0)) (Bz BK769) hb); replace HB := Aside0.mk (below_step (by exact Lz1 HB GE769) hb); (try clear hb); (try clear hb2); (try clear hk); (try clear hi); have hcz36_0 : w35.cell? ⟨gb769, 0, none⟩ = some (.int .i64 t765) := (blk_cell BK769.out 0).trans rfl; have hcz36_1 : w35.cell? ⟨gb769, 1, none⟩ = some (.slice Ao9 t766.length co9) := (blk_cell BK769.out 1).trans rfl; have hfz36_0 := blk_frozen BK769.out 0; have hfz36_1 := blk_frozen BK769.out 1) | (go_at_call 30; (with_reducible refine (impl_CountTrees.calls k2 t765 _ _ t766 t783 _ ?side1 ?side2 A20.out).mono ?_); (case side1 => exact Cz ((Kd.R_reads' HO_770001.out).2.2)); (case side2 => exact (Kd.R_reads' HO_770001.out).2.1); rintro e w37 ⟨rfl, hb⟩; replace HO_4 := Aside0.mk (Kd.R_below (Rz HO_4) hb); replace HO_16 := Aside0.mk (Kd.R_below (Rz HO_16) hb); replace HO_770001 := Aside0.mk (Kd.R_below (Rz HO_770001) hb); replace HO777 := Aside0.mk (Kd.S_below (by (with_reducible repeat (first | apply Kd.S_alloc | apply Kd.S_drewN | apply Kd.S_drew)); exact HO777.out) hb); replace HO780 := Aside0.mk (Kd.R_below (Rz HO780) hb); replace BK769 := Aside0.mk (blk_below (g := gb769) (o := .cells #[.int .i64 t765, .slice Ao9 t766.length co9] 30 (0, 0)) (Bz BK769) hb); replace HB := Aside0.mk (below_step (by exact Lz1 HB GE769) hb); (try clear hb); (try clear hb2); (try clear hk); (try clear hi); obtain ⟨Ao38, co38, eo38⟩ := Kd.R_slice HO780.out; subst eo38; have hcz39_0 : w37.cell? ⟨gb769, 0, none⟩ = some (.int .i64 t765) := (blk_cell BK769.out 0).trans rfl; have hcz39_1 : w37.cell? ⟨gb769, 1, none⟩ = some (.slice Ao9 t766.length co9) := (blk_cell BK769.out 1).trans rfl; have hfz39_0 := blk_frozen BK769.out 0; have hfz39_1 := blk_frozen BK769.out 1; have p784 : 0 ≤ ((ji23) : Int) := ofA; have q784 : (ji23) < (t778.length : Int) := ofA; obtain ⟨ad784, e784, hx784_0⟩ := Kd.at_int (Kd.R_reads' HO780.out).2.2 (ji23) p784 q784; cases e784; replace p784 := eq_true p784; replace q784 := eq_true q784) | (go_at_call 39; (with_reducible refine (impl_IsCyclic.calls k2 t765 _ _ t766 t785 _ ?side1 ?side2 A27.out).mono ?_); (case side1 => exact Cz ((Kd.R_reads' HO_770001.out).2.2)); (case side2 => exact (Kd.R_reads' HO_770001.out).2.1); rintro e w40 ⟨rfl, hb⟩; replace HO_4 := Aside0.mk (Kd.R_below (Rz HO_4) hb); replace HO_16 := Aside0.mk (Kd.R_below (Rz HO_16) hb); replace HO_770001 := Aside0.mk (Kd.R_below (Rz HO_770001) hb); replace HO777 := Aside0.mk (Kd.S_below (by (with_reducible repeat (first | apply Kd.S_alloc | apply Kd.S_drewN | apply Kd.S_drew)); exact HO777.out) hb); replace HO780 := Aside0.mk (Kd.R_below (Rz HO780) hb); replace BK769 := Aside0.mk (blk_below (g := gb769) (o := .cells #[.int .i64 t765, .slice Ao9 t766.length co9] 30 (0, 0)) (Bz BK769) hb); replace HB := Aside0.mk (below_step (by exact Lz1 HB GE769) hb); (try clear hb); (try clear hb2); (try clear hk); (try clear hi)))
             go_ret
             exact ⟨by first | rfl | (simp [errW_none, errW_some] <;> rfl) | (simp only [← hji23]; first | rfl | (simp [errW_none, errW_some] <;> rfl)) | (simp [*, errW_none, errW_some] <;> rfl), by exact Lz1 HB GE769⟩
            rw [if_neg c26] at H
            have c26b0 : ((rd t778 (ji23)) == 0) = false := beq_eq_false_iff_ne.mpr c26
            have c26b1 : ((rd t778 (ji23)) != 0) = true := bne_iff_ne.mpr c26
            obtain rfl := Option.some.inj H
            have hcz41_0 : wr.cell? ⟨gb769, 0, none⟩ = some (.int .i64 t765) := (blk_cell BK769.out 0).trans rfl
            have hcz41_1 : wr.cell? ⟨gb769, 1, none⟩ = some (.slice Ao9 t766.length co9) := (blk_cell BK769.out 1).trans rfl
            have hfz41_0 := blk_frozen BK769.out 0
            have hfz41_1 := blk_frozen BK769.out 1
            go_wp2_with (first | ((with_reducible refine gate_callee (f := 14) rfl ?_); refine goesM_ (some 44) rfl rfl Try.func14 (by kernel_rfl) rfl #[.agg #[.int .i64 t765, .slice Ao9 t766.length co9]] rfl ?_; (with_reducible refine (impl_LaplacianOf.calls k2 t765 _ _ t766 t775 _ ?side1 ?side2 A14.out).mono ?_); (case side1 => exact Cz ((Kd.R_reads' HO_770001.out).2.2)); (case side2 => exact (Kd.R_reads' HO_770001.out).2.1); rintro e w42 ⟨v776, rfl, ho0, hb⟩; refine ⟨_, rfl, ?_⟩; replace HO_770001 := Aside0.mk (Kd.R_below (Rz HO_770001) hb); have HO777 := Aside0.mk (Kd.S_lower (Kd.S_new' (Kd.S_new' ho0 (Kd.R_lt (Rz HO_4))) (Kd.R_lt (Rz HO_16))) (below_size (by exact Lz1 HB GE769))); replace HO_4 := Aside0.mk (Kd.R_below (Rz HO_4) hb); replace HO_16 := Aside0.mk (Kd.R_below (Rz HO_16) hb); replace BK769 := Aside0.mk (blk_below (g := gb769) (o := .cells #[.int .i64 t765, .slice Ao9 t766.length co9] 30 (0, 0)) (Bz BK769) hb); replace HB := Aside0.mk (below_step (by exact Lz1 HB GE769) hb); (try clear hb); (try clear ho0); obtain ⟨Ao43, co43, eo43⟩ := Kd.S_slice HO777.out; subst eo43) | ((with_reducible refine gate_callee (f := 23) rfl ?_); refine goesM_ (some 45) rfl rfl Try.func23 (by kernel_rfl) rfl #[.slice Ao43 t775.length co43] rfl ?_; (with_reducible refine (impl_InvariantFactors.calls k2 _ _ t775 t778 _ ?side1 ?side2 A15.out).mono ?_); (case side1 => exact Cz ((Kd.S_reads' HO777.out).2.2)); (case side2 => exact (Kd.S_reads' HO777.out).2.1); rintro e w44 ⟨v779, rfl, ho0, hb⟩; refine ⟨_, rfl, ?_⟩; replace HO_770001 := Aside0.mk (Kd.R_below (Rz HO_770001) hb); replace HO777 := Aside0.mk (Kd.S_elder' (by (with_reducible repeat (first | apply Kd.S_alloc | apply Kd.S_drewN | apply Kd.S_drew)); exact HO777.out) (Kd.R_base ho0) hb); have HO780 := Aside0.mk (Kd.R_lower (Kd.R_new' (Kd.R_new' ho0 (Kd.R_lt (Rz HO_4))) (Kd.R_lt (Rz HO_16))) (below_size (by exact Lz1 HB GE769))); replace HO_4 := Aside0.mk (Kd.R_elder' (Rz HO_4) (Kd.R_base ho0) hb); replace HO_16 := Aside0.mk (Kd.R_elder' (Rz HO_16) (Kd.R_base ho0) hb); replace BK769 := Aside0.mk (blk_below (g := gb769) (o := .cells #[.int .i64 t765, .slice Ao9 t766.length co9] 30 (0, 0)) (Bz BK769) hb); replace HB := Aside0.mk (below_step (by exact Lz1 HB GE769) hb); (try clear hb); (try clear ho0); have hcz45_0 : w44.cell? ⟨gb769, 0, none⟩ = some (.int .i64 t765) := (blk_cell BK769.out 0).trans rfl; have hcz45_1 : w44.cell? ⟨gb769, 1, none⟩ = some (.slice Ao9 t766.length co9) := (blk_cell BK769.out 1).trans rfl; have hfz45_0 := blk_frozen BK769.out 0; have hfz45_1 := blk_frozen BK769.out 1) | ((with_reducible refine gate_callee (f := 38) rfl ?_); refine goesM_ (some 47) rfl rfl Try.func38 (by kernel_rfl) rfl #[.agg #[.int .i64 t765, .slice Ao9 t766.length co9]] rfl ?_; (with_reducible refine (impl_GraphOk.calls k2 t765 _ _ t766 true _ ?side1 ?side2 A16.out).mono ?_); (case side1 => exact Cz ((Kd.R_reads' HO_770001.out).2.2)); (case side2 => exact (Kd.R_reads' HO_770001.out).2.1); rintro e w46 ⟨rfl, hb⟩; refine ⟨_, rfl, ?_⟩; replace HO_4 := Aside0.mk (Kd.R_below (Rz HO_4) hb); replace HO_16 := Aside0.mk (Kd.R_below (Rz HO_16) hb); replace HO_770001 := Aside0.mk (Kd.R_below (Rz HO_770001) hb); replace HO777 := Aside0.mk (Kd.S_below (by (with_reducible repeat (first | apply Kd.S_alloc | apply Kd.S_drewN | apply Kd.S_drew)); exact HO777.out) hb); replace HO780 := Aside0.mk (Kd.R_below (Rz HO780) hb); replace BK769 := Aside0.mk (blk_below (g := gb769) (o := .cells #[.int .i64 t765, .slice Ao9 t766.length co9] 30 (0, 0)) (Bz BK769) hb); replace HB := Aside0.mk (below_step (by exact Lz1 HB GE769) hb); (try clear hb); (try clear hb2); (try clear hk); (try clear hi); have hcz47_0 : w46.cell? ⟨gb769, 0, none⟩ = some (.int .i64 t765) := (blk_cell BK769.out 0).trans rfl; have hcz47_1 : w46.cell? ⟨gb769, 1, none⟩ = some (.slice Ao9 t766.length co9) := (blk_cell BK769.out 1).trans rfl; have hfz47_0 := blk_frozen BK769.out 0; have hfz47_1 := blk_frozen BK769.out 1) | (go_at_call 32; (with_reducible refine (impl_GroupOrder.calls k2 t765 _ _ t766 t782 _ ?side1 ?side2 A18.out).mono ?_); (case side1 => exact Cz ((Kd.R_reads' HO_770001.out).2.2)); (case side2 => exact (Kd.R_reads' HO_770001.out).2.1); rintro e w48 ⟨rfl, hb⟩; replace HO_4 := Aside0.mk (Kd.R_below (Rz HO_4) hb); replace HO_16 := Aside0.mk (Kd.R_below (Rz HO_16) hb); replace HO_770001 := Aside0.mk (Kd.R_below (Rz HO_770001) hb); replace HO777 := Aside0.mk (Kd.S_below (by (with_reducible repeat (first | apply Kd.S_alloc | apply Kd.S_drewN | apply Kd.S_drew)); exact HO777.out) hb); replace HO780 := Aside0.mk (Kd.R_below (Rz HO780) hb); replace BK769 := Aside0.mk (blk_below (g := gb769) (o := .cells #[.int .i64 t765, .slice Ao9 t766.length co9] 30 (0, 0)) (Bz BK769) hb); replace HB := Aside0.mk (below_step (by exact Lz1 HB GE769) hb); (try clear hb); (try clear hb2); (try clear hk); (try clear hi); have hcz49_0 : w48.cell? ⟨gb769, 0, none⟩ = some (.int .i64 t765) := (blk_cell BK769.out 0).trans rfl; have hcz49_1 : w48.cell? ⟨gb769, 1, none⟩ = some (.slice Ao9 t766.length co9) := (blk_cell BK769.out 1).trans rfl; have hfz49_0 := blk_frozen BK769.out 0; have hfz49_1 := blk_frozen BK769.out 1) | (go_at_call 30; (with_reducible refine (impl_CountTrees.calls k2 t765 _ _ t766 t783 _ ?side1 ?side2 A20.out).mono ?_); (case side1 => exact Cz ((Kd.R_reads' HO_770001.out).2.2)); (case side2 => exact (Kd.R_reads' HO_770001.out).2.1); rintro e w50 ⟨rfl, hb⟩; replace HO_4 := Aside0.mk (Kd.R_below (Rz HO_4) hb); replace HO_16 := Aside0.mk (Kd.R_below (Rz HO_16) hb); replace HO_770001 := Aside0.mk (Kd.R_below (Rz HO_770001) hb); replace HO777 := Aside0.mk (Kd.S_below (by (with_reducible repeat (first | apply Kd.S_alloc | apply Kd.S_drewN | apply Kd.S_drew)); exact HO777.out) hb); replace HO780 := Aside0.mk (Kd.R_below (Rz HO780) hb); replace BK769 := Aside0.mk (blk_below (g := gb769) (o := .cells #[.int .i64 t765, .slice Ao9 t766.length co9] 30 (0, 0)) (Bz BK769) hb); replace HB := Aside0.mk (below_step (by exact Lz1 HB GE769) hb); (try clear hb); (try clear hb2); (try clear hk); (try clear hi); obtain ⟨Ao51, co51, eo51⟩ := Kd.R_slice HO780.out; subst eo51; have hcz52_0 : w50.cell? ⟨gb769, 0, none⟩ = some (.int .i64 t765) := (blk_cell BK769.out 0).trans rfl; have hcz52_1 : w50.cell? ⟨gb769, 1, none⟩ = some (.slice Ao9 t766.length co9) := (blk_cell BK769.out 1).trans rfl; have hfz52_0 := blk_frozen BK769.out 0; have hfz52_1 := blk_frozen BK769.out 1; have p784 : 0 ≤ ((ji23) : Int) := ofA; have q784 : (ji23) < (t778.length : Int) := ofA; obtain ⟨ad784, e784, hx784_0⟩ := Kd.at_int (Kd.R_reads' HO780.out).2.2 (ji23) p784 q784; cases e784; replace p784 := eq_true p784; replace q784 := eq_true q784))
            go_ret
            exact ⟨by first | rfl | (simp [errW_none, errW_some] <;> rfl) | (simp only [← hji23]; first | rfl | (simp [errW_none, errW_some] <;> rfl)) | (simp [*, errW_none, errW_some] <;> rfl), by exact Lz1 HB GE769⟩
           rw [if_neg c25] at H
           exact absurd H (by simp)
          rw [if_neg c24] at H
          exact absurd H (by simp)
         rw [if_neg c22] at H
         have c22b0 : ((t778.length : Int) == t765) = false := beq_eq_false_iff_ne.mpr c22
         have c22b1 : ((t778.length : Int) != t765) = true := bne_iff_ne.mpr c22
         obtain rfl := Option.some.inj H
         have hcz53_0 : wr.cell? ⟨gb769, 0, none⟩ = some (.int .i64 t765) := (blk_cell BK769.out 0).trans rfl
         have hcz53_1 : wr.cell? ⟨gb769, 1, none⟩ = some (.slice Ao9 t766.length co9) := (blk_cell BK769.out 1).trans rfl
         have hfz53_0 := blk_frozen BK769.out 0
         have hfz53_1 := blk_frozen BK769.out 1
         go_wp2_with (first | ((with_reducible refine gate_callee (f := 14) rfl ?_); refine goesM_ (some 44) rfl rfl Try.func14 (by kernel_rfl) rfl #[.agg #[.int .i64 t765, .slice Ao9 t766.length co9]] rfl ?_; (with_reducible refine (impl_LaplacianOf.calls k2 t765 _ _ t766 t775 _ ?side1 ?side2 A14.out).mono ?_); (case side1 => exact Cz ((Kd.R_reads' HO_770001.out).2.2)); (case side2 => exact (Kd.R_reads' HO_770001.out).2.1); rintro e w54 ⟨v776, rfl, ho0, hb⟩; refine ⟨_, rfl, ?_⟩; replace HO_770001 := Aside0.mk (Kd.R_below (Rz HO_770001) hb); have HO777 := Aside0.mk (Kd.S_lower (Kd.S_new' (Kd.S_new' ho0 (Kd.R_lt (Rz HO_4))) (Kd.R_lt (Rz HO_16))) (below_size (by exact Lz1 HB GE769))); replace HO_4 := Aside0.mk (Kd.R_below (Rz HO_4) hb); replace HO_16 := Aside0.mk (Kd.R_below (Rz HO_16) hb); replace BK769 := Aside0.mk (blk_below (g := gb769) (o := .cells #[.int .i64 t765, .slice Ao9 t766.length co9] 30 (0, 0)) (Bz BK769) hb); replace HB := Aside0.mk (below_step (by exact Lz1 HB GE769) hb); (try clear hb); (try clear ho0); obtain ⟨Ao55, co55, eo55⟩ := Kd.S_slice HO777.out; subst eo55) | ((with_reducible refine gate_callee (f := 23) rfl ?_); refine goesM_ (some 45) rfl rfl Try.func23 (by kernel_rfl) rfl #[.slice Ao55 t775.length co55] rfl ?_; (with_reducible refine (impl_InvariantFactors.calls k2 _ _ t775 t778 _ ?side1 ?side2 A15.out).mono ?_); (case side1 => exact Cz ((Kd.S_reads' HO777.out).2.2)); (case side2 => exact (Kd.S_reads' HO777.out).2.1); rintro e w56 ⟨v779, rfl, ho0, hb⟩; refine ⟨_, rfl, ?_⟩; replace HO_770001 := Aside0.mk (Kd.R_below (Rz HO_770001) hb); replace HO777 := Aside0.mk (Kd.S_elder' (by (with_reducible repeat (first | apply Kd.S_alloc | apply Kd.S_drewN | apply Kd.S_drew)); exact HO777.out) (Kd.R_base ho0) hb); have HO780 := Aside0.mk (Kd.R_lower (Kd.R_new' (Kd.R_new' ho0 (Kd.R_lt (Rz HO_4))) (Kd.R_lt (Rz HO_16))) (below_size (by exact Lz1 HB GE769))); replace HO_4 := Aside0.mk (Kd.R_elder' (Rz HO_4) (Kd.R_base ho0) hb); replace HO_16 := Aside0.mk (Kd.R_elder' (Rz HO_16) (Kd.R_base ho0) hb); replace BK769 := Aside0.mk (blk_below (g := gb769) (o := .cells #[.int .i64 t765, .slice Ao9 t766.length co9] 30 (0, 0)) (Bz BK769) hb); replace HB := Aside0.mk (below_step (by exact Lz1 HB GE769) hb); (try clear hb); (try clear ho0); have hcz57_0 : w56.cell? ⟨gb769, 0, none⟩ = some (.int .i64 t765) := (blk_cell BK769.out 0).trans rfl; have hcz57_1 : w56.cell? ⟨gb769, 1, none⟩ = some (.slice Ao9 t766.length co9) := (blk_cell BK769.out 1).trans rfl; have hfz57_0 := blk_frozen BK769.out 0; have hfz57_1 := blk_frozen BK769.out 1) | ((with_reducible refine gate_callee (f := 38) rfl ?_); refine goesM_ (some 47) rfl rfl Try.func38 (by kernel_rfl) rfl #[.agg #[.int .i64 t765, .slice Ao9 t766.length co9]] rfl ?_; (with_reducible refine (impl_GraphOk.calls k2 t765 _ _ t766 true _ ?side1 ?side2 A16.out).mono ?_); (case side1 => exact Cz ((Kd.R_reads' HO_770001.out).2.2)); (case side2 => exact (Kd.R_reads' HO_770001.out).2.1); rintro e w58 ⟨rfl, hb⟩; refine ⟨_, rfl, ?_⟩; replace HO_4 := Aside0.mk (Kd.R_below (Rz HO_4) hb); replace HO_16 := Aside0.mk (Kd.R_below (Rz HO_16) hb); replace HO_770001 := Aside0.mk (Kd.R_below (Rz HO_770001) hb); replace HO777 := Aside0.mk (Kd.S_below (by (with_reducible repeat (first | apply Kd.S_alloc | apply Kd.S_drewN | apply Kd.S_drew)); exact HO777.out) hb); replace HO780 := Aside0.mk (Kd.R_below (Rz HO780) hb); replace BK769 := Aside0.mk (blk_below (g := gb769) (o := .cells #[.int .i64 t765, .slice Ao9 t766.length co9] 30 (0, 0)) (Bz BK769) hb); replace HB := Aside0.mk (below_step (by exact Lz1 HB GE769) hb); (try clear hb); (try clear hb2); (try clear hk); (try clear hi); have hcz59_0 : w58.cell? ⟨gb769, 0, none⟩ = some (.int .i64 t765) := (blk_cell BK769.out 0).trans rfl; have hcz59_1 : w58.cell? ⟨gb769, 1, none⟩ = some (.slice Ao9 t766.length co9) := (blk_cell BK769.out 1).trans rfl; have hfz59_0 := blk_frozen BK769.out 0; have hfz59_1 := blk_frozen BK769.out 1) | (go_at_call 32; (with_reducible refine (impl_GroupOrder.calls k2 t765 _ _ t766 t782 _ ?side1 ?side2 A18.out).mono ?_); (case side1 => exact Cz ((Kd.R_reads' HO_770001.out).2.2)); (case side2 => exact (Kd.R_reads' HO_770001.out).2.1); rintro e w60 ⟨rfl, hb⟩; replace HO_4 := Aside0.mk (Kd.R_below (Rz HO_4) hb); replace HO_16 := Aside0.mk (Kd.R_below (Rz HO_16) hb); replace HO_770001 := Aside0.mk (Kd.R_below (Rz HO_770001) hb); replace HO777 := Aside0.mk (Kd.S_below (by (with_reducible repeat (first | apply Kd.S_alloc | apply Kd.S_drewN | apply Kd.S_drew)); exact HO777.out) hb); replace HO780 := Aside0.mk (Kd.R_below (Rz HO780) hb); replace BK769 := Aside0.mk (blk_below (g := gb769) (o := .cells #[.int .i64 t765, .slice Ao9 t766.length co9] 30 (0, 0)) (Bz BK769) hb); replace HB := Aside0.mk (below_step (by exact Lz1 HB GE769) hb); (try clear hb); (try clear hb2); (try clear hk); (try clear hi); have hcz61_0 : w60.cell? ⟨gb769, 0, none⟩ = some (.int .i64 t765) := (blk_cell BK769.out 0).trans rfl; have hcz61_1 : w60.cell? ⟨gb769, 1, none⟩ = some (.slice Ao9 t766.length co9) := (blk_cell BK769.out 1).trans rfl; have hfz61_0 := blk_frozen BK769.out 0; have hfz61_1 := blk_frozen BK769.out 1) | (go_at_call 30; (with_reducible refine (impl_CountTrees.calls k2 t765 _ _ t766 t783 _ ?side1 ?side2 A20.out).mono ?_); (case side1 => exact Cz ((Kd.R_reads' HO_770001.out).2.2)); (case side2 => exact (Kd.R_reads' HO_770001.out).2.1); rintro e w62 ⟨rfl, hb⟩; replace HO_4 := Aside0.mk (Kd.R_below (Rz HO_4) hb); replace HO_16 := Aside0.mk (Kd.R_below (Rz HO_16) hb); replace HO_770001 := Aside0.mk (Kd.R_below (Rz HO_770001) hb); replace HO777 := Aside0.mk (Kd.S_below (by (with_reducible repeat (first | apply Kd.S_alloc | apply Kd.S_drewN | apply Kd.S_drew)); exact HO777.out) hb); replace HO780 := Aside0.mk (Kd.R_below (Rz HO780) hb); replace BK769 := Aside0.mk (blk_below (g := gb769) (o := .cells #[.int .i64 t765, .slice Ao9 t766.length co9] 30 (0, 0)) (Bz BK769) hb); replace HB := Aside0.mk (below_step (by exact Lz1 HB GE769) hb); (try clear hb); (try clear hb2); (try clear hk); (try clear hi); obtain ⟨Ao63, co63, eo63⟩ := Kd.R_slice HO780.out; subst eo63; have hcz64_0 : w62.cell? ⟨gb769, 0, none⟩ = some (.int .i64 t765) := (blk_cell BK769.out 0).trans rfl; have hcz64_1 : w62.cell? ⟨gb769, 1, none⟩ = some (.slice Ao9 t766.length co9) := (blk_cell BK769.out 1).trans rfl; have hfz64_0 := blk_frozen BK769.out 0; have hfz64_1 := blk_frozen BK769.out 1))
         go_ret
         exact ⟨by first | rfl | (simp [errW_none, errW_some] <;> rfl) | (simp [*, errW_none, errW_some] <;> rfl), by exact Lz1 HB GE769⟩
        rw [if_neg c21] at H
        have c21b0 : (x5_2 == t783) = false := beq_eq_false_iff_ne.mpr c21
        have c21b1 : (x5_2 != t783) = true := bne_iff_ne.mpr c21
        exact absurd (Option.some.inj H) (by rw [HR_.out]; decide)
       rw [if_neg c19] at H
       have c19b0 : (x5_2 == t782) = false := beq_eq_false_iff_ne.mpr c19
       have c19b1 : (x5_2 != t782) = true := bne_iff_ne.mpr c19
       exact absurd (Option.some.inj H) (by rw [HR_.out]; decide)
      replace c17 := Bool.eq_false_iff.mpr c17
      subst c17
      have H1 : (some false) = some r := by rw [if_neg (show ¬ (false = true) by decide)] at H; exact H
      clear H
      have H := H1
      clear H1
      exact absurd (Option.some.inj H) (by rw [HR_.out]; decide)
     case rest =>
      clear HC12
      try clear c3
      try clear c3b0
      try clear c3b1
      try clear c13
      try clear c13b0
      try clear c17
      try clear c19
      try clear c19b0
      try clear c19b1
      try clear c21
      try clear c21b0
      try clear c21b1
      try clear c22
      try clear c22b0
      try clear c22b1
      try clear c24
      try clear c24b0
      try clear c25
      try clear c25b0
      try clear c26
      try clear c26b0
      try clear c26b1
      try clear p784
      try clear q784
      obtain ⟨kq, HA, HJ11, HO_4, HO_16, HO_770001, BK769, HB⟩ := hcut
      cases kq with
      | zero => exact absurd HA.out (by simp [laws_FnFactors.j2])
      | succ kj11 =>
       have H := HA.out
       clear HA
       simp only [laws_FnFactors.j2] at H
       by_cases c89 : 0 ≤ x18_2
       ·rw [if_pos c89] at H
        have c89b0 : decide (0 ≤ x18_2) = true := decide_eq_true c89
        clear c89
        by_cases c90 : x18_2 < (t770.length : Int)
        ·rw [if_pos c90] at H
         have c90b0 : decide (x18_2 < (t770.length : Int)) = true := decide_eq_true c90
         clear c90
         have HC91 := Aside0.mk H
         clear H
         have p773 : 0 ≤ (x18_2 : Int) := ofA
         have q773 : x18_2 < (t770.length : Int) := ofA
         obtain ⟨ad773, e773, hx773_0⟩ := Kd.at_int (Kd.R_reads' HO_16.out).2.2 x18_2 p773 q773
         cases e773
         replace p773 := eq_true p773
         replace q773 := eq_true q773
         go_upto_region 9 with (fail)
         go_cut [38] (fun v38 wc => ∃ (kq : Nat) (x38_90 : Bool), v38 = .bool x38_90 ∧ Aside0 (laws_FnFactors.j3 kq t770 x5_2 (rd t770 x18_2) t770 (t770.length : Int) x18_2 x38_90 t765 t766 = some r) ∧ Aside0 (kq ≤ kj11) ∧ Aside0 (Kd.R (Kd.int .i64) 3 wc w.heap.size (fun _ => True) (.slice (some ad773) t770.length co11) t770) ∧ Aside0 (Kd.R (Kd.int .i64) 3 wc w.heap.size (fun _ => True) (.slice (some ad773) t770.length co11) t770) ∧ Aside0 (Kd.R k57 57 wc w.heap.size (fun _ => True) (.slice Ao9 t766.length co9) t766) ∧ Aside0 (wc.heap[gb769]? = some (.cells #[.int .i64 t765, (.slice Ao9 t766.length co9)] 30 (0, 0))) ∧ Aside0 (Below w.heap.size w wc))
         case first =>
          have H := HC91.out
          clear HC91
          by_cases c92 : (rd t770 x18_2) < 2
          ·rw [if_pos c92] at H
           have c92b0 : decide ((rd t770 x18_2) < 2) = true := decide_eq_true c92
           clear c92
           (first | rw [c92b0] | (simp only [i64_w, i32_w]; rw [c92b0]) | skip)
           have H' := Aside0.mk H
           clear H
           go_wp2
           go_meet
           case rel => exact ⟨_, (true), eqA, H', ⟨by have := HJ1.out; have := HK2.out; have := HJ11.out; first | omega | exact Nat.le_refl _⟩, ⟨by exact Rz HO_4⟩, ⟨by exact Rz HO_16⟩, ⟨by exact Rz HO_770001⟩, ⟨by exact Bz BK769⟩, ⟨by exact Lz1 HB GE769⟩⟩
          rw [if_neg c92] at H
          have c92b0 : decide ((rd t770 x18_2) < 2) = false := decide_eq_false c92
          clear c92
          (first | rw [c92b0] | (simp only [i64_w, i32_w]; rw [c92b0]) | skip)
          by_cases c93 : x18_2 > 0
          ·rw [if_pos c93] at H
           have c93b0 : decide (0 < x18_2) = true := decide_eq_true c93
           clear c93
           obtain ⟨ji94, hji94⟩ : ∃ j_ : Int, (wrap64 (x18_2 - 1)) = j_ := ⟨_, rfl⟩
           replace H : (if 0 ≤ (ji94) then (if (ji94) < (t770.length : Int) then (if (rd t770 (ji94)) = 0 then (none) else (laws_FnFactors.j3 kj11 t770 x5_2 (rd t770 x18_2) t770 (t770.length : Int) x18_2 ((Int.tmod (rd t770 x18_2) (rd t770 (ji94))) != 0) t765 t766)) else (none)) else (none)) = some r := by first | (rw [hji94] at H; exact H) | (simp only [hji94] at H ⊢; exact H)
           have hji94w : (IntKind.i64.wrap (x18_2 - 1)) = ji94 := (i64_w _).trans hji94
           by_cases c95 : 0 ≤ (ji94)
           ·rw [if_pos c95] at H
            have c95b0 : decide (0 ≤ (ji94)) = true := decide_eq_true c95
            clear c95
            by_cases c96 : (ji94) < (t770.length : Int)
            ·rw [if_pos c96] at H
             have c96b0 : decide ((ji94) < (t770.length : Int)) = true := decide_eq_true c96
             clear c96
             by_cases c97 : (rd t770 (ji94)) = 0
             ·rw [if_pos c97] at H
              exact absurd H (by simp)
             rw [if_neg c97] at H
             have c97b0 : ((rd t770 (ji94)) == 0) = false := beq_eq_false_iff_ne.mpr c97
             have c97b1 : ((rd t770 (ji94)) != 0) = true := bne_iff_ne.mpr c97
             have H' := Aside0.mk H
             clear H
             have p774 : 0 ≤ ((ji94) : Int) := ofA
             have q774 : (ji94) < (t770.length : Int) := ofA
             obtain ⟨ad774, e774, hx774_0⟩ := Kd.at_int (Kd.R_reads' HO_4.out).2.2 (ji94) p774 q774
             obtain rfl : ad773 = ad774 := (by injection e774)
             replace p774 := eq_true p774
             replace q774 := eq_true q774
             go_wp2
             go_meet
             case rel => exact ⟨_, (((Int.tmod (rd t770 x18_2) (rd t770 (ji94))) != 0)), (by first | rfl | (simp; done) | (simp only [← hji94] <;> (first | rfl | simp)) | (simp [*]; done)), H', ⟨by have := HJ1.out; have := HK2.out; have := HJ11.out; first | omega | exact Nat.le_refl _⟩, ⟨by exact Rz HO_4⟩, ⟨by exact Rz HO_16⟩, ⟨by exact Rz HO_770001⟩, ⟨by exact Bz BK769⟩, ⟨by exact Lz1 HB GE769⟩⟩
            rw [if_neg c96] at H
            exact absurd H (by simp)
           rw [if_neg c95] at H
           exact absurd H (by simp)
          rw [if_neg c93] at H
          have c93b0 : decide (0 < x18_2) = false := decide_eq_false c93
          clear c93
          have H' := Aside0.mk H
          clear H
          go_wp2
          go_meet
          case rel => exact ⟨_, (false), eqA, H', ⟨by have := HJ1.out; have := HK2.out; have := HJ11.out; first | omega | exact Nat.le_refl _⟩, ⟨by exact Rz HO_4⟩, ⟨by exact Rz HO_16⟩, ⟨by exact Rz HO_770001⟩, ⟨by exact Bz BK769⟩, ⟨by exact Lz1 HB GE769⟩⟩
         case rest =>
          clear HC91
          try clear c3
          try clear c3b0
          try clear c3b1
          try clear c13
          try clear c13b0
          try clear c17
          try clear c19
          try clear c19b0
          try clear c19b1
          try clear c21
          try clear c21b0
          try clear c21b1
          try clear c22
          try clear c22b0
          try clear c22b1
          try clear c24
          try clear c24b0
          try clear c25
          try clear c25b0
          try clear c26
          try clear c26b0
          try clear c26b1
          try clear c89
          try clear c89b0
          try clear c90
          try clear c90b0
          try clear c92
          try clear c92b0
          try clear c93
          try clear c93b0
          try clear c95
          try clear c95b0
          try clear c96
          try clear c96b0
          try clear c97
          try clear c97b0
          try clear c97b1
          try clear p773
          try clear p774
          try clear p784
          try clear q773
          try clear q774
          try clear q784
          obtain ⟨kq, x38_90, rfl, HA, HJ90, HO_4, HO_16, HO_770001, BK769, HB⟩ := hcut
          cases kq with
          | zero => exact absurd HA.out (by simp [laws_FnFactors.j3])
          | succ kj90 =>
           have H := HA.out
           clear HA
           simp only [laws_FnFactors.j3] at H
           by_cases c98 : x38_90 = true
           ·subst c98
            have H1 : (some false) = some r := by rw [if_pos rfl] at H; exact H
            clear H
            have H := H1
            clear H1
            exact absurd (Option.some.inj H) (by rw [HR_.out]; decide)
           replace c98 := Bool.eq_false_iff.mpr c98
           subst c98
           have H1 : (laws_FnFactors.l0 kj90 t770 (wrap64 (x5_2 * (rd t770 x18_2))) t770 (t770.length : Int) (wrap64 (x18_2 + 1)) t765 t766) = some r := by rw [if_neg (show ¬ (false = true) by decide)] at H; exact H
           clear H
           have H := H1
           clear H1
           have H' := Aside0.mk H
           clear H
           go_wp2
           go_roundg kj90
           case measure => have := HJ1.out; have := HK2.out; have := HJ11.out; have := HJ90.out; omega
           case rel => exact ⟨(wrap64 (x5_2 * (rd t770 x18_2))), (wrap64 (x18_2 + 1)), eqA, eqA, H', ⟨by have := HJ1.out; have := HK2.out; have := HJ11.out; have := HJ90.out; omega⟩, ⟨by exact Rz HO_4⟩, ⟨by exact Rz HO_16⟩, ⟨by exact Rz HO_770001⟩, ⟨by exact Bz BK769⟩, ⟨by exact Lz1 HB GE769⟩⟩
        rw [if_neg c90] at H
        exact absurd H (by simp)
       rw [if_neg c89] at H
       exact absurd H (by simp)
def laws_FnFactors.Pure : Prop := ∀ (l0 : List Int), l0.length ≤ maxLen → l0.length * 1 ≤ 140737488351232 → (∀ x ∈ l0, (Lit.int .u8 x).wf = true) → ∃ k, laws_FnFactors.f k l0 = some true
end Go.Proofs.Ytplcclifmajcfaa.P
end
section
namespace Go.Proofs.Ytplcclifmajcfaa.Pure
open Go.RowKit Go.Proofs.Ytplcclifmajcfaa.P Go.Proofs.YtplcclifmajcfaaW.PrintWords Go.Proofs.YtplcclifmajcfaaW.PrintLast Go.Proofs.YtplcclifmajcfaaW.PrintMore
def StatFnFactors : Prop := ∀ (l0 : List (Int)), (l0.length ≤ maxLen ∧ ∀ x2 ∈ l0, (Lit.int .u8 x2).wf = true) → ∃ k, laws_FnFactors.f k l0 = some true
end Go.Proofs.Ytplcclifmajcfaa.Pure
end
section
set_option linter.unusedVariables false
set_option linter.unusedSimpArgs false
namespace Go.Proofs.Ytplcclifmajcfaa.Pure
open Go.RowKit Go.Proofs.Ytplcclifmajcfaa.P Go.Proofs.YtplcclifmajcfaaW.PrintWords Go.Proofs.YtplcclifmajcfaaW.PrintLast Go.Proofs.YtplcclifmajcfaaW.PrintMore Go.Proofs.Ytplcclifmajcfaa.Base Go.Proofs.Ytplcclifmajcfaa.Loops
theorem rd_IE {l : List S57} {i : Nat} {a : S57} {r : List S57} (h : l.drop i = a :: r) : rd_T57 l (i : Int) = a := by
  unfold rd_T57
  rw [Int.toNat_natCast]
  exact get_drop h _
def multN (es : List S57) (a b : Int) : Nat := es.countP fun e => decide (e.f0 = mn a b) && decide (e.f1 = mx a b)
def multI (n : Int) (es : List S57) (a b : Int) : Int := if 0 ≤ a ∧ a < n ∧ 0 ≤ b ∧ b < n ∧ a ≠ b then (multN es a b : Int) else 0
theorem mult_loop (es : List S57) (hl : es.length < 4611686018427387904) (a b : Int) (g : Nat → Int → Int → Option Int)
    (hg : ∀ k c i, g (k + 1) c i = if i < (es.length : Int) then (if 0 ≤ i then (if i < (es.length : Int) then (if ((rd_T57 es i).f0) = (mn a b) then (if ((rd_T57 es i).f1) = (mx a b) then (g k (wrap64 (c + 1)) (wrap64 (i + 1))) else (g k c (wrap64 (i + 1)))) else (g k c (wrap64 (i + 1)))) else (none)) else (none)) else (some c)) :
    Ev (fun k => g k 0 0) (multN es a b : Int) := by
  have h := ev_list es (fun k (c : Int) i => g k c i) (fun c r => c + (r.countP fun e => decide (e.f0 = mn a b) && decide (e.f1 = mx a b) : Nat)) (fun c r => 0 ≤ c ∧ c + r.length ≤ es.length) (fun s _ => ev1 fun k => ?_) (fun s e rest i hlt hd hinv => Or.inr ?_) es 0 0 (by omega) rfl (by simp)
  · simpa [multN] using h
  · rw [hg, if_neg (by omega)]; simp
  · simp only [List.length_cons] at hinv
    by_cases hc : e.f0 = mn a b ∧ e.f1 = mx a b
    · refine ⟨s + 1, by omega, ?_, 0, fun k _ => ?_⟩
      · rw [List.countP_cons_of_pos (by simp [hc])]; omega
      · rw [hg, if_pos (by omega), if_pos (by omega), if_pos (by omega), rd_IE hd, if_pos hc.1, if_pos hc.2, wrap_succ (by omega), wrap_id (by omega) (by omega)]
    · refine ⟨s, by omega, ?_, 0, fun k _ => ?_⟩
      · rw [List.countP_cons_of_neg (by simp; intro h1 h2; exact hc ⟨h1, h2⟩)]
      · rw [hg, if_pos (by omega), if_pos (by omega), if_pos (by omega), rd_IE hd, wrap_succ (by omega)]
        by_cases h1 : e.f0 = mn a b
        · rw [if_pos h1, if_neg (fun h2 => hc ⟨h1, h2⟩)]
        · rw [if_neg h1]
theorem spec_mult_ev (n : Int) (es : List S57) (hl : es.length < 4611686018427387904) (a b : Int) : Ev (fun k => spec_Multiplicity.f k n es a b) (multI n es a b) := by
  have hv : ∀ v, spec_l02Vert.f n es v = some (decide (0 ≤ v ∧ v < n)) := by
    intro v
    unfold spec_l02Vert.f
    by_cases h : v ≥ 0
    · rw [if_pos h]; simp; omega
    · rw [if_neg h]; simp; omega
  simp only [spec_Multiplicity.f, hv, Option.bind_some]
  have off : ∀ q : Bool, q = true → Ev (fun k => spec_Multiplicity.j0 k a b 0 q n es) 0 := fun q hq => ev1 fun k => by
    simp only [spec_Multiplicity.j0, hq, if_true]
  by_cases ha : 0 ≤ a ∧ a < n
  · by_cases hb : 0 ≤ b ∧ b < n
    · simp only [ha, hb, and_self, decide_true, if_true]
      by_cases hab : a = b
      · rw [multI, if_neg (by omega)]
        exact off _ (by simp [hab])
      · rw [multI, if_pos ⟨ha.1, ha.2, hb.1, hb.2, hab⟩]
        obtain ⟨K, hK⟩ := mult_loop es hl a b (fun k c i => spec_Multiplicity.l0 k a b c es (es.length : Int) i) (fun k c i => by simp only [spec_Multiplicity.l0])
        refine ⟨K + 1, fun k hk => ?_⟩
        obtain ⟨m, rfl⟩ : ∃ m, k = m + 1 := ⟨k - 1, by omega⟩
        have h2 := hK m (by omega)
        dsimp only at h2 ⊢
        simp only [spec_Multiplicity.j0]
        rw [if_neg (by simp [hab]), h2]
    · simp only [ha, and_self, decide_true, if_true, decide_eq_true_eq, if_neg hb]
      rw [multI, if_neg (by omega)]
      exact off _ rfl
  · simp only [decide_eq_true_eq, if_neg ha]
    rw [multI, if_neg (by omega)]
    exact off _ rfl
theorem impl_mult_ev (n : Int) (es : List S57) (hl : es.length < 4611686018427387904) (a b : Int) : Ev (fun k => impl_Multiplicity.f k n es a b) (multI n es a b) := by
  simp only [impl_Multiplicity.f]
  have off : ∀ q : Bool, q = true → Ev (fun k => impl_Multiplicity.j0 k a b q n es) 0 := fun q hq => ev1 fun k => by
    simp only [impl_Multiplicity.j0, hq, if_true]
  have e1 : mn a b < 0 ↔ (a < 0 ∨ b < 0) := by unfold mn; split <;> omega
  have e2 : mx a b ≥ n ↔ (a ≥ n ∨ b ≥ n) := by unfold mx; split <;> omega
  by_cases h1 : mn a b < 0
  · simp only [if_pos h1]
    rw [multI, if_neg (by omega)]
    exact off _ rfl
  · by_cases h2 : mx a b ≥ n
    · simp only [if_neg h1, if_pos h2]
      rw [multI, if_neg (by omega)]
      exact off _ rfl
    · simp only [if_neg h1, if_neg h2]
      by_cases hab : a = b
      · rw [multI, if_neg (by omega)]
        exact off _ (by simp [hab])
      · rw [multI, if_pos (by omega)]
        obtain ⟨K, hK⟩ := mult_loop es hl a b (fun k c i => impl_Multiplicity.l0 k a b c es (es.length : Int) i) (fun k c i => by simp only [impl_Multiplicity.l0])
        refine ⟨K + 1, fun k hk => ?_⟩
        obtain ⟨m, rfl⟩ : ∃ m, k = m + 1 := ⟨k - 1, by omega⟩
        have h2 := hK m (by omega)
        dsimp only at h2 ⊢
        simp only [impl_Multiplicity.j0]
        rw [if_neg (by simp [hab]), h2]
def edgesB (n : Int) (es : List S57) : Bool := decide (1 ≤ n) && decide (n ≤ 6) && decide (es.length ≤ 12) && es.all fun e => decide (0 ≤ e.f0) && decide (e.f0 < e.f1) && decide (e.f1 < n)
theorem impl_edgesOk_ev (n : Int) (es : List S57) (hl : es.length < 4611686018427387904) : Ev (fun k => impl_EdgesOk.f k n es) (edgesB n es) := by
  have hw : impl_within.f n 1 6 = some (decide (1 ≤ n) && decide (n ≤ 6)) := by
    unfold impl_within.f
    by_cases h : n ≥ 1
    · rw [if_pos h]; simp [h]
    · rw [if_neg h]; simp [h]
  simp only [impl_EdgesOk.f, hw, Option.bind_some]
  by_cases hn : 1 ≤ n ∧ n ≤ 6
  · by_cases h12 : es.length ≤ 12
    · have loop : Ev (fun k => impl_EdgesOk.l0 k es (es.length : Int) 0 n es) (es.all fun e => decide (0 ≤ e.f0) && decide (e.f0 < e.f1) && decide (e.f1 < n)) := by
        refine ev_listE es (fun k (_ : Unit) i => impl_EdgesOk.l0 k es (es.length : Int) i n es) (fun _ r => r.all fun e => decide (0 ≤ e.f0) && decide (e.f0 < e.f1) && decide (e.f1 < n)) (fun _ _ => True)
          (fun s _ => ev1 fun k => ?_) (fun s a rest i hlt hd _ => ?_) () trivial
        · simp only [impl_EdgesOk.l0]
          rw [if_neg (by omega)]; rfl
        · have bad : a.f0 < 0 ∨ a.f0 ≥ a.f1 ∨ a.f1 ≥ n → ((a :: rest).all fun e => decide (0 ≤ e.f0) && decide (e.f0 < e.f1) && decide (e.f1 < n)) = false := by
            intro h; simp only [List.all_cons, Bool.and_eq_false_iff, decide_eq_false_iff_not]; omega
          have stop : Ev (fun k => impl_EdgesOk.j2 k es (es.length : Int) (i : Int) true n es) false := ev1 fun k => by simp only [impl_EdgesOk.j2, if_true]
          by_cases h1 : a.f0 < 0
          · refine Or.inl (ev_succ ?_)
            simp only [impl_EdgesOk.l0, rd_IE hd]
            rw [bad (by omega)]
            exact ev_ift (by omega) (ev_ift (by omega) (ev_ift (by omega) (ev_ift h1 stop)))
          by_cases h2 : a.f0 ≥ a.f1
          · refine Or.inl (ev_succ ?_)
            simp only [impl_EdgesOk.l0, rd_IE hd]
            rw [bad (by omega)]
            exact ev_ift (by omega) (ev_ift (by omega) (ev_ift (by omega) (ev_ifn h1 (ev_ift h2 stop))))
          by_cases h3 : a.f1 ≥ n
          · refine Or.inl (ev_succ ?_)
            simp only [impl_EdgesOk.l0, rd_IE hd]
            rw [bad (by omega), decide_eq_true h3]
            exact ev_ift (by omega) (ev_ift (by omega) (ev_ift (by omega) (ev_ifn h1 (ev_ifn h2 stop))))
          refine Or.inr ⟨(), trivial, ?_, fun r hr => ev_succ ?_⟩
          · simp; omega
          · simp only [impl_EdgesOk.l0, rd_IE hd, decide_eq_false h3]
            refine ev_ift (by omega) (ev_ift (by omega) (ev_ift (by omega) (ev_ifn h1 (ev_ifn h2 (ev_succ ?_)))))
            simp only [impl_EdgesOk.j2, Bool.false_eq_true, if_false, wrap_succ (show i < 4611686018427387904 by omega)]
            exact hr
      obtain ⟨K, hK⟩ := loop
      dsimp only at hK
      refine ⟨K + 1, fun k hk => ?_⟩
      obtain ⟨m, rfl⟩ : ∃ m, k = m + 1 := ⟨k - 1, by omega⟩
      have := hK m (by omega)
      simp only [hn.1, hn.2, decide_true, Bool.and_self, if_true, impl_EdgesOk.j0]
      rw [if_neg (by simp; omega), this]
      simp [edgesB, hn, h12]
    · refine ev1 fun k => ?_
      simp only [hn.1, hn.2, decide_true, Bool.and_self, if_true, impl_EdgesOk.j0]
      rw [if_pos (by simp; omega)]
      simp [edgesB, h12]
  · refine ev1 fun k => ?_
    rw [if_neg (by simp; omega)]
    simp only [impl_EdgesOk.j0, if_true]
    simp [edgesB]
    intro a b
    exact absurd ⟨a, b⟩ hn
theorem spec_edgesOk_ev (n : Int) (es : List S57) (hl : es.length < 4611686018427387904) : Ev (fun k => spec_EdgesOk.f k n es) (edgesB n es) := by
  have hw : ∀ a b c : Int, spec_l01In.f a b c = some (decide (b ≤ a) && decide (a ≤ c)) := by
    intro a b c
    unfold spec_l01In.f
    by_cases h : a ≥ b
    · rw [if_pos h]; simp [h]
    · rw [if_neg h]; simp [h]
  simp only [spec_EdgesOk.f, hw, Option.bind_some]
  by_cases hn : 1 ≤ n ∧ n ≤ 6
  · have hn1 : wrap64 (n - 1) = n - 1 := by unfold wrap64; omega
    by_cases h12 : es.length ≤ 12
    · have loop : Ev (fun k => spec_EdgesOk.l0 k es (es.length : Int) 0 n es) (es.all fun e => decide (0 ≤ e.f0) && decide (e.f0 < e.f1) && decide (e.f1 < n)) := by
        refine ev_list0 es (fun k (_ : Unit) i => spec_EdgesOk.l0 k es (es.length : Int) i n es) (fun _ r => r.all fun e => decide (0 ≤ e.f0) && decide (e.f0 < e.f1) && decide (e.f1 < n)) (fun _ _ => True)
          (fun s _ => ev1 fun k => ?_) (fun s a rest i hlt hd _ => ?_) () trivial
        · simp only [spec_EdgesOk.l0]
          rw [if_neg (by omega)]; rfl
        · by_cases h1 : 0 ≤ a.f0 ∧ a.f0 ≤ n - 1
          · have e1 : wrap64 (a.f0 + 1) = a.f0 + 1 := by unfold wrap64; omega
            by_cases h2 : a.f0 + 1 ≤ a.f1 ∧ a.f1 ≤ n - 1
            · refine Or.inr ⟨(), trivial, ?_, 0, fun k _ => ?_⟩
              · simp; omega
              · simp only [spec_EdgesOk.l0, rd_IE hd, hw, hn1, e1, Option.bind_some]
                rw [if_pos (by omega), if_pos (by omega), if_pos (by omega), if_pos (by simp; omega), if_pos (by simp; omega), wrap_succ (by omega)]
            · refine Or.inl (ev1 fun k => ?_)
              simp only [spec_EdgesOk.l0, rd_IE hd, hw, hn1, e1, Option.bind_some]
              rw [if_pos (by omega), if_pos (by omega), if_pos (by omega), if_pos (by simp; omega), if_neg (by simp; omega)]
              simp; omega
          · refine Or.inl (ev1 fun k => ?_)
            simp only [spec_EdgesOk.l0, rd_IE hd, hw, hn1, Option.bind_some]
            rw [if_pos (by omega), if_pos (by omega), if_pos (by omega), if_neg (by simp; omega)]
            simp; omega
      obtain ⟨K, hK⟩ := loop
      dsimp only at hK
      refine ⟨K + 1, fun k hk => ?_⟩
      obtain ⟨m, rfl⟩ : ∃ m, k = m + 1 := ⟨k - 1, by omega⟩
      have := hK m (by omega)
      simp only [hn.1, hn.2, decide_true, Bool.and_self, if_true, spec_EdgesOk.j0]
      rw [if_neg (by simp; omega), this]
      simp [edgesB, hn, h12]
    · refine ev1 fun k => ?_
      simp only [hn.1, hn.2, decide_true, Bool.and_self, if_true, spec_EdgesOk.j0]
      rw [if_pos (by simp; omega)]
      simp [edgesB, h12]
  · refine ev1 fun k => ?_
    rw [if_neg (by simp; omega)]
    simp only [spec_EdgesOk.j0, if_true]
    simp [edgesB]
    intro a b
    exact absurd ⟨a, b⟩ hn
end Go.Proofs.Ytplcclifmajcfaa.Pure
end
section
set_option linter.unusedVariables false
set_option linter.unusedSimpArgs false
namespace Go.Proofs.Ytplcclifmajcfaa.Pure
open Go.RowKit Go.Proofs.Ytplcclifmajcfaa.P Go.Proofs.YtplcclifmajcfaaW.PrintWords Go.Proofs.YtplcclifmajcfaaW.PrintLast Go.Proofs.YtplcclifmajcfaaW.PrintMore Go.Proofs.Ytplcclifmajcfaa.Base Go.Proofs.Ytplcclifmajcfaa.Bits Go.Proofs.Ytplcclifmajcfaa.Loops
def SortedE (es : List S57) : Prop := ∀ i, i + 1 < es.length → ¬ ((es.getD (i + 1) z57).f0 < (es.getD i z57).f0 ∨ ((es.getD (i + 1) z57).f0 = (es.getD i z57).f0 ∧ (es.getD (i + 1) z57).f1 < (es.getD i z57).f1))
def ConnE (n : Int) (es : List S57) : Prop := ∀ P : Int → Prop, P 0 → (∀ e ∈ es, P e.f0 ↔ P e.f1) → ∀ v, 0 ≤ v → v < n → P v
def GraphP (n : Int) (es : List S57) : Prop := edgesB n es = true ∧ SortedE es ∧ ConnE n es
theorem rdE_nat (es : List S57) (i : Nat) : rd_T57 es (i : Int) = es.getD i z57 := by unfold rd_T57; rw [Int.toNat_natCast]
theorem edgesB_facts {n : Int} {es : List S57} (h : edgesB n es = true) : 1 ≤ n ∧ n ≤ 6 ∧ es.length ≤ 12 ∧ ∀ e ∈ es, 0 ≤ e.f0 ∧ e.f0 < e.f1 ∧ e.f1 < n := by
  simp only [edgesB, Bool.and_eq_true, decide_eq_true_eq, List.all_eq_true] at h
  exact ⟨h.1.1.1, h.1.1.2, h.1.2, fun e he => ⟨(h.2 e he).1.1, (h.2 e he).1.2, (h.2 e he).2⟩⟩
theorem compare_eq (a0 a1 b0 b1 : Int) : ∃ c, impl_compareEdges.f a0 a1 b0 b1 = some c ∧ (c < 0 ↔ a0 < b0 ∨ (a0 = b0 ∧ a1 < b1)) := by
  have hc : ∀ x y : Int, cmp_Compare_int.f x y = some (if x < y then -1 else if x > y then 1 else 0) := by
    intro x y
    unfold cmp_Compare_int.f cmp_isNaN_int.f
    simp only [Option.bind_some, bne_self_eq_false, Bool.false_eq_true, if_false]
    by_cases h1 : x < y
    · rw [if_pos h1, if_pos h1]
    · rw [if_neg h1, if_neg h1]
      by_cases h2 : x > y
      · rw [if_pos h2, if_pos h2]
      · rw [if_neg h2, if_neg h2]
  unfold impl_compareEdges.f
  simp only [hc, Option.bind_some]
  by_cases h1 : a0 < b0
  · rw [if_pos h1, if_neg (by decide)]
    exact ⟨_, rfl, by omega⟩
  · by_cases h2 : a0 > b0
    · rw [if_neg h1, if_pos h2, if_neg (by decide)]
      exact ⟨_, rfl, by omega⟩
    · rw [if_neg h1, if_neg h2, if_pos rfl]
      refine ⟨_, rfl, ?_⟩
      by_cases h3 : a1 < b1
      · rw [if_pos h3]; omega
      · rw [if_neg h3]
        split <;> omega
theorem impl_sorted_ev (es : List S57) (hl : es.length < 4611686018427387904) : ∃ b : Bool, Ev (fun k => slices_IsSortedFunc_Edge.f k es) b ∧ (b = true ↔ SortedE es) := by
  have main : ∀ i : Nat, i < es.length → ∃ b : Bool, Ev (fun k => slices_IsSortedFunc_Edge.l0 k es (i : Int)) b ∧ (b = true ↔ ∀ j, j < i → ¬ ((es.getD (j + 1) z57).f0 < (es.getD j z57).f0 ∨ ((es.getD (j + 1) z57).f0 = (es.getD j z57).f0 ∧ (es.getD (j + 1) z57).f1 < (es.getD j z57).f1))) := by
    intro i
    induction i with
    | zero =>
      intro _
      refine ⟨true, ev1 fun k => ?_, by simp⟩
      simp only [slices_IsSortedFunc_Edge.l0]
      rw [if_neg (by omega)]
    | succ i ih =>
      intro hi
      obtain ⟨b, ⟨K, hb⟩, hiff⟩ := ih (by omega)
      have ew : wrap64 (((i + 1 : Nat) : Int) - 1) = (i : Int) := by unfold wrap64; omega
      obtain ⟨c, hc, hneg⟩ := compare_eq (es.getD (i + 1) z57).f0 (es.getD (i + 1) z57).f1 (es.getD i z57).f0 (es.getD i z57).f1
      by_cases h : c < 0
      · refine ⟨false, ev1 fun k => ?_, ?_⟩
        · simp only [slices_IsSortedFunc_Edge.l0, ew, rdE_nat, hc, Option.bind_some]
          rw [if_pos (by omega), if_pos (by omega), if_pos (by omega), if_pos (by omega), if_pos (by omega), if_pos h]
        · simp only [Bool.false_eq_true, false_iff]
          intro hall
          exact hall i (by omega) (hneg.1 h)
      · refine ⟨b, ⟨K + 1, fun k hk => ?_⟩, ?_⟩
        · obtain ⟨m, rfl⟩ : ∃ m, k = m + 1 := ⟨k - 1, by omega⟩
          have h2 := hb m (by omega)
          dsimp only at h2 ⊢
          simp only [slices_IsSortedFunc_Edge.l0, ew, rdE_nat, hc, Option.bind_some]
          rw [if_pos (by omega), if_pos (by omega), if_pos (by omega), if_pos (by omega), if_pos (by omega), if_neg h, h2]
        · rw [hiff]
          constructor
          · intro hall j hj
            by_cases e : j = i
            · subst e; exact fun hh => h (hneg.2 hh)
            · exact hall j (by omega)
          · exact fun hall j hj => hall j (by omega)
  simp only [slices_IsSortedFunc_Edge.f]
  by_cases h0 : es.length = 0
  · refine ⟨true, ev1 fun k => ?_, ?_⟩
    · simp only [slices_IsSortedFunc_Edge.l0]
      rw [if_neg (by unfold wrap64; omega)]
    · simp only [true_iff]
      intro i hi
      omega
  · obtain ⟨b, hb, hiff⟩ := main (es.length - 1) (by omega)
    have ew : wrap64 ((es.length : Int) - 1) = ((es.length - 1 : Nat) : Int) := by unfold wrap64; omega
    rw [ew]
    refine ⟨b, hb, ?_⟩
    rw [hiff]
    exact ⟨fun h i hi => h i (by omega), fun h i hi => h i (by omega)⟩
def toN (e : S57) : Nat × Nat := (e.f0.toNat, e.f1.toNat)
theorem conn_l1 (n : Nat) (es : List S57) (hn : n ≤ 6) (he : ∀ e ∈ es, 0 ≤ e.f0 ∧ e.f0 < e.f1 ∧ e.f1 < n) (x8 x9 : Int) (r : Bool) (hl : es.length < 4611686018427387904) :
    ∀ (rest : List S57) (i : Nat) (M : Nat), i ≤ es.length → es.drop i = rest → M < 2 ^ n → Ev (fun k => impl_connected.l0 k n es ((rnd (rest.map toN) M : Nat) : Int) x8 (wrap64 (x9 + 1))) r →
      Ev (fun k => impl_connected.l1 k n es (M : Int) x8 x9 es (es.length : Int) (i : Int)) r := by
  intro rest
  induction rest with
  | nil =>
    intro i M hi hd hM h
    have := drop_nil hd
    obtain ⟨K, hK⟩ := h
    refine ⟨K + 1, fun k hk => ?_⟩
    obtain ⟨m, rfl⟩ : ∃ m, k = m + 1 := ⟨k - 1, by omega⟩
    simp only [impl_connected.l1]
    rw [if_neg (by omega)]
    exact hK m (by omega)
  | cons e rest ih =>
    intro i M hi hd hM h
    have hlt := drop_lt hd
    have hmem : e ∈ es := by
      have : e ∈ es.drop i := by rw [hd]; simp
      exact List.mem_of_mem_drop this
    obtain ⟨h0, h1, h2⟩ := he e hmem
    obtain ⟨a, ha⟩ : ∃ a : Nat, e.f0 = a := ⟨e.f0.toNat, by omega⟩
    obtain ⟨b, hb⟩ : ∃ b : Nat, e.f1 = b := ⟨e.f1.toNat, by omega⟩
    have hte : toN e = (a, b) := by simp [toN, ha, hb]
    have hM62 : M < 2 ^ 62 := Nat.lt_of_lt_of_le hM (Nat.pow_le_pow_right (by decide) (by omega))
    have hlt' := upd_lt M (a, b) n hM (by show a < n; omega) (by show b < n; omega)
    rw [List.map_cons, hte] at h
    obtain ⟨K, hK⟩ := ih (i + 1) (upd M (a, b)) (by omega) (drop_next hd) hlt' h
    refine ⟨K + 1, fun k hk => ?_⟩
    obtain ⟨m, rfl⟩ : ∃ m, k = m + 1 := ⟨k - 1, by omega⟩
    have h3 := hK m (by omega)
    dsimp only at h3 ⊢
    simp only [impl_connected.l1, rd_IE hd, ha, hb, bit_of M a hM62 (by omega), bit_of M b hM62 (by omega), or_two M a b hM62 (by omega) (by omega)]
    rw [if_pos (by omega), if_pos (by omega), if_pos (by omega), if_pos (by omega), wrap_succ (by omega)]
    unfold upd at h3
    by_cases ta : M.testBit a = true
    · rw [if_pos (by simp [ta]), if_pos (by omega)]
      rw [if_pos (by simp [ta])] at h3
      exact h3
    · by_cases tb : M.testBit b = true
      · rw [if_neg (by simp [ta]), if_pos (by omega), if_pos (by simp [tb])]
        rw [if_pos (by simp [tb])] at h3
        exact h3
      · rw [if_neg (by simp [ta]), if_pos (by omega), if_neg (by simp [tb])]
        rw [if_neg (by simp [ta, tb])] at h3
        exact h3
theorem toN_lt {n : Nat} {es : List S57} (he : ∀ e ∈ es, 0 ≤ e.f0 ∧ e.f0 < e.f1 ∧ e.f1 < n) : ∀ x ∈ es.map toN, x.1 < n ∧ x.2 < n := by
  intro x hx
  obtain ⟨e, hm, rfl⟩ := List.mem_map.1 hx
  have := he e hm
  simp only [toN]
  omega
theorem impl_connected_ev (n : Nat) (es : List S57) (hn0 : 0 < n) (hn : n ≤ 6) (he : ∀ e ∈ es, 0 ≤ e.f0 ∧ e.f0 < e.f1 ∧ e.f1 < n) (hl : es.length < 4611686018427387904) :
    Ev (fun k => impl_connected.f k n es) (decide (iter (es.map toN) n 1 = 2 ^ n - 1)) := by
  have main : ∀ (d : Nat) (x9 M : Nat), x9 + d = n → M < 2 ^ n → Ev (fun k => impl_connected.l0 k n es (M : Int) n (x9 : Int)) (decide (iter (es.map toN) d M = 2 ^ n - 1)) := by
    intro d
    induction d with
    | zero =>
      intro x9 M hx hM
      refine ev1 fun k => ?_
      simp only [impl_connected.l0, iter]
      rw [if_neg (by omega), if_pos (by omega), shl_nat n (by omega)]
      have : wrap64 (((2 ^ n : Nat) : Int) - 1) = ((2 ^ n - 1 : Nat) : Int) := by
        have h1 : 2 ^ n ≤ 2 ^ 6 := Nat.pow_le_pow_right (by decide) hn
        have h2 : 0 < 2 ^ n := Nat.pow_pos (by decide)
        unfold wrap64
        omega
      rw [this]
      have e : ((M : Int) == ((2 ^ n - 1 : Nat) : Int)) = decide (M = 2 ^ n - 1) := by
        generalize 2 ^ n - 1 = q
        rw [Bool.eq_iff_iff, beq_iff_eq, decide_eq_true_eq]
        omega
      rw [e]
      rfl
    | succ d ih =>
      intro x9 M hx hM
      have h1 := ih (x9 + 1) (rnd (es.map toN) M) (by omega) (rnd_lt _ n M hM (toN_lt he))
      have h2 := conn_l1 n es hn he n x9 _ hl es 0 M (by omega) rfl hM (by rw [wrap_succ (by omega)]; exact h1)
      obtain ⟨K, hK⟩ := h2
      refine ⟨K + 1, fun k hk => ?_⟩
      obtain ⟨m, rfl⟩ : ∃ m, k = m + 1 := ⟨k - 1, by omega⟩
      have h3 := hK m (by omega)
      dsimp only [iter] at h3 ⊢
      simp only [impl_connected.l0]
      rw [if_pos (by omega)]
      exact h3
  exact main n 0 1 (by omega) (Nat.one_lt_two_pow (by omega))
theorem full_iff (n : Nat) (es : List S57) (hn0 : 0 < n) (he : ∀ e ∈ es, 0 ≤ e.f0 ∧ e.f0 < e.f1 ∧ e.f1 < n) : iter (es.map toN) n 1 = 2 ^ n - 1 ↔ ConnE n es := by
  rw [iter_full (es.map toN) n hn0 (toN_lt he)]
  constructor
  · intro h P h0 hP v hv0 hv
    obtain ⟨u, rfl⟩ : ∃ u : Nat, v = u := ⟨v.toNat, by omega⟩
    refine h (fun u => P u) h0 (fun x hx => ?_) u (by omega)
    obtain ⟨e, hm, rfl⟩ := List.mem_map.1 hx
    have hb := he e hm
    simp only [toN]
    rw [show ((e.f0.toNat : Nat) : Int) = e.f0 by omega, show ((e.f1.toNat : Nat) : Int) = e.f1 by omega]
    exact hP e hm
  · intro h P h0 hP v hv
    have := h (fun u => P u.toNat) h0 (fun e hm => hP (toN e) (List.mem_map.2 ⟨e, hm, rfl⟩)) v (by omega) (by omega)
    simpa using this
theorem impl_graphOk_iff (n : Int) (es : List S57) (hl : es.length < 4611686018427387904) : ∃ b : Bool, Ev (fun k => impl_GraphOk.f k n es) b ∧ (b = true ↔ GraphP n es) := by
  have h1 := impl_edgesOk_ev n es hl
  simp only [impl_GraphOk.f]
  by_cases hb : edgesB n es = true
  · obtain ⟨f1, f2, f3, f4⟩ := edgesB_facts hb
    obtain ⟨m, rfl⟩ : ∃ m : Nat, n = m := ⟨n.toNat, by omega⟩
    obtain ⟨b, h2, hs⟩ := impl_sorted_ev es hl
    rw [hb] at h1
    cases b with
    | false =>
      refine ⟨false, Ev.bind h1 ?_, ?_⟩
      · simp only [if_true]
        refine Ev.bind h2 ?_
        simp only [Bool.false_eq_true, if_false]
        exact Ev.now _
      · simp only [Bool.false_eq_true, false_iff] at hs ⊢
        exact fun h => hs h.2.1
    | true =>
      refine ⟨decide (iter (es.map toN) m 1 = 2 ^ m - 1), Ev.bind h1 ?_, ?_⟩
      · simp only [if_true]
        refine Ev.bind h2 ?_
        simp only [if_true]
        refine Ev.bind (impl_connected_ev m es (by omega) (by omega) f4 hl) ?_
        exact Ev.now _
      · rw [decide_eq_true_eq, full_iff m es (by omega) f4]
        simp only [true_iff] at hs
        exact ⟨fun h => ⟨hb, hs, h⟩, fun h => h.2.2⟩
  · refine ⟨false, Ev.bind h1 ?_, ?_⟩
    · simp only [hb]
      exact Ev.now _
    · simp only [Bool.false_eq_true, false_iff]
      exact fun h => hb h.1
theorem has_ev (l : List Int) (v : Int) (hl : l.length < 4611686018427387904) : Ev (fun k => spec_l02Has.f k l v) (decide (v ∈ l)) := by
  simp only [spec_l02Has.f]
  refine ev_list0 l (fun k (_ : Unit) i => spec_l02Has.l0 k v l (l.length : Int) i) (fun _ r => decide (v ∈ r)) (fun _ _ => True) (fun s _ => ev1 fun k => ?_) (fun s a rest i hlt hd _ => ?_) () trivial
  · simp only [spec_l02Has.l0]
    rw [if_neg (by omega)]; simp
  · by_cases h : a = v
    · refine Or.inl (ev1 fun k => ?_)
      simp only [spec_l02Has.l0, rd_drop hd]
      rw [if_pos (by omega), if_pos (by omega), if_pos (by omega), if_pos h]
      simp [h]
    · refine Or.inr ⟨(), trivial, ?_, 0, fun k _ => ?_⟩
      · simp [Ne.symm h]
      · simp only [spec_l02Has.l0, rd_drop hd]
        rw [if_pos (by omega), if_pos (by omega), if_pos (by omega), if_neg h, wrap_succ (by omega)]
def RInv (n : Nat) (es : List S57) (q : List Int) : Prop :=
  q.Nodup ∧ (∀ v ∈ q, 0 ≤ v ∧ v < n) ∧ (0 : Int) ∈ q ∧ ∀ P : Int → Prop, P 0 → (∀ e ∈ es, P e.f0 ↔ P e.f1) → ∀ v ∈ q, P v
theorem rinv_len {n : Nat} {es : List S57} {q : List Int} (h : RInv n es q) : q.length ≤ n := by
  have := List.Nodup.length_le_of_subset h.1 (l₂ := (List.range n).map fun i : Nat => (i : Int)) (fun v hv => by
    have hb := h.2.1 v hv
    exact List.mem_map.2 ⟨v.toNat, by simp; omega, by omega⟩)
  simpa using this
theorem rinv_add {n : Nat} {es : List S57} {q : List Int} (h : RInv n es q) {u v : Int} {e : S57} (he : e ∈ es) (hb : 0 ≤ e.f0 ∧ e.f0 < e.f1 ∧ e.f1 < n) (hu : u ∈ q) (huv : (u = e.f0 ∧ v = e.f1) ∨ (u = e.f1 ∧ v = e.f0)) (hv : v ∉ q) : RInv n es (q ++ [v]) := by
  refine ⟨?_, fun x hx => ?_, by simp [h.2.2.1], fun P h0 hP x hx => ?_⟩
  · rw [List.nodup_append]
    refine ⟨h.1, by simp, fun a ha b hb' => ?_⟩
    simp at hb'
    subst hb'
    intro e'
    subst e'
    exact hv ha
  · rcases List.mem_append.1 hx with hx | hx
    · exact h.2.1 x hx
    · simp at hx
      omega
  · rcases List.mem_append.1 hx with hx | hx
    · exact h.2.2.2 P h0 hP x hx
    · simp at hx
      subst hx
      have := h.2.2.2 P h0 hP u hu
      rcases huv with ⟨h1, h2⟩ | ⟨h1, h2⟩
      · rw [h2]; exact (hP e he).1 (h1 ▸ this)
      · rw [h2]; exact (hP e he).2 (h1 ▸ this)
theorem get_mem_append {q : List Int} {i : Nat} (h : i < q.length) (v : Int) : rd (q ++ [v]) (i : Int) = rd q (i : Int) := by
  rw [rd_nat q i h, rd_nat (q ++ [v]) i (by simp; omega), List.getElem_append_left h]
theorem reach_step (n : Nat) (es : List S57) (q : List Int) (pos i : Nat) (e : S57) (rest : List S57) (hd : es.drop i = e :: rest) (hne : e.f0 ≠ e.f1) (hpos : pos < q.length) (hq : q.length ≤ 6) (hl : es.length < 4611686018427387904) (r : List Int)
    (h : Ev (fun k => spec_l02Reach.l1 k (if e.f0 = rd q pos ∧ e.f1 ∉ q then q ++ [e.f1] else if e.f1 = rd q pos ∧ e.f0 ∉ q then q ++ [e.f0] else q) (pos : Int) es (es.length : Int) ((i + 1 : Nat) : Int) n es) r) :
    Ev (fun k => spec_l02Reach.l1 k q (pos : Int) es (es.length : Int) (i : Int) n es) r := by
  have hlt := drop_lt hd
  have b1 := has_ev q e.f1 (by omega)
  have tail : ∀ q' : List Int, pos < q'.length → q'.length ≤ 7 →
      Ev (fun k => spec_l02Reach.l1 k (if e.f1 = rd q' pos ∧ e.f0 ∉ q' then q' ++ [e.f0] else q') (pos : Int) es (es.length : Int) ((i + 1 : Nat) : Int) n es) r →
      Ev (fun k => spec_l02Reach.j3 k q' (pos : Int) es (es.length : Int) (i : Int) n es e.f0 e.f1) r := by
    intro q' hp' hq' h'
    have b2 := has_ev q' e.f0 (by omega)
    refine ev_succ ?_
    simp only [spec_l02Reach.j3, wrap_succ (show i < 4611686018427387904 by omega)]
    refine ev_ift (by omega) (ev_ift (by omega) ?_)
    by_cases c1 : e.f1 = rd q' pos
    · refine ev_ift c1 (Ev.bind b2 ?_)
      by_cases m0 : e.f0 ∈ q'
      · rw [if_neg (fun hh => hh.2 m0)] at h'
        exact ev_ift (by simp [m0]) h'
      · rw [if_pos ⟨c1, m0⟩] at h'
        exact ev_ifn (by simp [m0]) (ev_ift (by omega) h')
    · rw [if_neg (fun hh => c1 hh.1)] at h'
      exact ev_ifn c1 h'
  refine ev_succ ?_
  simp only [spec_l02Reach.l1, rd_IE hd]
  refine ev_ift (by omega) (ev_ift (by omega) (ev_ift (by omega) (ev_ift (by omega) (ev_ift (by omega) ?_))))
  by_cases c0 : e.f0 = rd q pos
  · have c1 : ¬ e.f1 = rd q pos := fun hh => hne (c0.trans hh.symm)
    refine ev_ift c0 (Ev.bind b1 (ev_succ ?_))
    simp only [spec_l02Reach.j2]
    by_cases m1 : e.f1 ∈ q
    · rw [if_neg (fun hh => hh.2 m1), if_neg (fun hh => c1 hh.1)] at h
      refine ev_ifn (by simp [m1]) (tail q hpos (by omega) ?_)
      rw [if_neg (fun hh => c1 hh.1)]
      exact h
    · rw [if_pos ⟨c0, m1⟩] at h
      refine ev_ift (by simp [m1]) (ev_ift (by omega) (tail (q ++ [e.f1]) (by simp; omega) (by simp; omega) ?_))
      rw [get_mem_append hpos, if_neg (fun hh => c1 hh.1)]
      exact h
  · refine ev_ifn c0 (ev_succ ?_)
    simp only [spec_l02Reach.j2]
    rw [if_neg (fun hh => c0 hh.1)] at h
    exact ev_ifn (by simp) (tail q hpos (by omega) h)
def Done (es : List S57) (q : List Int) (pos : Nat) : Prop := ∀ j, j < pos → ∀ e ∈ es, (e.f0 = rd q j → e.f1 ∈ q) ∧ (e.f1 = rd q j → e.f0 ∈ q)
theorem done_add {es : List S57} {q : List Int} {pos : Nat} (h : Done es q pos) (hp : pos ≤ q.length) (v : Int) : Done es (q ++ [v]) pos := by
  intro j hj e he
  rw [get_mem_append (by omega)]
  have := h j hj e he
  exact ⟨fun hh => List.mem_append_left _ (this.1 hh), fun hh => List.mem_append_left _ (this.2 hh)⟩
theorem reach_inner (n : Nat) (hn : n ≤ 6) (es : List S57) (he : ∀ e ∈ es, 0 ≤ e.f0 ∧ e.f0 < e.f1 ∧ e.f1 < n) (hl : es.length < 4611686018427387904) (pos : Nat)
    (next : ∀ q, RInv n es q → Done es q (pos + 1) → pos < q.length → ∃ r, Ev (fun k => spec_l02Reach.l0 k q ((pos + 1 : Nat) : Int) n es) r ∧ RInv n es r ∧ Done es r r.length) :
    ∀ (rest : List S57) (i : Nat) (q : List Int), i ≤ es.length → es.drop i = rest → RInv n es q → Done es q pos → pos < q.length →
      (∀ e ∈ es.take i, (e.f0 = rd q pos → e.f1 ∈ q) ∧ (e.f1 = rd q pos → e.f0 ∈ q)) →
      ∃ r, Ev (fun k => spec_l02Reach.l1 k q (pos : Int) es (es.length : Int) (i : Int) n es) r ∧ RInv n es r ∧ Done es r r.length := by
  intro rest
  induction rest with
  | nil =>
    intro i q hi hd hinv hdone hpos hpart
    have hge := drop_nil hd
    have hlen := rinv_len hinv
    rw [List.take_of_length_le hge] at hpart
    obtain ⟨r, ⟨K, hK⟩, h1, h2⟩ := next q hinv (fun j hj => by
      by_cases e : j = pos
      · subst e; exact hpart
      · exact hdone j (by omega)) hpos
    refine ⟨r, ⟨K + 1, fun k hk => ?_⟩, h1, h2⟩
    obtain ⟨m, rfl⟩ : ∃ m, k = m + 1 := ⟨k - 1, by omega⟩
    have h3 := hK m (by omega)
    dsimp only at h3 ⊢
    simp only [spec_l02Reach.l1]
    rw [if_neg (by omega), wrap_succ (by omega), h3]
  | cons e rest ih =>
    intro i q hi hd hinv hdone hpos hpart
    have hlt := drop_lt hd
    have hmem : e ∈ es := by
      have : e ∈ es.drop i := by rw [hd]; simp
      exact List.mem_of_mem_drop this
    have hb := he e hmem
    have hlen := rinv_len hinv
    have hx : rd q pos ∈ q := by rw [rd_nat q pos hpos]; exact List.getElem_mem _
    have htake : es.take (i + 1) = es.take i ++ [e] := take_drop hd
    have step := reach_step n es q pos i e rest hd (by omega) hpos (by omega) hl
    by_cases c0 : e.f0 = rd q pos ∧ e.f1 ∉ q
    · obtain ⟨r, hr, h1, h2⟩ := ih (i + 1) (q ++ [e.f1]) (by omega) (drop_next hd) (rinv_add hinv hmem hb hx (Or.inl ⟨c0.1.symm, rfl⟩) c0.2) (done_add hdone (by omega) _) (by simp; omega) (fun x hx' => by
        rw [get_mem_append hpos]
        rw [htake] at hx'
        rcases List.mem_append.1 hx' with hx' | hx'
        · have := hpart x hx'
          exact ⟨fun hh => List.mem_append_left _ (this.1 hh), fun hh => List.mem_append_left _ (this.2 hh)⟩
        · simp at hx'
          subst hx'
          exact ⟨fun _ => by simp, fun hh => absurd (c0.1.trans hh.symm) (by omega)⟩)
      refine ⟨r, step r ?_, h1, h2⟩
      simp only [if_pos c0]
      exact hr
    · by_cases c1 : e.f1 = rd q pos ∧ e.f0 ∉ q
      · obtain ⟨r, hr, h1, h2⟩ := ih (i + 1) (q ++ [e.f0]) (by omega) (drop_next hd) (rinv_add hinv hmem hb hx (Or.inr ⟨c1.1.symm, rfl⟩) c1.2) (done_add hdone (by omega) _) (by simp; omega) (fun x hx' => by
          rw [get_mem_append hpos]
          rw [htake] at hx'
          rcases List.mem_append.1 hx' with hx' | hx'
          · have := hpart x hx'
            exact ⟨fun hh => List.mem_append_left _ (this.1 hh), fun hh => List.mem_append_left _ (this.2 hh)⟩
          · simp at hx'
            subst hx'
            exact ⟨fun hh => absurd (hh.trans c1.1.symm) (by omega), fun _ => by simp⟩)
        refine ⟨r, step r ?_, h1, h2⟩
        simp only [if_neg c0, if_pos c1]
        exact hr
      · obtain ⟨r, hr, h1, h2⟩ := ih (i + 1) q (by omega) (drop_next hd) hinv hdone hpos (fun x hx' => by
          rw [htake] at hx'
          rcases List.mem_append.1 hx' with hx' | hx'
          · exact hpart x hx'
          · simp at hx'
            subst hx'
            exact ⟨fun hh => Classical.byContradiction fun hn => c0 ⟨hh, hn⟩, fun hh => Classical.byContradiction fun hn => c1 ⟨hh, hn⟩⟩)
        refine ⟨r, step r ?_, h1, h2⟩
        simp only [if_neg c0, if_neg c1]
        exact hr
theorem reach_ev (n : Nat) (hn0 : 0 < n) (hn : n ≤ 6) (es : List S57) (he : ∀ e ∈ es, 0 ≤ e.f0 ∧ e.f0 < e.f1 ∧ e.f1 < n) (hl : es.length < 4611686018427387904) :
    ∃ r, Ev (fun k => spec_l02Reach.f k n es) r ∧ RInv n es r ∧ Done es r r.length := by
  have main : ∀ (d pos : Nat) (q : List Int), RInv n es q → Done es q pos → pos ≤ q.length → n < pos + d → ∃ r, Ev (fun k => spec_l02Reach.l0 k q (pos : Int) n es) r ∧ RInv n es r ∧ Done es r r.length := by
    intro d
    induction d with
    | zero =>
      intro pos q hinv _ hp hd
      have := rinv_len hinv
      omega
    | succ d ih =>
      intro pos q hinv hdone hp hd
      by_cases hlt : pos < q.length
      · obtain ⟨r, ⟨K, hK⟩, h1, h2⟩ := reach_inner n hn es he hl pos (fun q' h1 h2 h3 => ih (pos + 1) q' h1 h2 (by omega) (by omega)) es 0 q (by omega) rfl hinv hdone hlt (fun e he' => by simp at he')
        refine ⟨r, ⟨K + 1, fun k hk => ?_⟩, h1, h2⟩
        obtain ⟨m, rfl⟩ : ∃ m, k = m + 1 := ⟨k - 1, by omega⟩
        have h3 := hK m (by omega)
        dsimp only at h3 ⊢
        simp only [spec_l02Reach.l0]
        rw [if_pos (by omega)]
        exact h3
      · refine ⟨q, ev1 fun k => ?_, hinv, ?_⟩
        · simp only [spec_l02Reach.l0]
          rw [if_neg (by omega)]
        · have : pos = q.length := by omega
          rw [this] at hdone
          exact hdone
  refine main (n + 1) 0 [0] ⟨by simp, fun v hv => by simp at hv; omega, by simp, fun P h0 _ v hv => by simp at hv; rw [hv]; exact h0⟩ (fun j hj => by omega) (by simp) (by omega)
theorem reach_all (n : Nat) (es : List S57) (r : List Int) (h1 : RInv n es r) (h2 : Done es r r.length) : ((r.length : Int) == n) = true ↔ ConnE n es := by
  have hlen := rinv_len h1
  constructor
  · intro h P h0 hP v hv0 hv
    simp at h
    refine h1.2.2.2 P h0 hP v (Classical.byContradiction fun hno => ?_)
    have := List.Nodup.length_le_of_subset (l₁ := v :: r) (by rw [List.nodup_cons]; exact ⟨hno, h1.1⟩) (l₂ := (List.range n).map fun i : Nat => (i : Int)) (fun u hu => by
      have hb : 0 ≤ u ∧ u < n := by
        rcases List.mem_cons.1 hu with rfl | hu
        · omega
        · exact h1.2.1 u hu
      exact List.mem_map.2 ⟨u.toNat, by simp; omega, by omega⟩)
    simp at this
    omega
  · intro h
    have hall := h (fun v => v ∈ r) h1.2.2.1 (fun e he => by
      constructor
      · intro hm
        obtain ⟨j, hj, hjv⟩ := List.mem_iff_getElem.1 hm
        exact (h2 j hj e he).1 (by rw [rd_nat r j hj]; exact hjv.symm)
      · intro hm
        obtain ⟨j, hj, hjv⟩ := List.mem_iff_getElem.1 hm
        exact (h2 j hj e he).2 (by rw [rd_nat r j hj]; exact hjv.symm))
    have := List.Nodup.length_le_of_subset (l₁ := (List.range n).map fun i : Nat => (i : Int)) (l₂ := r) (by
      refine List.Pairwise.map _ (fun a b hab => ?_) List.nodup_range
      show (a : Int) ≠ b
      omega) (fun v hv => by
      obtain ⟨i, hi, rfl⟩ := List.mem_map.1 hv
      simp at hi
      exact hall _ (by omega) (by omega))
    simp at this ⊢
    omega
theorem spec_graphOk_iff (n : Int) (es : List S57) (hl : es.length < 4611686018427387904) : ∃ b : Bool, Ev (fun k => spec_GraphOk.f k n es) b ∧ (b = true ↔ GraphP n es) := by
  have h1 := spec_edgesOk_ev n es hl
  simp only [spec_GraphOk.f]
  by_cases hb : edgesB n es = true
  · obtain ⟨f1, f2, f3, f4⟩ := edgesB_facts hb
    obtain ⟨m, rfl⟩ : ∃ m : Nat, n = m := ⟨n.toNat, by omega⟩
    obtain ⟨r, hr, r1, r2⟩ := reach_ev m (by omega) (by omega) es f4 hl
    rw [hb] at h1
    have main : ∀ (d i : Nat), i + d = es.length → ∃ b : Bool, Ev (fun k => spec_GraphOk.l0 k es (es.length : Int) (i : Int) m es) b ∧
        (b = true ↔ (∀ j, i ≤ j + 1 → j + 1 < es.length → ¬ ((es.getD (j + 1) z57).f0 < (es.getD j z57).f0 ∨ ((es.getD (j + 1) z57).f0 = (es.getD j z57).f0 ∧ (es.getD (j + 1) z57).f1 < (es.getD j z57).f1))) ∧ ConnE m es) := by
      intro d
      induction d with
      | zero =>
        intro i hi
        obtain ⟨K, hK⟩ := hr
        refine ⟨((r.length : Int) == m), ⟨K + 1, fun k hk => ?_⟩, ?_⟩
        · obtain ⟨p, rfl⟩ : ∃ p, k = p + 1 := ⟨k - 1, by omega⟩
          have h3 := hK p (by omega)
          dsimp only at h3 ⊢
          simp only [spec_GraphOk.l0]
          rw [if_neg (by omega), h3]
          rfl
        · rw [reach_all m es r r1 r2]
          exact ⟨fun h => ⟨fun j h1 h2 => by omega, h⟩, fun h => h.2⟩
      | succ d ih =>
        intro i hi
        obtain ⟨b, hK, hiff⟩ := ih (i + 1) (by omega)
        have stop : Ev (fun k => spec_GraphOk.j1 k es (es.length : Int) (i : Int) true m es) false := ev1 fun k => by simp only [spec_GraphOk.j1, if_true]
        have go : Ev (fun k => spec_GraphOk.j1 k es (es.length : Int) (i : Int) false m es) b := by
          refine ev_succ ?_
          simp only [spec_GraphOk.j1, Bool.false_eq_true, if_false, wrap_succ (show i < 4611686018427387904 by omega)]
          exact hK
        by_cases i0 : i = 0
        · subst i0
          refine ⟨b, ev_succ ?_, ?_⟩
          · simp only [spec_GraphOk.l0]
            exact ev_ift (by omega) (ev_ift (by omega) (ev_ift (by omega) (ev_ifn (by omega) go)))
          · rw [hiff]
            exact ⟨fun h => ⟨fun j _ h2 => h.1 j (by omega) h2, h.2⟩, fun h => ⟨fun j _ h2 => h.1 j (by omega) h2, h.2⟩⟩
        · obtain ⟨p, rfl⟩ : ∃ p, i = p + 1 := ⟨i - 1, by omega⟩
          have ew : wrap64 (((p + 1 : Nat) : Int) - 1) = (p : Int) := by unfold wrap64; omega
          by_cases hc : (es.getD (p + 1) z57).f0 < (es.getD p z57).f0 ∨ ((es.getD (p + 1) z57).f0 = (es.getD p z57).f0 ∧ (es.getD (p + 1) z57).f1 < (es.getD p z57).f1)
          · refine ⟨false, ev_succ ?_, ?_⟩
            · simp only [spec_GraphOk.l0, ew, rdE_nat]
              refine ev_ift (by omega) (ev_ift (by omega) (ev_ift (by omega) (ev_ift (by omega) (ev_ift (by omega) (ev_ift (by omega) ?_)))))
              by_cases c0 : (es.getD (p + 1) z57).f0 < (es.getD p z57).f0
              · exact ev_ift c0 stop
              · have c1 : (es.getD (p + 1) z57).f1 < (es.getD p z57).f1 := by omega
                simp only [decide_eq_true c1]
                exact ev_ifn c0 (ev_ift (by omega) stop)
            · simp only [Bool.false_eq_true, false_iff]
              exact fun h => h.1 p (by omega) (by omega) hc
          · refine ⟨b, ev_succ ?_, ?_⟩
            · simp only [spec_GraphOk.l0, ew, rdE_nat]
              refine ev_ift (by omega) (ev_ift (by omega) (ev_ift (by omega) (ev_ift (by omega) (ev_ift (by omega) (ev_ift (by omega) (ev_ifn (by omega) ?_))))))
              by_cases c0 : (es.getD (p + 1) z57).f0 = (es.getD p z57).f0
              · have c1 : ¬ (es.getD (p + 1) z57).f1 < (es.getD p z57).f1 := by omega
                simp only [decide_eq_false c1]
                exact ev_ift c0 go
              · exact ev_ifn c0 go
            · rw [hiff]
              refine ⟨fun h => ⟨fun j h1 h2 => ?_, h.2⟩, fun h => ⟨fun j _ h2 => h.1 j (by omega) h2, h.2⟩⟩
              by_cases e : j = p
              · subst e; exact hc
              · exact h.1 j (by omega) h2
    obtain ⟨b, hb2, hiff⟩ := main es.length 0 (by omega)
    refine ⟨b, Ev.bind h1 ?_, ?_⟩
    · simp only [if_true]
      exact hb2
    · rw [hiff]
      exact ⟨fun h => ⟨hb, fun i hi => h.1 i (by omega) hi, h.2⟩, fun h => ⟨fun j _ h2 => h.2.1 j h2, h.2.2⟩⟩
  · refine ⟨false, Ev.bind h1 ?_, ?_⟩
    · simp only [hb]
      exact Ev.now _
    · simp only [Bool.false_eq_true, false_iff]
      exact fun h => hb h.1
theorem graphOk_both (n : Int) (es : List S57) (hl : es.length < 4611686018427387904) : ∃ b : Bool, Ev (fun k => impl_GraphOk.f k n es) b ∧ Ev (fun k => spec_GraphOk.f k n es) b ∧ (b = true ↔ GraphP n es) := by
  obtain ⟨b, h1, i1⟩ := impl_graphOk_iff n es hl
  obtain ⟨b', h2, i2⟩ := spec_graphOk_iff n es hl
  have : b' = b := by rw [Bool.eq_iff_iff, i1, i2]
  subst this
  exact ⟨b', h1, h2, i1⟩
theorem within_eq (a b c : Int) : impl_within.f a b c = some (decide (b ≤ a ∧ a ≤ c)) := by
  unfold impl_within.f
  by_cases h : a ≥ b
  · rw [if_pos h]; simp; omega
  · rw [if_neg h]; simp; omega
theorem in_eq (a b c : Int) : spec_l01In.f a b c = some (decide (b ≤ a ∧ a ≤ c)) := by
  unfold spec_l01In.f
  by_cases h : a ≥ b
  · rw [if_pos h]; simp; omega
  · rw [if_neg h]; simp; omega
def allB (l : List Int) (lo hi : Int) : Bool := l.all fun x => decide (lo ≤ x ∧ x ≤ hi)
theorem allWithin_ev (l : List Int) (lo hi : Int) (hl : l.length < 4611686018427387904) : Ev (fun k => impl_allWithin.f k l lo hi) (allB l lo hi) := by
  simp only [impl_allWithin.f]
  refine ev_list0 l (fun k (_ : Unit) i => impl_allWithin.l0 k lo hi l (l.length : Int) i) (fun _ r => allB r lo hi) (fun _ _ => True) (fun s _ => ev1 fun k => ?_) (fun s a rest i hlt hd _ => ?_) () trivial
  · simp only [impl_allWithin.l0]
    rw [if_neg (by omega)]; rfl
  · by_cases h : lo ≤ a ∧ a ≤ hi
    · refine Or.inr ⟨(), trivial, by simp [allB, h], 0, fun k _ => ?_⟩
      simp only [impl_allWithin.l0, rd_drop hd, within_eq, Option.bind_some]
      rw [if_pos (by omega), if_pos (by omega), if_pos (by omega), if_pos (by simp [h]), wrap_succ (by omega)]
    · refine Or.inl (ev1 fun k => ?_)
      simp only [impl_allWithin.l0, rd_drop hd, within_eq, Option.bind_some]
      rw [if_pos (by omega), if_pos (by omega), if_pos (by omega), if_neg (by simpa using h)]
      simp [allB, h]
def okE (n : Nat) (e : S57) : Prop := 0 ≤ e.f0 ∧ e.f0 < e.f1 ∧ e.f1 < n
end Go.Proofs.Ytplcclifmajcfaa.Pure
end
section
set_option linter.unusedVariables false
set_option linter.unusedSimpArgs false
namespace Go.Proofs.Ytplcclifmajcfaa.Pure
open Go.RowKit Go.Proofs.Ytplcclifmajcfaa.P Go.Proofs.YtplcclifmajcfaaW.PrintWords Go.Proofs.YtplcclifmajcfaaW.PrintLast Go.Proofs.YtplcclifmajcfaaW.PrintMore Go.Proofs.Ytplcclifmajcfaa.Base Go.Proofs.Ytplcclifmajcfaa.Reduce Go.Proofs.Ytplcclifmajcfaa.Loops Go.Proofs.Ytplcclifmajcfaa.Bits
def mE (n : Nat) (es : List S57) : Nat → Nat → Int := fun v w => multI n es v w
theorem multI_nonneg (n : Int) (es : List S57) (v w : Int) : 0 ≤ multI n es v w := by
  unfold multI
  split
  · exact Int.natCast_nonneg _
  · exact Int.le_refl _
theorem multI_symm (n : Int) (es : List S57) (v w : Int) : multI n es v w = multI n es w v := by
  have e1 : mn v w = mn w v := by unfold mn; split <;> split <;> omega
  have e2 : mx v w = mx w v := by unfold mx; split <;> split <;> omega
  unfold multI multN
  rw [e1, e2]
  by_cases h : 0 ≤ v ∧ v < n ∧ 0 ≤ w ∧ w < n ∧ v ≠ w
  · rw [if_pos h, if_pos (by omega)]
  · rw [if_neg h, if_neg (by omega)]
theorem multI_self (n : Int) (es : List S57) (v : Int) : multI n es v v = 0 := by
  unfold multI
  rw [if_neg (by omega)]
theorem multI_cons (n : Nat) (es : List S57) (e : S57) (he : okE n e) (v w : Nat) (hv : v < n) (hw : w < n) :
    multI n (e :: es) v w = multI n es v w + (if (e.f0.toNat = v ∧ e.f1.toNat = w) ∨ (e.f1.toNat = v ∧ e.f0.toNat = w) then 1 else 0) := by
  obtain ⟨h0, h1, h2⟩ := he
  by_cases hvw : v = w
  · subst hvw
    rw [multI_self, multI_self, if_neg (by omega)]; rfl
  · have hr : 0 ≤ (v : Int) ∧ (v : Int) < n ∧ 0 ≤ (w : Int) ∧ (w : Int) < n ∧ (v : Int) ≠ w := by omega
    unfold multI multN
    rw [if_pos hr, if_pos hr, List.countP_cons]
    have hiff : (decide (e.f0 = mn v w) && decide (e.f1 = mx v w)) = true ↔ ((e.f0.toNat = v ∧ e.f1.toNat = w) ∨ (e.f1.toNat = v ∧ e.f0.toNat = w)) := by
      rw [Bool.and_eq_true, decide_eq_true_eq, decide_eq_true_eq]
      unfold mn mx
      split <;> split <;> omega
    by_cases c : (e.f0.toNat = v ∧ e.f1.toNat = w) ∨ (e.f1.toNat = v ∧ e.f0.toNat = w)
    · rw [if_pos c, if_pos (hiff.2 c)]; omega
    · rw [if_neg c, if_neg (fun h => c (hiff.1 h))]; omega
theorem sum_ind (n j : Nat) (F : Nat → Int) (hj : j < n) : sumN (fun w => (if w = j then 1 else 0) * F w) n = F j := by
  have h := sumN_upd (fun _ => (0 : Int)) n j (F j) hj
  rw [sumN_zero] at h
  rw [← sumN_congr (f := fun i => if i = j then F j else 0) (fun i _ => ?_), h]
  · omega
  · by_cases e : i = j
    · subst e; simp
    · simp [e]
theorem lap_cons (n : Nat) (es : List S57) (e : S57) (he : okE n e) (v : Nat) (hv : v < n) (F : Nat → Int) :
    sumN (fun w => mE n (e :: es) v w * F w) n = sumN (fun w => mE n es v w * F w) n + (if e.f0.toNat = v then F e.f1.toNat else 0) + (if e.f1.toNat = v then F e.f0.toNat else 0) := by
  have hc := multI_cons n es e he v
  obtain ⟨h0, h1, h2⟩ := he
  have split_ : ∀ j : Nat, j < n → (∀ w, w < n → (((e.f0.toNat = v ∧ e.f1.toNat = w) ∨ (e.f1.toNat = v ∧ e.f0.toNat = w)) ↔ w = j)) → sumN (fun w => mE n (e :: es) v w * F w) n = sumN (fun w => mE n es v w * F w) n + F j := by
    intro j hj hiff
    rw [← sum_ind n j F hj, ← sumN_add]
    refine sumN_congr fun w hw => ?_
    show multI n (e :: es) v w * F w = multI n es v w * F w + _
    rw [hc w hv hw]
    by_cases c : w = j
    · rw [if_pos ((hiff w hw).2 c), if_pos c, Int.add_mul]
    · rw [if_neg (fun h => c ((hiff w hw).1 h)), if_neg c, Int.add_mul]
  by_cases a : e.f0.toNat = v
  · rw [if_pos a, if_neg (by omega), split_ e.f1.toNat (by omega) (fun w hw => by omega)]; omega
  · by_cases b : e.f1.toNat = v
    · rw [if_neg a, if_pos b, split_ e.f0.toNat (by omega) (fun w hw => by omega)]; omega
    · rw [if_neg a, if_neg b]
      have : sumN (fun w => mE n (e :: es) v w * F w) n = sumN (fun w => mE n es v w * F w) n := sumN_congr fun w hw => by
        show multI n (e :: es) v w * F w = multI n es v w * F w
        rw [hc w hv hw, if_neg (by omega)]; congr 1; omega
      rw [this]; omega
theorem mE_nil (n : Nat) (v : Nat) (F : Nat → Int) : sumN (fun w => mE n ([] : List S57) v w * F w) n = 0 := by
  rw [← sumN_zero n]
  refine sumN_congr fun w _ => ?_
  show multI n [] v w * F w = 0
  unfold multI multN
  split <;> simp
theorem val_le (n : Nat) (v : Nat) (hv : v < n) : ∀ es : List S57, (∀ e ∈ es, okE n e) → sumN (mE n es v) n ≤ es.length := by
  intro es
  induction es with
  | nil =>
    intro _
    have := mE_nil n v (fun _ => 1)
    simp only [Int.mul_one] at this
    rw [show sumN (mE n ([] : List S57) v) n = 0 from this]; simp
  | cons e es ih =>
    intro he
    have h1 := he e (by simp)
    have h := lap_cons n es e h1 v hv (fun _ => 1)
    have i := ih (fun y hy => he y (by simp [hy]))
    simp only [Int.mul_one] at h
    obtain ⟨h0, h1, h2⟩ := h1
    rw [show sumN (mE n (e :: es) v) n = _ from h]
    rw [List.length_cons]
    by_cases a : e.f0.toNat = v
    · rw [if_pos a, if_neg (by omega)]
      have : sumN (fun w => mE n es v w) n = sumN (mE n es v) n := rfl
      omega
    · rw [if_neg a]
      have : sumN (fun w => mE n es v w) n = sumN (mE n es v) n := rfl
      by_cases b : e.f1.toNat = v
      · rw [if_pos b]; omega
      · rw [if_neg b]; omega
theorem mE_pos (n : Nat) (es : List S57) (e : S57) (he : e ∈ es) (hb : okE n e) : 0 < mE n es e.f0.toNat e.f1.toNat := by
  obtain ⟨h0, h1, h2⟩ := hb
  show 0 < multI n es _ _
  unfold multI multN
  rw [if_pos (by omega)]
  have e1 : mn (e.f0.toNat : Int) (e.f1.toNat : Int) = e.f0 := by unfold mn; split <;> omega
  have e2 : mx (e.f0.toNat : Int) (e.f1.toNat : Int) = e.f1 := by unfold mx; split <;> omega
  rw [e1, e2]
  have : 0 < es.countP fun x => decide (x.f0 = e.f0) && decide (x.f1 = e.f1) := List.countP_pos_iff.2 ⟨e, he, by simp⟩
  omega
theorem gr_of (n : Nat) (es : List S57) (h : GraphP n es) : Gr n (mE n es) := by
  obtain ⟨f1, f2, f3, f4⟩ := edgesB_facts h.1
  refine ⟨by omega, by omega, fun v w => multI_symm _ _ _ _, fun v w => multI_nonneg _ _ _ _, fun v => multI_self _ _ _, fun v hv => ?_, fun P hP hcl v hv => ?_⟩
  · have := val_le n v hv es f4
    omega
  · have := h.2.2 (fun i => P i.toNat) hP (fun e he => by
      obtain ⟨h0, h1, h2⟩ := f4 e he
      have hp := mE_pos n es e he ⟨h0, h1, h2⟩
      have hp' : 0 < mE n es e.f1.toNat e.f0.toNat := by
        have : mE n es e.f1.toNat e.f0.toNat = mE n es e.f0.toNat e.f1.toNat := multI_symm _ _ _ _
        omega
      exact ⟨fun h => hcl _ _ (by omega) (by omega) hp h, fun h => hcl _ _ (by omega) (by omega) hp' h⟩) v (by omega) (by omega)
    simpa using this
end Go.Proofs.Ytplcclifmajcfaa.Pure
end
section
namespace Go.Proofs.Ytplcclifmajcfaa.P
open Go.RowKit Go.Proofs.YtplcclifmajcfaaW.PrintWords Go.Proofs.YtplcclifmajcfaaW.PrintLast Go.Proofs.YtplcclifmajcfaaW.PrintMore
attribute [local go_sem] max2_int min2_int max_two min_two max_three min_three max_four min_four
set_option linter.unusedVariables false
set_option linter.unusedSimpArgs false
def spec_Valence.l0 : Nat → Int → Int → List (S57) → Int → Int → Option (Int)
 | 0, _, _, _, _, _ => none
 | k + 1, x1, x5, x13, x14, x15 => if x15 < x14 then (if 0 ≤ x15 then (if x15 < (x13.length : Int) then (if ((rd_T57 x13 x15).f0) = x1 then (spec_Valence.l0 k x1 (wrap64 (x5 + 1)) x13 x14 (wrap64 (x15 + 1))) else (if ((rd_T57 x13 x15).f1) = x1 then (spec_Valence.l0 k x1 (wrap64 (x5 + 1)) x13 x14 (wrap64 (x15 + 1))) else (spec_Valence.l0 k x1 x5 x13 x14 (wrap64 (x15 + 1))))) else (none)) else (none)) else (some x5)
def spec_Valence.f (k : Nat) (a0_0 : Int) (l0_1 : List (S57)) (a1 : Int) : Option (Int) := (spec_l02Vert.f a0_0 l0_1 a1).bind fun t266 => (if t266 = true then (spec_Valence.l0 k a1 0 l0_1 (l0_1.length : Int) 0) else (some 0))
end Go.Proofs.Ytplcclifmajcfaa.P
end
section
set_option linter.unusedVariables false
set_option linter.unusedSimpArgs false
namespace Go.Proofs.Ytplcclifmajcfaa.Pure
open Go.RowKit Go.Proofs.Ytplcclifmajcfaa.P Go.Proofs.YtplcclifmajcfaaW.PrintWords Go.Proofs.YtplcclifmajcfaaW.PrintLast Go.Proofs.YtplcclifmajcfaaW.PrintMore Go.Proofs.Ytplcclifmajcfaa.Base Go.Proofs.Ytplcclifmajcfaa.Loops
def valN (es : List S57) (v : Int) : Nat := es.countP fun e => decide (e.f0 = v) || decide (e.f1 = v)
def valI (n : Int) (es : List S57) (v : Int) : Int := if 0 ≤ v ∧ v < n then (valN es v : Int) else 0
theorem val_loop (es : List S57) (hl : es.length < 4611686018427387904) (v : Int) (g : Nat → Int → Int → Option Int)
    (hg : ∀ k c i, g (k + 1) c i = if i < (es.length : Int) then (if 0 ≤ i then (if i < (es.length : Int) then (if ((rd_T57 es i).f0) = v then (g k (wrap64 (c + 1)) (wrap64 (i + 1))) else (if ((rd_T57 es i).f1) = v then (g k (wrap64 (c + 1)) (wrap64 (i + 1))) else (g k c (wrap64 (i + 1))))) else (none)) else (none)) else (some c)) :
    Ev (fun k => g k 0 0) (valN es v : Int) := by
  have h := ev_list es (fun k (c : Int) i => g k c i) (fun c r => c + (r.countP fun e => decide (e.f0 = v) || decide (e.f1 = v) : Nat)) (fun c r => 0 ≤ c ∧ c + r.length ≤ es.length) (fun s _ => ev1 fun k => ?_) (fun s e rest i hlt hd hinv => Or.inr ?_) es 0 0 (by omega) rfl (by simp)
  · simpa [valN] using h
  · rw [hg, if_neg (by omega)]; simp
  · simp only [List.length_cons] at hinv
    by_cases hc : e.f0 = v ∨ e.f1 = v
    · refine ⟨s + 1, by omega, ?_, 0, fun k _ => ?_⟩
      · rw [List.countP_cons_of_pos (by simp [hc])]; omega
      · rw [hg, if_pos (by omega), if_pos (by omega), if_pos (by omega), rd_IE hd, wrap_succ (by omega), wrap_id (by omega) (by omega)]
        by_cases h1 : e.f0 = v
        · rw [if_pos h1]
        · rw [if_neg h1, if_pos (by omega)]
    · refine ⟨s, by omega, ?_, 0, fun k _ => ?_⟩
      · rw [List.countP_cons_of_neg (by simp; omega)]
      · rw [hg, if_pos (by omega), if_pos (by omega), if_pos (by omega), rd_IE hd, wrap_succ (by omega), if_neg (by omega), if_neg (by omega)]
theorem spec_val_ev (n : Int) (es : List S57) (hl : es.length < 4611686018427387904) (v : Int) : Ev (fun k => spec_Valence.f k n es v) (valI n es v) := by
  have hv : spec_l02Vert.f n es v = some (decide (0 ≤ v ∧ v < n)) := by
    unfold spec_l02Vert.f
    by_cases h : v ≥ 0
    · rw [if_pos h]; simp; omega
    · rw [if_neg h]; simp; omega
  simp only [spec_Valence.f, hv, Option.bind_some]
  by_cases h : 0 ≤ v ∧ v < n
  · simp only [h, and_self, decide_true, if_true]
    rw [valI, if_pos h]
    exact val_loop es hl v (fun k c i => spec_Valence.l0 k v c es (es.length : Int) i) (fun k c i => by simp only [spec_Valence.l0])
  · simp only [decide_eq_true_eq, if_neg h]
    rw [valI, if_neg h]
    exact Ev.now _
theorem impl_val_ev (n : Int) (es : List S57) (hl : es.length < 4611686018427387904) (v : Int) : Ev (fun k => impl_Valence.f k n es v) (valI n es v) := by
  simp only [impl_Valence.f]
  have off : ∀ q : Bool, q = true → Ev (fun k => impl_Valence.j0 k v q n es) 0 := fun q hq => ev1 fun k => by
    simp only [impl_Valence.j0, hq, if_true]
  by_cases h1 : v < 0
  · simp only [if_pos h1]
    rw [valI, if_neg (by omega)]
    exact off _ rfl
  · simp only [if_neg h1]
    by_cases h2 : v ≥ n
    · rw [valI, if_neg (by omega)]
      exact off _ (by simp; omega)
    · rw [valI, if_pos (by omega)]
      obtain ⟨K, hK⟩ := val_loop es hl v (fun k c i => impl_Valence.l0 k v c es (es.length : Int) i) (fun k c i => by simp only [impl_Valence.l0])
      refine ⟨K + 1, fun k hk => ?_⟩
      obtain ⟨m, rfl⟩ : ∃ m, k = m + 1 := ⟨k - 1, by omega⟩
      have h2 := hK m (by omega)
      dsimp only at h2 ⊢
      simp only [impl_Valence.j0]
      rw [if_neg (by simp; omega), h2]
end Go.Proofs.Ytplcclifmajcfaa.Pure
end
section
set_option linter.unusedVariables false
set_option linter.unusedSimpArgs false
namespace Go.Proofs.Ytplcclifmajcfaa.Pure
open Go.RowKit Go.Proofs.Ytplcclifmajcfaa.P Go.Proofs.YtplcclifmajcfaaW.PrintWords Go.Proofs.YtplcclifmajcfaaW.PrintLast Go.Proofs.YtplcclifmajcfaaW.PrintMore Go.Proofs.Ytplcclifmajcfaa.Base Go.Proofs.Ytplcclifmajcfaa.Reduce Go.Proofs.Ytplcclifmajcfaa.Loops Go.Proofs.Ytplcclifmajcfaa.Bits
theorem val_sum (n : Nat) (v : Nat) (hv : v < n) : ∀ es : List S57, (∀ e ∈ es, okE n e) → valI n es v = sumN (mE n es v) n := by
  have main : ∀ es : List S57, (∀ e ∈ es, okE n e) → (valN es v : Int) = sumN (mE n es v) n := by
    intro es
    induction es with
    | nil =>
      intro _
      have := mE_nil n v (fun _ => 1)
      simp only [Int.mul_one] at this
      rw [show sumN (mE n ([] : List S57) v) n = 0 from this]; rfl
    | cons e es ih =>
      intro he
      have h1 := he e (by simp)
      have h := lap_cons n es e h1 v hv (fun _ => 1)
      have i := ih (fun y hy => he y (by simp [hy]))
      simp only [Int.mul_one] at h
      rw [show sumN (mE n (e :: es) v) n = _ from h, show sumN (fun w => mE n es v w) n = sumN (mE n es v) n from rfl, ← i]
      obtain ⟨h0, h1, h2⟩ := h1
      unfold valN
      rw [List.countP_cons]
      have hp : (decide (e.f0 = (v : Int)) || decide (e.f1 = (v : Int))) = true ↔ (e.f0.toNat = v ∨ e.f1.toNat = v) := by
        rw [Bool.or_eq_true, decide_eq_true_eq, decide_eq_true_eq]; omega
      by_cases a : e.f0.toNat = v
      · rw [if_pos a, if_neg (show ¬ e.f1.toNat = v by omega), if_pos (hp.2 (Or.inl a))]; omega
      · by_cases b : e.f1.toNat = v
        · rw [if_neg a, if_pos b, if_pos (hp.2 (Or.inr b))]; omega
        · rw [if_neg a, if_neg b, if_neg (fun h => (hp.1 h).elim a b)]; omega
  intro es he
  unfold valI
  rw [if_pos (by omega)]
  exact main es he
end Go.Proofs.Ytplcclifmajcfaa.Pure
end
section
namespace Go.Proofs.Ytplcclifmajcfaa.P
open Go.RowKit Go.Proofs.YtplcclifmajcfaaW.PrintWords Go.Proofs.YtplcclifmajcfaaW.PrintLast Go.Proofs.YtplcclifmajcfaaW.PrintMore
attribute [local go_sem] max2_int min2_int max_two min_two max_three min_three max_four min_four
set_option linter.unusedVariables false
set_option linter.unusedSimpArgs false
mutual
def spec_LaplacianOf.l0 : Nat → List (List Int) → Int → Int → List (S57) → Option ((List (List Int)))
 | 0, _, _, _, _ => none
 | k + 1, x3, x4, x275000, x275001 => if x4 < x275000 then (spec_LaplacianOf.l1 k x3 x4 (([] : List Int)) 0 x275000 x275001) else (some x3)
def spec_LaplacianOf.l1 : Nat → List (List Int) → Int → List Int → Int → Int → List (S57) → Option ((List (List Int)))
 | 0, _, _, _, _, _, _ => none
 | k + 1, x3, x4, x5, x6, x275000, x275001 => if x6 < x275000 then (if x4 = x6 then ((spec_Valence.f k x275000 x275001 x4).bind fun t285 => (if x5.length < 17592186044416 then (spec_LaplacianOf.l1 k x3 x4 (x5 ++ [t285]) (wrap64 (x6 + 1)) x275000 x275001) else (none))) else ((spec_Multiplicity.f k x275000 x275001 x4 x6).bind fun t289 => (if x5.length < 17592186044416 then (spec_LaplacianOf.l1 k x3 x4 (x5 ++ [wrap64 (-t289)]) (wrap64 (x6 + 1)) x275000 x275001) else (none)))) else (if x3.length < 5864062014805 then (spec_LaplacianOf.l0 k (x3 ++ [x5]) (wrap64 (x4 + 1)) x275000 x275001) else (none))
end
def spec_LaplacianOf.f (k : Nat) (a0_0 : Int) (l0_1 : List (S57)) : Option ((List (List Int))) := (spec_GraphOk.f k a0_0 l0_1).bind fun t275 => (if t275 = true then (spec_LaplacianOf.l0 k (([] : List (List Int))) 0 a0_0 l0_1) else (some ([] : List (List Int))))
def spec_ReducedLaplacian.l0 : Nat → List (List Int) → Int → List (List Int) → Int → Option (List (List Int))
 | 0, _, _, _, _ => none
 | k + 1, xs, x23, x5, a1 => if x23 < (xs.length : Int) then (if 0 ≤ x23 then (if x23 = a1 then (spec_ReducedLaplacian.l0 k xs (wrap64 (x23 + 1)) x5 a1) else (if 0 ≤ a1 ∧ a1 + 1 ≤ ((xs.getD (x23 : Int).toNat []).length : Int) ∧ (xs.getD (x23 : Int).toNat []).length ≤ 1000 then (if x5.length < 5864062014805 then (spec_ReducedLaplacian.l0 k xs (wrap64 (x23 + 1)) (x5 ++ [(xs.getD (x23 : Int).toNat []).take a1.toNat ++ (xs.getD (x23 : Int).toNat []).drop (a1 + 1).toNat]) a1) else (none)) else (none))) else (none)) else (some x5)
def spec_ReducedLaplacian.f (k : Nat) (a0_0 : Int) (l0_1 : List (S57)) (a1 : Int) : Option (List (List Int)) := (spec_GraphOk.f k a0_0 l0_1).bind fun t300 => (if t300 = true then ((spec_l01In.f a1 0 (wrap64 (a0_0 - 1))).bind fun t301 => (if t301 = true then ((spec_LaplacianOf.f k a0_0 l0_1).bind fun xs => (spec_ReducedLaplacian.l0 k xs 0 [] a1)) else (some ([] : List (List Int))))) else (some ([] : List (List Int))))
end Go.Proofs.Ytplcclifmajcfaa.P
end
section
set_option linter.unusedVariables false
set_option linter.unusedSimpArgs false
namespace Go.Proofs.Ytplcclifmajcfaa.Pure
open Go.RowKit Go.Proofs.Ytplcclifmajcfaa.P Go.Proofs.YtplcclifmajcfaaW.PrintWords Go.Proofs.YtplcclifmajcfaaW.PrintLast Go.Proofs.YtplcclifmajcfaaW.PrintMore Go.Proofs.Ytplcclifmajcfaa.Base Go.Proofs.Ytplcclifmajcfaa.Loops
theorem getD_set0 (x : List Int) (i j : Nat) (c : Int) (hi : i < x.length) : (x.set i c).getD j 0 = if i = j then c else x.getD j 0 := by
  simp only [List.getD_eq_getElem?_getD, List.getElem?_set]
  by_cases e : i = j
  · subst e; simp [hi]
  · simp [e]
theorem list_eq0 {x y : List Int} (h : x.length = y.length) (hu : ∀ u, u < x.length → x.getD u 0 = y.getD u 0) : x = y := by
  refine List.ext_getElem h fun i h1 h2 => ?_
  have := hu i h1
  simp only [List.getD_eq_getElem?_getD, List.getElem?_eq_getElem h1, List.getElem?_eq_getElem h2, Option.getD_some] at this
  exact this
theorem getD_range (F : Nat → Int) (m i : Nat) (h : i < m) : ((List.range m).map F).getD i 0 = F i := by
  simp [List.getD_eq_getElem?_getD, h]
end Go.Proofs.Ytplcclifmajcfaa.Pure
end
section
set_option linter.unusedVariables false
set_option linter.unusedSimpArgs false
namespace Go.Proofs.Ytplcclifmajcfaa.Pure
open Go.RowKit Go.Proofs.Ytplcclifmajcfaa.P Go.Proofs.YtplcclifmajcfaaW.PrintWords Go.Proofs.YtplcclifmajcfaaW.PrintLast Go.Proofs.YtplcclifmajcfaaW.PrintMore Go.Proofs.Ytplcclifmajcfaa.Base Go.Proofs.Ytplcclifmajcfaa.Loops Go.Proofs.Ytplcclifmajcfaa.Bits
def lapRow (n : Nat) (es : List S57) (v : Nat) : List Int := (List.range n).map fun w : Nat => if v = w then valI n es v else wrap64 (-(multI n es v w))
def lapM (n : Nat) (es : List S57) (k : Nat) : List (List Int) := (List.range k).map (lapRow n es)
theorem implLap_row (n : Nat) (hn : n ≤ 6) (es : List S57) (hl : es.length < 4611686018427387904) (v : Nat) (hv : v < n) (x3 : List (List Int)) (h3 : x3.length ≤ 6) (r : List (List Int))
    (hr : Ev (fun k => impl_LaplacianOf.l0 k (x3 ++ [lapRow n es v]) ((v + 1 : Nat) : Int) n es) r) :
    Ev (fun k => impl_LaplacianOf.l1 k x3 (v : Int) (List.replicate n 0) (n : Int) 0 n es) r := by
  have main : ∀ (d i : Nat) (x : List Int), i + d = n → x.length = n → (∀ j, j < i → x.getD j 0 = wrap64 (-(multI n es v j))) → Ev (fun k => impl_LaplacianOf.l1 k x3 (v : Int) x (n : Int) (i : Int) n es) r := by
    intro d
    induction d with
    | zero =>
      intro i x hi hx hj
      obtain rfl : i = n := by omega
      have e : x.set v (valI i es v) = lapRow i es v := by
        refine list_eq0 (by simp [lapRow, hx]) fun u hu => ?_
        have hu' : u < i := by simpa [hx] using hu
        unfold lapRow
        rw [getD_range _ _ _ hu', getD_set0 _ _ _ _ (by omega)]
        by_cases c : v = u
        · simp [c]
        · rw [if_neg c, if_neg c]; exact hj u hu'
      refine ev_succ ?_
      simp only [impl_LaplacianOf.l1, Int.toNat_natCast, wrap_succ (show v < 4611686018427387904 by omega)]
      refine ev_ifn (by omega) (Ev.bind (impl_val_ev i es hl v) (ev_ift (by omega) (ev_ift (by omega) (ev_ift (by omega) ?_))))
      rw [e]
      exact hr
    | succ d ih =>
      intro i x hi hx hj
      have h1 := ih (i + 1) (x.set i (wrap64 (-(multI n es v i)))) (by omega) (by simpa using hx) (fun j hj' => by
        rw [getD_set0 _ _ _ _ (by omega)]
        by_cases c : i = j
        · rw [if_pos c, c]
        · rw [if_neg c]; exact hj j (by omega))
      refine ev_succ ?_
      simp only [impl_LaplacianOf.l1, Int.toNat_natCast, wrap_succ (show i < 4611686018427387904 by omega)]
      exact ev_ift (by omega) (Ev.bind (impl_mult_ev n es hl v i) (ev_ift (by omega) (ev_ift (by omega) h1)))
  exact main n 0 _ (by omega) (by simp) (fun j hj => by omega)
theorem lapM_succ (n : Nat) (es : List S57) (k : Nat) : lapM n es (k + 1) = lapM n es k ++ [lapRow n es k] := by
  unfold lapM
  rw [List.range_succ, List.map_append]; rfl
theorem lapM_len (n : Nat) (es : List S57) (k : Nat) : (lapM n es k).length = k := by simp [lapM]
theorem implLap_ev (n : Nat) (hn : n ≤ 6) (es : List S57) (hl : es.length < 4611686018427387904) : Ev (fun k => impl_LaplacianOf.l0 k [] 0 n es) (lapM n es n) := by
  have main : ∀ (d i : Nat), i + d = n → Ev (fun k => impl_LaplacianOf.l0 k (lapM n es i) (i : Int) n es) (lapM n es n) := by
    intro d
    induction d with
    | zero =>
      intro i hi
      obtain rfl : i = n := by omega
      refine ev_succ ?_
      simp only [impl_LaplacianOf.l0]
      exact ev_ifn (by omega) (Ev.now _)
    | succ d ih =>
      intro i hi
      have h1 := ih (i + 1) (by omega)
      rw [lapM_succ] at h1
      have h2 := implLap_row n hn es hl i (by omega) (lapM n es i) (by rw [lapM_len]; omega) _ h1
      refine ev_succ ?_
      simp only [impl_LaplacianOf.l0, Option.bind_some, Int.toNat_natCast, List.length_replicate]
      exact ev_ift (by omega) (ev_ift (by omega) (ev_ift (by omega) h2))
  exact main n 0 (by omega)
theorem specLap_row (n : Nat) (hn : n ≤ 6) (es : List S57) (hl : es.length < 4611686018427387904) (v : Nat) (hv : v < n) (x3 : List (List Int)) (h3 : x3.length ≤ 6) (r : List (List Int))
    (hr : Ev (fun k => spec_LaplacianOf.l0 k (x3 ++ [lapRow n es v]) ((v + 1 : Nat) : Int) n es) r) :
    Ev (fun k => spec_LaplacianOf.l1 k x3 (v : Int) [] 0 n es) r := by
  have main : ∀ (d i : Nat), i + d = n → Ev (fun k => spec_LaplacianOf.l1 k x3 (v : Int) ((List.range i).map fun w : Nat => if v = w then valI n es v else wrap64 (-(multI n es v w))) (i : Int) n es) r := by
    intro d
    induction d with
    | zero =>
      intro i hi
      obtain rfl : i = n := by omega
      refine ev_succ ?_
      simp only [spec_LaplacianOf.l1, wrap_succ (show v < 4611686018427387904 by omega)]
      exact ev_ifn (by omega) (ev_ift (by omega) hr)
    | succ d ih =>
      intro i hi
      have h1 := ih (i + 1) (by omega)
      rw [List.range_succ, List.map_append] at h1
      simp only [List.map_cons, List.map_nil] at h1
      refine ev_succ ?_
      simp only [spec_LaplacianOf.l1, wrap_succ (show i < 4611686018427387904 by omega)]
      refine ev_ift (by omega) ?_
      by_cases c : v = i
      · rw [if_pos c] at h1
        exact ev_ift (by omega) (Ev.bind (spec_val_ev n es hl v) (ev_ift (by simp; omega) h1))
      · rw [if_neg c] at h1
        exact ev_ifn (by omega) (Ev.bind (spec_mult_ev n es hl v i) (ev_ift (by simp; omega) h1))
  exact main n 0 (by omega)
theorem specLap_ev (n : Nat) (hn : n ≤ 6) (es : List S57) (hl : es.length < 4611686018427387904) : Ev (fun k => spec_LaplacianOf.l0 k [] 0 n es) (lapM n es n) := by
  have main : ∀ (d i : Nat), i + d = n → Ev (fun k => spec_LaplacianOf.l0 k (lapM n es i) (i : Int) n es) (lapM n es n) := by
    intro d
    induction d with
    | zero =>
      intro i hi
      obtain rfl : i = n := by omega
      refine ev_succ ?_
      simp only [spec_LaplacianOf.l0]
      exact ev_ifn (by omega) (Ev.now _)
    | succ d ih =>
      intro i hi
      have h1 := ih (i + 1) (by omega)
      rw [lapM_succ] at h1
      have h2 := specLap_row n hn es hl i (by omega) (lapM n es i) (by rw [lapM_len]; omega) _ h1
      refine ev_succ ?_
      simp only [spec_LaplacianOf.l0]
      exact ev_ift (by omega) h2
  exact main n 0 (by omega)
theorem laplacian_both (n : Int) (es : List S57) (hl : es.length < 4611686018427387904) :
    ∃ r : List (List Int), Ev (fun k => impl_LaplacianOf.f k n es) r ∧ Ev (fun k => spec_LaplacianOf.f k n es) r ∧ (r.length ≤ 6 ∧ ∀ x ∈ r, x.length ≤ 6) ∧
      (r = [] ∧ ¬ GraphP n es ∨ GraphP n es ∧ ∃ m : Nat, n = m ∧ r = lapM m es m) := by
  obtain ⟨b, h1, h2, hb⟩ := graphOk_both n es hl
  simp only [impl_LaplacianOf.f, spec_LaplacianOf.f]
  cases b with
  | false => exact ⟨[], Ev.bind h1 (ev_iff (Ev.now _)), Ev.bind h2 (ev_iff (Ev.now _)), ⟨by simp, by simp⟩, Or.inl ⟨rfl, fun h => by have := hb.2 h; cases this⟩⟩
  | true =>
    simp only [true_iff] at hb
    obtain ⟨f1, f2, f3, f4⟩ := edgesB_facts hb.1
    obtain ⟨m, rfl⟩ : ∃ m : Nat, n = m := ⟨n.toNat, by omega⟩
    refine ⟨lapM m es m, Ev.bind h1 (ev_ift rfl (implLap_ev m (by omega) es hl)), Ev.bind h2 (ev_ift rfl (specLap_ev m (by omega) es hl)), ⟨by rw [lapM_len]; omega, fun x hx => ?_⟩, Or.inr ⟨hb, m, rfl, rfl⟩⟩
    unfold lapM at hx
    rw [List.mem_map] at hx
    obtain ⟨i, _, rfl⟩ := hx
    simp [lapRow]; omega
def redFrom (q : Nat) : Nat → List (List Int) → List (List Int)
  | _, [] => []
  | i, x :: r => if i = q then redFrom q (i + 1) r else (x.take q ++ x.drop (q + 1)) :: redFrom q (i + 1) r
theorem redFrom_len (q : Nat) : ∀ (xs : List (List Int)) (i : Nat), (redFrom q i xs).length ≤ xs.length := by
  intro xs
  induction xs with
  | nil => intro i; simp [redFrom]
  | cons x r ih =>
    intro i
    simp only [redFrom]
    have := ih (i + 1)
    split
    · simp only [List.length_cons]; omega
    · simp only [List.length_cons]; omega
theorem redFrom_mem (q B : Nat) : ∀ (xs : List (List Int)) (i : Nat), (∀ x ∈ xs, x.length ≤ B) → ∀ y ∈ redFrom q i xs, y.length ≤ B := by
  intro xs
  induction xs with
  | nil => intro i _ y hy; simp [redFrom] at hy
  | cons x r ih =>
    intro i h y hy
    have hx := h x (by simp)
    simp only [redFrom] at hy
    split at hy
    · exact ih (i + 1) (fun z hz => h z (by simp [hz])) y hy
    · rcases List.mem_cons.1 hy with rfl | hy
      · simp; omega
      · exact ih (i + 1) (fun z hz => h z (by simp [hz])) y hy
theorem redI_ev (xs : List (List Int)) (q : Nat) (hl : xs.length ≤ 100) (hx : ∀ x ∈ xs, q < x.length ∧ x.length ≤ 100) : Ev (fun k => impl_ReducedLaplacian.l0 k xs 0 [] (q : Int)) (redFrom q 0 xs) := by
  have main : ∀ (rest : List (List Int)) (i : Nat) (acc : List (List Int)), xs.drop i = rest → i ≤ xs.length → acc.length ≤ i → Ev (fun k => impl_ReducedLaplacian.l0 k xs (i : Int) acc (q : Int)) (acc ++ redFrom q i rest) := by
    intro rest
    induction rest with
    | nil =>
      intro i acc hd hi ha
      have := drop_nil hd
      refine ev_succ ?_
      simp only [impl_ReducedLaplacian.l0, redFrom, List.append_nil]
      exact ev_ifn (by omega) (Ev.now _)
    | cons x rest ih =>
      intro i acc hd hi ha
      have hlt := drop_lt hd
      have hm : x ∈ xs := by
        have : x ∈ xs.drop i := by rw [hd]; simp
        exact List.mem_of_mem_drop this
      obtain ⟨h1, h2⟩ := hx x hm
      have hg : xs.getD i [] = x := get_drop hd _
      refine ev_succ ?_
      simp only [impl_ReducedLaplacian.l0, Int.toNat_natCast, hg, wrap_succ (show i < 4611686018427387904 by omega), redFrom]
      refine ev_ift (by omega) (ev_ift (by omega) ?_)
      by_cases c : i = q
      · subst c
        rw [if_pos rfl]
        exact ev_ift rfl (ih (i + 1) acc (drop_next hd) (by omega) (by omega))
      · rw [if_neg c]
        refine ev_ifn (by omega) ?_
        have hdel : slices_Delete_int_int.f x (q : Int) (wrap64 ((q : Int) + 1)) = some (x.take q ++ x.drop (q + 1)) := by
          have e : wrap64 ((q : Int) + 1) = ((q + 1 : Nat) : Int) := by unfold wrap64; omega
          unfold slices_Delete_int_int.f
          rw [e, if_pos (by omega)]
          rfl
        rw [hdel]
        simp only [Option.bind_some]
        refine ev_ift (by omega) ?_
        have g := ih (i + 1) (acc ++ [x.take q ++ x.drop (q + 1)]) (drop_next hd) (by omega) (by simp; omega)
        rw [List.append_assoc, List.singleton_append] at g
        exact g
  have g := main xs 0 [] rfl (by omega) (by simp)
  simpa using g
theorem redS_ev (xs : List (List Int)) (q : Nat) (hl : xs.length ≤ 100) (hx : ∀ x ∈ xs, q < x.length ∧ x.length ≤ 100) : Ev (fun k => spec_ReducedLaplacian.l0 k xs 0 [] (q : Int)) (redFrom q 0 xs) := by
  have main : ∀ (rest : List (List Int)) (i : Nat) (acc : List (List Int)), xs.drop i = rest → i ≤ xs.length → acc.length ≤ i → Ev (fun k => spec_ReducedLaplacian.l0 k xs (i : Int) acc (q : Int)) (acc ++ redFrom q i rest) := by
    intro rest
    induction rest with
    | nil =>
      intro i acc hd hi ha
      have := drop_nil hd
      refine ev_succ ?_
      simp only [spec_ReducedLaplacian.l0, redFrom, List.append_nil]
      exact ev_ifn (by omega) (Ev.now _)
    | cons x rest ih =>
      intro i acc hd hi ha
      have hlt := drop_lt hd
      have hm : x ∈ xs := by
        have : x ∈ xs.drop i := by rw [hd]; simp
        exact List.mem_of_mem_drop this
      obtain ⟨h1, h2⟩ := hx x hm
      have hg : xs.getD i [] = x := get_drop hd _
      have hq : ((q : Int) + 1).toNat = q + 1 := by omega
      refine ev_succ ?_
      simp only [spec_ReducedLaplacian.l0, Int.toNat_natCast, hg, hq, wrap_succ (show i < 4611686018427387904 by omega), redFrom]
      refine ev_ift (by omega) (ev_ift (by omega) ?_)
      by_cases c : i = q
      · subst c
        rw [if_pos rfl]
        exact ev_ift rfl (ih (i + 1) acc (drop_next hd) (by omega) (by omega))
      · rw [if_neg c]
        refine ev_ifn (by omega) (ev_ift (by omega) (ev_ift (by omega) ?_))
        have g := ih (i + 1) (acc ++ [x.take q ++ x.drop (q + 1)]) (drop_next hd) (by omega) (by simp; omega)
        rw [List.append_assoc, List.singleton_append] at g
        exact g
  have g := main xs 0 [] rfl (by omega) (by simp)
  simpa using g
theorem reducedLap_both (n : Int) (es : List S57) (q : Int) (hl : es.length < 4611686018427387904) :
    ∃ r : List (List Int), Ev (fun k => impl_ReducedLaplacian.f k n es q) r ∧ Ev (fun k => spec_ReducedLaplacian.f k n es q) r ∧ (r.length ≤ 6 ∧ ∀ x ∈ r, x.length ≤ 6) ∧
      (GraphP n es → 0 ≤ q → q < n → r = redFrom q.toNat 0 (lapM n.toNat es n.toNat)) := by
  obtain ⟨b, h1, h2, hb⟩ := graphOk_both n es hl
  obtain ⟨xs, l1, l2, ⟨l3, l4⟩, l5⟩ := laplacian_both n es hl
  have tt : true = true := rfl
  have none_ : ¬ (GraphP n es ∧ 0 ≤ q ∧ q < n) → (GraphP n es → 0 ≤ q → q < n → ([] : List (List Int)) = redFrom q.toNat 0 (lapM n.toNat es n.toNat)) := fun hn a b c => absurd ⟨a, b, c⟩ hn
  simp only [impl_ReducedLaplacian.f, spec_ReducedLaplacian.f, impl_isVertex.f, within_eq, in_eq, Option.bind_some]
  cases b with
  | false => exact ⟨[], Ev.bind (Ev.bind h1 (ev_iff (Ev.now _))) (ev_iff (Ev.now _)), Ev.bind h2 (ev_iff (Ev.now _)), ⟨by simp, by simp⟩, none_ (fun h => by have := hb.2 h.1; cases this)⟩
  | true =>
    have hG := hb.1 rfl
    obtain ⟨f1, f2, f3, f4⟩ := edgesB_facts hG.1
    have ew : wrap64 (n - 1) = n - 1 := by unfold wrap64; omega
    rw [ew]
    by_cases hq : 0 ≤ q ∧ q ≤ n - 1
    · rw [decide_eq_true hq]
      obtain ⟨p, rfl⟩ := Int.eq_ofNat_of_zero_le hq.1
      rcases l5 with ⟨_, hno⟩ | ⟨_, m, rfl, rfl⟩
      · exact absurd hG hno
      · have hx : ∀ x ∈ lapM m es m, p < x.length ∧ x.length ≤ 100 := fun x hx => by
          have := l4 x hx
          unfold lapM at hx
          rw [List.mem_map] at hx
          obtain ⟨i, _, rfl⟩ := hx
          simp [lapRow] at this ⊢
          omega
        have hlm : (lapM m es m).length ≤ 100 := by omega
        refine ⟨redFrom p 0 (lapM m es m), Ev.bind (Ev.bind h1 (ev_ift tt (Ev.now _))) (ev_ift tt (Ev.bind l1 (redI_ev _ p hlm hx))), Ev.bind h2 (ev_ift tt (ev_ift tt (Ev.bind l2 (redS_ev _ p hlm hx)))), ⟨by have := redFrom_len p (lapM m es m) 0; omega, redFrom_mem p 6 _ 0 l4⟩, fun _ _ _ => by simp⟩
    · rw [decide_eq_false hq]
      exact ⟨[], Ev.bind (Ev.bind h1 (ev_ift tt (Ev.now _))) (ev_iff (Ev.now _)), Ev.bind h2 (ev_ift tt (ev_iff (Ev.now _))), ⟨by simp, by simp⟩, none_ (fun h => hq (by omega))⟩
end Go.Proofs.Ytplcclifmajcfaa.Pure
end
section
namespace Go.Proofs.Ytplcclifmajcfaa.P
open Go.RowKit Go.Proofs.YtplcclifmajcfaaW.PrintWords Go.Proofs.YtplcclifmajcfaaW.PrintLast Go.Proofs.YtplcclifmajcfaaW.PrintMore
attribute [local go_sem] max2_int min2_int max_two min_two max_three min_three max_four min_four
set_option linter.unusedVariables false
set_option linter.unusedSimpArgs false
theorem spec_l03Sets.one {W : World} {B c : Nat} {A : Option Addr} {ok : Nat → Prop} (h : Kd.R (Kd.int .i64) 3 W B ok (.slice A 0 c) []) (j : Nat) (x : List Int) (hj : ([[]] : List (List Int))[j]? = some x) :
    (Kd.slice 3 (Kd.int .i64)).M W B (fun k_ => j = 0 ∧ some k_ = (.slice A 0 c : Value).ownBlock) x ((([.slice A 0 c] : List Value).drop (j * (Kd.slice 3 (Kd.int .i64)).sz)).take (Kd.slice 3 (Kd.int .i64)).sz) := by
  cases j with
  | zero =>
    simp only [List.getElem?_cons_zero, Option.some.injEq] at hj
    subst hj
    exact ⟨_, rfl, Kd.R_mono (Kd.R_tight rfl h) (fun k hk => ⟨rfl, hk⟩)⟩
  | succ j => simp at hj
end Go.Proofs.Ytplcclifmajcfaa.P
end
section
set_option linter.unusedVariables false
set_option linter.unusedSimpArgs false
namespace Go.Proofs.Ytplcclifmajcfaa.Pure
open Go.RowKit Go.Proofs.Ytplcclifmajcfaa.P Go.Proofs.YtplcclifmajcfaaW.PrintWords Go.Proofs.YtplcclifmajcfaaW.PrintLast Go.Proofs.YtplcclifmajcfaaW.PrintMore Go.Proofs.Ytplcclifmajcfaa.Base Go.Proofs.Ytplcclifmajcfaa.Minor Go.Proofs.Ytplcclifmajcfaa.Det Go.Proofs.Ytplcclifmajcfaa.Loops Go.Proofs.Ytplcclifmajcfaa.Bits
theorem mx_abs (a : Int) (h : a.natAbs < 9223372036854775808) : mx a (wrap64 (-a)) = (a.natAbs : Int) := by
  unfold mx wrap64
  split <;> omega
theorem tmod_abs (a b : Nat) : Int.tmod (a : Int) (b : Int) = ((a % b : Nat) : Int) := by
  rw [Int.ofNat_tmod]
theorem gcd_turn (a b : Nat) : Nat.gcd a b = Nat.gcd b (a % b) := by
  rw [Nat.gcd_comm, Nat.gcd_rec, Nat.gcd_comm]
theorem implGcd0 : ∀ (N : Nat) (a b : Int), b.natAbs = N → a.natAbs < 9223372036854775808 → b.natAbs < 9223372036854775808 → Ev (fun k => impl_divisor.l0 k a b) ((Nat.gcd a.natAbs b.natAbs : Nat) : Int) := by
  intro N
  induction N using Nat.strongRecOn with
  | _ N ih =>
    intro a b hN ha hb
    refine ev_succ ?_
    simp only [impl_divisor.l0, impl_magnitude.f, mx_abs a ha, Option.bind_some]
    by_cases h : b = 0
    · subst h
      simp only [Int.natAbs_zero, Nat.gcd_zero_right]
      exact ev_ift trivial (Ev.now _)
    · rw [gcd_turn, ← Int.natAbs_tmod]
      have hm : (Int.tmod a b).natAbs < b.natAbs := by rw [Int.natAbs_tmod]; exact Nat.mod_lt _ (by omega)
      exact ev_ifn h (ih (Int.tmod a b).natAbs (by omega) b (Int.tmod a b) rfl hb (by omega))
theorem implGcd_ev (a b : Int) (ha : a.natAbs < 9223372036854775808) (hb : b.natAbs < 9223372036854775808) : Ev (fun k => impl_divisor.f k a b) ((Nat.gcd a.natAbs b.natAbs : Nat) : Int) := by
  simp only [impl_divisor.f]
  exact implGcd0 _ a b rfl ha hb
theorem rd_mem {l : List Int} {i : Nat} (h : i < l.length) : rd l (i : Int) ∈ l := by
  unfold rd
  rw [Int.toNat_natCast, List.getD_eq_getElem?_getD, List.getElem?_eq_getElem h]
  exact List.getElem_mem h
end Go.Proofs.Ytplcclifmajcfaa.Pure
end
section
set_option linter.unusedVariables false
set_option linter.unusedSimpArgs false
namespace Go.Proofs.Ytplcclifmajcfaa.Pure
open Go.RowKit Go.Proofs.Ytplcclifmajcfaa.P Go.Proofs.YtplcclifmajcfaaW.PrintWords Go.Proofs.YtplcclifmajcfaaW.PrintLast Go.Proofs.YtplcclifmajcfaaW.PrintMore Go.Proofs.Ytplcclifmajcfaa.Base Go.Proofs.Ytplcclifmajcfaa.Bits Go.Proofs.Ytplcclifmajcfaa.Loops
theorem rdL_drop {l : List (List Int)} {i : Nat} {a : List Int} {r : List (List Int)} (h : l.drop i = a :: r) : rd_L4 l (i : Int) = a := by
  unfold rd_L4
  rw [Int.toNat_natCast]
  exact get_drop h []
def rowB (n : Nat) (r : List Int) : Bool := decide (r.length = n) && allB r (-500) 500
def matB (m : List (List Int)) : Bool := decide (m.length ≤ 6) && m.all (rowB m.length)
theorem implMat_ev (m : List (List Int)) (hl : m.length < 4611686018427387904) (hr : ∀ r ∈ m, r.length < 4611686018427387904) : Ev (fun k => impl_MatrixOk.f k m) (matB m) := by
  simp only [impl_MatrixOk.f, matB]
  by_cases h6 : m.length ≤ 6
  · rw [decide_eq_true h6, Bool.true_and]
    refine ev_ifn (by omega) ?_
    refine ev_listE m (fun k (_ : Unit) i => impl_MatrixOk.l0 k m m (m.length : Int) i) (fun _ r => r.all (rowB m.length)) (fun _ _ => True) (fun s _ => ev_succ ?_) (fun s a rest i hlt hd _ => ?_) () trivial
    · simp only [impl_MatrixOk.l0]
      exact ev_ifn (by omega) (Ev.now _)
    · have ha : a ∈ m := List.mem_of_mem_drop (by rw [hd]; exact List.mem_cons_self)
      have aw := allWithin_ev a (-500) 500 (hr a ha)
      by_cases c : a.length = m.length
      · cases e : allB a (-500) 500 with
        | true =>
          rw [e] at aw
          refine Or.inr ⟨(), trivial, by simp [rowB, c, e], fun r h => ev_succ ?_⟩
          simp only [impl_MatrixOk.l0, rdL_drop hd, wrap_succ (show i < 4611686018427387904 by omega)]
          exact ev_ift (by omega) (ev_ift (by omega) (ev_ift (by omega) (ev_ift (by omega) (Ev.bind aw (ev_ift rfl h)))))
        | false =>
          rw [e] at aw
          refine Or.inl (ev_succ ?_)
          rw [show (a :: rest).all (rowB m.length) = false by simp [rowB, e]]
          simp only [impl_MatrixOk.l0, rdL_drop hd]
          exact ev_ift (by omega) (ev_ift (by omega) (ev_ift (by omega) (ev_ift (by omega) (Ev.bind aw (ev_iff (Ev.now _))))))
      · refine Or.inl (ev_succ ?_)
        rw [show (a :: rest).all (rowB m.length) = false by simp [rowB, c]]
        simp only [impl_MatrixOk.l0, rdL_drop hd]
        exact ev_ift (by omega) (ev_ift (by omega) (ev_ift (by omega) (ev_ifn (by omega) (Ev.now _))))
  · rw [decide_eq_false h6, Bool.false_and]
    exact ev_ift (by omega) (Ev.now _)
theorem matB_facts {m : List (List Int)} (h : matB m = true) : m.length ≤ 6 ∧ ∀ r ∈ m, r.length = m.length ∧ ∀ x ∈ r, -500 ≤ x ∧ x ≤ 500 := by
  simp only [matB, rowB, allB, Bool.and_eq_true, decide_eq_true_eq, List.all_eq_true] at h
  exact h
end Go.Proofs.Ytplcclifmajcfaa.Pure
end
section
set_option linter.unusedVariables false
set_option linter.unusedSimpArgs false
namespace Go.Proofs.Ytplcclifmajcfaa.Pure
open Go.RowKit Go.Proofs.Ytplcclifmajcfaa.P Go.Proofs.YtplcclifmajcfaaW.PrintWords Go.Proofs.YtplcclifmajcfaaW.PrintLast Go.Proofs.YtplcclifmajcfaaW.PrintMore Go.Proofs.Ytplcclifmajcfaa.Base Go.Proofs.Ytplcclifmajcfaa.Det Go.Proofs.Ytplcclifmajcfaa.Bits Go.Proofs.Ytplcclifmajcfaa.Loops
def rowX (m : List (List Int)) (r c : Int) : Int := rd (rd_L4 m r) c
theorem implDet_ev (m : List (List Int)) (n : Nat) (hn : n ≤ 6) (hm : m.length = n) (hr : ∀ r : Int, 0 ≤ r → r < n → (rd_L4 m r).length = n) :
    ∀ (R : List Int) (S : Nat), (∀ r ∈ R, 0 ≤ r ∧ r < n) → S < 64 → R.length < 1000 → Ev (fun k => impl_determinant.f k m R (S : Int)) (dF (rowX m) R (colsR S 0 n)) := by
  intro R
  induction R with
  | nil =>
    intro S _ _ _
    refine ev_succ ?_
    simp only [impl_determinant.f]
    exact ev_ift (by rfl) (Ev.now _)
  | cons r R ih =>
    intro S hR hS hl
    obtain ⟨r0, r1⟩ := hR r List.mem_cons_self
    have e0 : rd (r :: R) 0 = r := rfl
    have hrow := hr r r0 r1
    have main : ∀ (d j : Nat) (s g : Int), j + d = n → Ev (fun k => impl_determinant.l0 k m (r :: R) (S : Int) s g (rd_L4 m r) ((rd_L4 m r).length : Int) (j : Int)) (dLoop (rowX m r) (dF (rowX m) R) (colsR S 0 j) (colsR S j d) s g) := by
      intro d
      induction d with
      | zero =>
        intro j s g hj
        refine ev_succ ?_
        simp only [impl_determinant.l0, colsR_zero, dLoop]
        exact ev_ifn (by omega) (Ev.now _)
      | succ d ihd =>
        intro j s g hj
        have h1 := fun s' g' => ihd (j + 1) s' g' (by omega)
        refine ev_succ ?_
        rw [colsR_succ]
        simp only [impl_determinant.l0, wrap_succ (show j < 4611686018427387904 by omega), bit_of S j (by omega) (by omega), andNot_clr S j hS (by omega), List.drop_succ_cons, List.drop_zero]
        refine ev_ift (by omega) (ev_ift (by omega) (ev_ift (by omega) ?_))
        rw [colsR_snoc] at h1
        by_cases hb : S.testBit j = true
        · rw [if_pos hb] at h1 ⊢
          rw [if_pos hb]
          refine ev_ifn (by omega) ?_
          rw [List.singleton_append]
          simp only [dLoop]
          by_cases hx : rowX m r (j : Int) = 0
          · rw [if_pos hx]
            exact ev_ift hx (h1 _ _)
          · rw [if_neg hx]
            refine ev_ifn hx (ev_ift (by simp only [List.length_cons]; omega) ?_)
            have h2 := ih (clr S j) (fun r' hr' => hR r' (List.mem_cons_of_mem _ hr')) (clr_lt S j hS) (by simp only [List.length_cons] at hl; omega)
            rw [show n = j + 1 + d by omega, colsR_clr S j d hS (by omega)] at h2
            exact Ev.bind h2 (h1 _ _)
        · rw [if_neg hb] at h1 ⊢
          rw [if_neg hb]
          rw [List.append_nil] at h1
          exact ev_ift rfl (h1 _ _)
    refine ev_succ ?_
    simp only [impl_determinant.f, e0]
    refine ev_ifn (by simp only [List.length_cons]; omega) (ev_ift (by simp only [List.length_cons]; omega) (ev_ift (by omega) (ev_ift (by omega) ?_)))
    exact main n 0 0 1 (by omega)
theorem bits_none {S i : Nat} (h : S / 2 ^ i = 0) (d : Nat) : colsR S i d = [] := by
  unfold colsR
  rw [List.map_eq_nil_iff, List.filter_eq_nil_iff]
  intro j hj
  rw [List.mem_range'_1] at hj
  have hlt : S < 2 ^ i := by
    rcases Nat.lt_or_ge S (2 ^ i) with h' | h'
    · exact h'
    · have := Nat.div_pos h' (Nat.two_pow_pos i); omega
  simp [Nat.testBit_lt_two_pow (Nat.lt_of_lt_of_le hlt (Nat.pow_le_pow_right (by decide) hj.1))]
theorem bitsOf_ev (S : Nat) (hS : S < 64) : Ev (fun k => impl_bitsOf.f k (S : Int)) (colsR S 0 6) := by
  have main : ∀ (d i : Nat), i + d = 6 → Ev (fun k => impl_bitsOf.l0 k (S : Int) (colsR S 0 i) (i : Int)) (colsR S 0 6) := by
    intro d
    induction d with
    | zero =>
      intro i hi
      obtain rfl : i = 6 := by omega
      refine ev_succ ?_
      simp only [impl_bitsOf.l0, shr_nat S 6 (by omega)]
      have : S / 2 ^ 6 = 0 := Nat.div_eq_of_lt (by simpa using hS)
      exact ev_ift (by omega) (ev_ifn (by rw [this]; omega) (Ev.now _))
    | succ d ih =>
      intro i hi
      have h1 := ih (i + 1) (by omega)
      have hl := colsR_len S 0 i
      refine ev_succ ?_
      simp only [impl_bitsOf.l0, bit_of S i (by omega) (by omega), wrap_succ (show i < 4611686018427387904 by omega)]
      rw [shr_nat S i (by omega)]
      refine ev_ift (by omega) ?_
      by_cases hz : S / 2 ^ i = 0
      · have e : colsR S 0 6 = colsR S 0 i := by
          have := colsR_split S i (6 - i)
          rw [bits_none hz, List.append_nil] at this
          rw [← this]; congr 1; omega
        rw [e]
        exact ev_ifn (by rw [hz]; omega) (Ev.now _)
      · refine ev_ift (Int.natCast_pos.2 (Nat.pos_of_ne_zero hz)) ?_
        rw [colsR_snoc] at h1
        by_cases hb : S.testBit i = true
        · rw [if_pos hb] at h1 ⊢
          exact ev_ift rfl (ev_ift (by omega) h1)
        · rw [if_neg hb] at h1 ⊢
          rw [List.append_nil] at h1
          exact ev_ifn (by omega) h1
  exact main 6 0 (by omega)
theorem full_bits (n : Nat) (hn : n ≤ 6) : colsR (2 ^ n - 1) 0 6 = (List.range n).map (fun i : Nat => (i : Int)) ∧ colsR (2 ^ n - 1) 0 n = (List.range n).map (fun i : Nat => (i : Int)) ∧ 2 ^ n - 1 < 64 := by
  have h : ∀ n : Fin 7, colsR (2 ^ n.val - 1) 0 6 = (List.range n.val).map (fun i : Nat => (i : Int)) ∧ colsR (2 ^ n.val - 1) 0 n.val = (List.range n.val).map (fun i : Nat => (i : Int)) ∧ 2 ^ n.val - 1 < 64 := by decide +kernel
  exact h ⟨n, by omega⟩
theorem shl_full (n : Nat) (hn : n ≤ 6) : wrap64 (shl .i64 1 (n : Int) - 1) = ((2 ^ n - 1 : Nat) : Int) := by
  rw [shl_nat n (by omega)]
  have : 2 ^ n ≤ 64 := by have := Nat.pow_le_pow_right (n := 2) (by decide) hn; simpa using this
  have hp := Nat.two_pow_pos n
  unfold wrap64; omega
theorem rowLen {m : List (List Int)} (h : matB m = true) (r : Int) (h0 : 0 ≤ r) (h1 : r < m.length) : (rd_L4 m r).length = m.length := by
  obtain ⟨_, hr⟩ := matB_facts h
  obtain ⟨i, rfl⟩ : ∃ i : Nat, r = i := ⟨r.toNat, by omega⟩
  have hi : i < m.length := by omega
  have : rd_L4 m (i : Int) = m[i] := by
    unfold rd_L4
    rw [Int.toNat_natCast, List.getD_eq_getElem?_getD, List.getElem?_eq_getElem hi]; rfl
  rw [this]
  exact (hr _ (List.getElem_mem hi)).1
end Go.Proofs.Ytplcclifmajcfaa.Pure
end
section
set_option linter.unusedVariables false
set_option linter.unusedSimpArgs false
namespace Go.Proofs.Ytplcclifmajcfaa.Pure
open Go.RowKit Go.Proofs.Ytplcclifmajcfaa.P Go.Proofs.YtplcclifmajcfaaW.PrintWords Go.Proofs.YtplcclifmajcfaaW.PrintLast Go.Proofs.YtplcclifmajcfaaW.PrintMore Go.Proofs.Ytplcclifmajcfaa.Base Go.Proofs.Ytplcclifmajcfaa.Minor Go.Proofs.Ytplcclifmajcfaa.Det Go.Proofs.Ytplcclifmajcfaa.Loops Go.Proofs.Ytplcclifmajcfaa.Bits
theorem rowX_bound {m : List (List Int)} (h : matB m = true) (r c : Int) (r0 : 0 ≤ r ∧ r < (m.length : Int)) (c0 : 0 ≤ c ∧ c < (m.length : Int)) : (rowX m r c).natAbs ≤ 500 := by
  obtain ⟨_, hr⟩ := matB_facts h
  obtain ⟨i, rfl⟩ : ∃ i : Nat, r = i := ⟨r.toNat, by omega⟩
  obtain ⟨j, rfl⟩ : ∃ j : Nat, c = j := ⟨c.toNat, by omega⟩
  have hi : i < m.length := by omega
  have e : rd_L4 m (i : Int) = m[i] := by
    unfold rd_L4
    rw [Int.toNat_natCast, List.getD_eq_getElem?_getD, List.getElem?_eq_getElem hi]; rfl
  unfold rowX
  rw [e]
  obtain ⟨hl, hx⟩ := hr _ (List.getElem_mem hi)
  have := hx _ (rd_mem (l := m[i]) (i := j) (by omega))
  omega
theorem minorB {m : List (List Int)} (h : matB m = true) {R C : List Int} (hl : R.length = C.length) (h6 : R.length ≤ 6) (hR : ∀ r ∈ R, 0 ≤ r ∧ r < (m.length : Int)) (hC : ∀ r ∈ C, 0 ≤ r ∧ r < (m.length : Int)) :
    dF (rowX m) R C = dZ (rowX m) R C ∧ (dF (rowX m) R C).natAbs < 9223372036854775808 := by
  obtain ⟨e, b⟩ := dF_eq (rowX m) (fun r => 0 ≤ r ∧ r < (m.length : Int)) (fun r => 0 ≤ r ∧ r < (m.length : Int)) (rowX_bound h) R C hl h6 hR hC
  refine ⟨e, ?_⟩
  rw [e]
  refine Nat.lt_of_le_of_lt b ?_
  have h : ∀ k : Fin 7, bd k.val < 9223372036854775808 := by decide
  exact h ⟨R.length, by omega⟩
theorem gk_lt {m : List (List Int)} (h : matB m = true) (k : Nat) (hk : k ≤ 6) : gk (rowX m) m.length k < 9223372036854775808 := by
  obtain ⟨h6, _⟩ := matB_facts h
  obtain ⟨_, f1, _⟩ := sets_facts m.length k h6 hk
  have : gk (rowX m) m.length k ≤ 9223372036854775807 := by
    refine gl_le fun x hx => ?_
    obtain ⟨R, hR, C, hC, rfl⟩ := mem_minors.1 hx
    have := (minorB h (by rw [(f1 R hR).1, (f1 C hC).1]) (by rw [(f1 R hR).1]; exact hk) (f1 R hR).2.1 (f1 C hC).2.1).2
    omega
  omega
theorem tdivN (a b : Nat) (h : a < 9223372036854775808) : wrap64 (Int.tdiv (a : Int) (b : Int)) = ((a / b : Nat) : Int) := by
  have e : Int.tdiv (a : Int) (b : Int) = ((a / b : Nat) : Int) := rfl
  rw [e]
  have := Nat.div_le_self a b
  generalize a / b = q at *
  unfold wrap64
  omega
theorem gk0 (row : Int → Int → Int) (n : Nat) : gk row n 0 = 1 := by
  simp [gk, minors, setsL, gl, dF]
def Seen (m : List (List Int)) (A B : Nat) (x : List Int) : Prop := x.length = m.length + 1 ∧ ∀ k, k ≤ m.length → ∃ g : Nat, g < 9223372036854775808 ∧ rd x (k : Int) = (g : Int) ∧
  ∀ d, d ∣ g ↔ ∀ a b, a < 2 ^ m.length → b < 2 ^ m.length → (a < A ∨ (a = A ∧ b < B)) → (colsR a 0 m.length).length = k → (colsR b 0 m.length).length = k → d ∣ (dF (rowX m) (colsR a 0 m.length) (colsR b 0 m.length)).natAbs
theorem rd_set (x : List Int) (i k : Nat) (v : Int) (hi : i < x.length) : rd (x.set i v) (k : Int) = if k = i then v else rd x (k : Int) := by
  unfold rd
  rw [Int.toNat_natCast, List.getD_eq_getElem?_getD, List.getD_eq_getElem?_getD, List.getElem?_set]
  by_cases h : i = k
  · subst h
    rw [if_pos rfl, if_pos hi, if_pos rfl]; rfl
  · rw [if_neg h, if_neg (by omega)]
section
variable {m : List (List Int)} (hm : matB m = true)
include hm
theorem implInv1 (A : Nat) (hA : A < 2 ^ m.length) (r : List Int) (hnext : ∀ x, Seen m A (2 ^ m.length) x → Ev (fun f => impl_InvariantFactors.l0 f m x (wrap64 ((A : Int) + 1))) r) :
    ∀ (d B : Nat) (x : List Int), B + d = 2 ^ m.length → Seen m A B x → Ev (fun f => impl_InvariantFactors.l1 f m x (A : Int) (colsR A 0 m.length) (B : Int)) r := by
  obtain ⟨h6, _⟩ := matB_facts hm
  have h64 : 2 ^ m.length ≤ 64 := by have := Nat.pow_le_pow_right (n := 2) (by decide) h6; simpa using this
  intro d
  induction d with
  | zero =>
    intro B x hB hs
    obtain rfl : B = 2 ^ m.length := by omega
    refine ev_succ ?_
    simp only [impl_InvariantFactors.l1, shl_nat m.length (by omega)]
    exact ev_ifn (by omega) (hnext x hs)
  | succ d ih =>
    intro B x hB hs
    have hbits := bitsOf_ev B (by omega)
    rw [cols6 m.length B h6 (by omega)] at hbits
    have hAl := colsR_len A 0 m.length
    obtain ⟨xl, xg⟩ := hs
    refine ev_succ ?_
    simp only [impl_InvariantFactors.l1, shl_nat m.length (by omega), wrap_succ (show B < 4611686018427387904 by omega), Int.toNat_natCast]
    refine ev_ift (by omega) (Ev.bind hbits ?_)
    by_cases c : (colsR B 0 m.length).length = (colsR A 0 m.length).length
    · have mR : ∀ r ∈ colsR A 0 m.length, 0 ≤ r ∧ r < (m.length : Int) := fun r hr => by have := colsR_mem hr; omega
      have mC : ∀ r ∈ colsR B 0 m.length, 0 ≤ r ∧ r < (m.length : Int) := fun r hr => by have := colsR_mem hr; omega
      have hdet := implDet_ev m m.length h6 rfl (fun r a b => rowLen hm r a b) (colsR A 0 m.length) B mR (by omega) (by omega)
      obtain ⟨_, hb⟩ := minorB hm c.symm (by omega) mR mC
      obtain ⟨g, g1, g2, g3⟩ := xg (colsR A 0 m.length).length hAl
      have hgcd := implGcd_ev (g : Int) (dF (rowX m) (colsR A 0 m.length) (colsR B 0 m.length)) (by omega) hb
      rw [Int.natAbs_natCast] at hgcd
      rw [g2]
      refine ev_ift (by omega) (ev_ift (by omega) (ev_ift (by omega) (Ev.bind hdet (Ev.bind hgcd ?_))))
      refine ih (B + 1) _ (by omega) ⟨by rw [List.length_set]; exact xl, fun k hk => ?_⟩
      by_cases ck : k = (colsR A 0 m.length).length
      · refine ⟨Nat.gcd g (dF (rowX m) (colsR A 0 m.length) (colsR B 0 m.length)).natAbs, gcd_lt g1 hb, by rw [rd_set _ _ _ _ (by omega), if_pos ck], fun d => ?_⟩
        rw [Nat.dvd_gcd_iff, g3]
        constructor
        · rintro ⟨p, q⟩ a b ha hb' hab la lb
          by_cases e : a = A ∧ b = B
          · obtain ⟨rfl, rfl⟩ := e; exact q
          · exact p a b ha hb' (by omega) (by omega) (by omega)
        · intro p
          exact ⟨fun a b ha hb' hab la lb => p a b ha hb' (by omega) (by omega) (by omega), p A B hA (by omega) (by omega) (by omega) (by omega)⟩
      · obtain ⟨g', p1, p2, p3⟩ := xg k hk
        refine ⟨g', p1, by rw [rd_set _ _ _ _ (by omega), if_neg ck]; exact p2, fun d => ?_⟩
        rw [p3]
        constructor
        · intro p a b ha hb' hab la lb
          by_cases e : a = A ∧ b = B
          · obtain ⟨rfl, rfl⟩ := e; omega
          · exact p a b ha hb' (by omega) la lb
        · intro p a b ha hb' hab la lb
          exact p a b ha hb' (by omega) la lb
    · refine ev_ifn (by omega) (ih (B + 1) x (by omega) ⟨xl, fun k hk => ?_⟩)
      obtain ⟨g', p1, p2, p3⟩ := xg k hk
      refine ⟨g', p1, p2, fun d => ?_⟩
      rw [p3]
      constructor
      · intro p a b ha hb' hab la lb
        by_cases e : a = A ∧ b = B
        · obtain ⟨rfl, rfl⟩ := e; omega
        · exact p a b ha hb' (by omega) la lb
      · intro p a b ha hb' hab la lb
        exact p a b ha hb' (by omega) la lb
theorem implInv2 (x : List Int) (xl : x.length = m.length + 1) (hx : ∀ k, k ≤ m.length → rd x (k : Int) = ((gk (rowX m) m.length k : Nat) : Int)) :
    ∀ (d k : Nat), k + d = m.length → Ev (fun f => impl_InvariantFactors.l2 f x ((ifL (rowX m) m.length).take k) (m.length : Int) (k : Int)) (ifL (rowX m) m.length) := by
  obtain ⟨h6, _⟩ := matB_facts hm
  intro d
  induction d with
  | zero =>
    intro k hk
    refine ev_succ ?_
    simp only [impl_InvariantFactors.l2]
    refine ev_ifn (by omega) ?_
    rw [List.take_of_length_le (by rw [ifL_len]; omega)]
    exact Ev.now _
  | succ d ih =>
    intro k hk
    have h1 := ih (k + 1) (by omega)
    have hlt := gk_lt hm (k + 1) (by omega)
    rw [ifL_get _ _ _ (by omega)] at h1
    have hlen : ((ifL (rowX m) m.length).take k).length < 17592186044416 := by rw [List.length_take, ifL_len]; omega
    refine ev_succ ?_
    simp only [impl_InvariantFactors.l2, wrap_succ (show k < 4611686018427387904 by omega), hx k (by omega), hx (k + 1) (by omega)]
    refine ev_ift (by omega) (ev_ift (by omega) (ev_ift (by omega) ?_))
    by_cases c1 : gk (rowX m) m.length (k + 1) = 0
    · rw [if_pos c1] at h1
      exact ev_ift (by omega) (ev_ift hlen h1)
    · rw [if_neg c1] at h1
      have c0 : gk (rowX m) m.length k ≠ 0 := fun h => c1 (gk_next h6 (by omega) h)
      rw [tdivN _ _ hlt]
      exact ev_ifn (by omega) (ev_ift (by omega) (ev_ift (by omega) (ev_ifn (by omega) (ev_ift hlen h1))))
theorem implInv0 : ∀ (d A : Nat) (x : List Int), A + d = 2 ^ m.length → Seen m A 0 x → Ev (fun f => impl_InvariantFactors.l0 f m x (A : Int)) (ifL (rowX m) m.length) := by
  obtain ⟨h6, _⟩ := matB_facts hm
  have h64 : 2 ^ m.length ≤ 64 := by have := Nat.pow_le_pow_right (n := 2) (by decide) h6; simpa using this
  intro d
  induction d with
  | zero =>
    intro A x hA hs
    obtain rfl : A = 2 ^ m.length := by omega
    obtain ⟨xl, xg⟩ := hs
    have hx : ∀ k, k ≤ m.length → rd x (k : Int) = ((gk (rowX m) m.length k : Nat) : Int) := by
      intro k hk
      obtain ⟨g, g1, g2, g3⟩ := xg k hk
      rw [g2]
      congr 1
      refine Nat.dvd_antisymm ((dvd_masks _ _ _ _ h6 (by omega)).2 fun a b ha hb la lb => (g3 g).1 (Nat.dvd_refl _) a b ha hb (by omega) la lb) ((g3 _).2 fun a b ha hb _ la lb => (dvd_masks _ _ _ _ h6 (by omega)).1 (Nat.dvd_refl _) a b ha hb la lb)
    have h2 := implInv2 hm x xl hx m.length 0 (by omega)
    refine ev_succ ?_
    simp only [impl_InvariantFactors.l0, shl_nat m.length (by omega)]
    exact ev_ifn (by omega) h2
  | succ d ih =>
    intro A x hA hs
    have hbits := bitsOf_ev A (by omega)
    rw [cols6 m.length A h6 (by omega)] at hbits
    have h1 := implInv1 hm A (by omega) _ (fun x' hs' => by
      rw [wrap_succ (show A < 4611686018427387904 by omega)]
      refine ih (A + 1) x' (by omega) ⟨hs'.1, fun k hk => ?_⟩
      obtain ⟨g, g1, g2, g3⟩ := hs'.2 k hk
      refine ⟨g, g1, g2, fun d => ?_⟩
      rw [g3]
      constructor
      · intro p a b ha hb hab la lb
        exact p a b ha hb (by omega) la lb
      · intro p a b ha hb hab la lb
        exact p a b ha hb (by omega) la lb) (2 ^ m.length) 0 x (by omega) hs
    refine ev_succ ?_
    simp only [impl_InvariantFactors.l0, shl_nat m.length (by omega)]
    exact ev_ift (by omega) (Ev.bind hbits h1)
theorem implInv_ev (hl : m.length < 4611686018427387904) (hr : ∀ r ∈ m, r.length < 4611686018427387904) : Ev (fun f => impl_InvariantFactors.f f m) (ifL (rowX m) m.length) := by
  obtain ⟨h6, _⟩ := matB_facts hm
  have h2 := implMat_ev m hl hr
  rw [hm] at h2
  simp only [impl_InvariantFactors.f]
  refine Ev.bind h2 (ev_ift rfl (ev_succ ?_))
  simp only [impl_InvariantFactors.j0]
  by_cases c : m.length = 0
  · have e : ifL (rowX m) m.length = [] := by rw [c]; rfl
    rw [e]
    exact ev_ift (by simp [c]) (Ev.now _)
  · have ew : wrap64 ((m.length : Int) + 1) = ((m.length + 1 : Nat) : Int) := by unfold wrap64; omega
    rw [ew]
    refine ev_ifn (by simpa using c) (ev_ift (by omega) (ev_ift (by omega) ?_))
    refine implInv0 hm (2 ^ m.length) 0 _ (by omega) ⟨by rw [Int.toNat_natCast, List.length_replicate], fun k hk => ⟨0, by omega, ?_, fun d => ⟨fun _ a b _ _ h => by omega, fun _ => Nat.dvd_zero _⟩⟩⟩
    unfold rd
    rw [Int.toNat_natCast, List.getD_eq_getElem?_getD, List.getElem?_replicate]
    split <;> rfl
end
end Go.Proofs.Ytplcclifmajcfaa.Pure
end
section
set_option linter.unusedVariables false
set_option linter.unusedSimpArgs false
namespace Go.Proofs.Ytplcclifmajcfaa.Pure
open Go.RowKit Go.Proofs.Ytplcclifmajcfaa.P Go.Proofs.YtplcclifmajcfaaW.PrintWords Go.Proofs.YtplcclifmajcfaaW.PrintLast Go.Proofs.YtplcclifmajcfaaW.PrintMore Go.Proofs.Ytplcclifmajcfaa.Base Go.Proofs.Ytplcclifmajcfaa.Trees Go.Proofs.Ytplcclifmajcfaa.Factors Go.Proofs.Ytplcclifmajcfaa.Smith Go.Proofs.Ytplcclifmajcfaa.Minor Go.Proofs.Ytplcclifmajcfaa.Det Go.Proofs.Ytplcclifmajcfaa.Reduce Go.Proofs.Ytplcclifmajcfaa.Loops Go.Proofs.Ytplcclifmajcfaa.Bits
theorem lapRow_at (n : Nat) (es : List S57) (h : GraphP n es) (v w : Nat) (hv : v < n) (hw : w < n) : (lapRow n es v).getD w 0 = la n (mE n es) v w := by
  obtain ⟨f1, f2, f3, f4⟩ := edgesB_facts h.1
  unfold lapRow la
  rw [getD_range _ _ _ hw]
  by_cases c : v = w
  · rw [if_pos c, if_pos c]
    exact val_sum n v hv es f4
  · rw [if_neg c, if_neg c]
    have h1 := multI_nonneg n es v w
    have h2 := (gr_of n es h).val v hv
    have h3 := sumN_one (f := mE n es v) (n := n) hw (fun i _ => (gr_of n es h).nonneg v i)
    have h4 : mE n es v w = multI n es v w := rfl
    rw [h4] at h3 ⊢
    unfold wrap64
    omega
theorem la_bound (n : Nat) (es : List S57) (h : GraphP n es) (v w : Nat) (hv : v < n) (hw : w < n) : -500 ≤ la n (mE n es) v w ∧ la n (mE n es) v w ≤ 500 := by
  have h2 := (gr_of n es h).val v hv
  have h3 := sumN_one (f := mE n es v) (n := n) hw (fun i _ => (gr_of n es h).nonneg v i)
  have h4 := (gr_of n es h).nonneg v w
  have h5 := sumN_nonneg (f := mE n es v) (n := n) (fun i _ => (gr_of n es h).nonneg v i)
  unfold la
  split <;> omega
theorem wt_of (n : Nat) (es : List S57) (h : GraphP n es) : Wt n (mE n es) := ⟨(gr_of n es h).nonneg, (gr_of n es h).self, (gr_of n es h).sym, (gr_of n es h).conn⟩
theorem rowX_of (m : Nat) (F : Nat → List Int) (g : Nat → Nat → Int) (hF : ∀ v, v < m → (F v).length = m ∧ ∀ w, w < m → (F v).getD w 0 = g v w) (v w : Nat) (hv : v < m) (hw : w < m) : rowX ((List.range m).map F) (v : Int) (w : Int) = g v w := by
  have e : rd_L4 ((List.range m).map F) (v : Int) = F v := by
    unfold rd_L4
    rw [Int.toNat_natCast, List.getD_eq_getElem?_getD, List.getElem?_map, List.getElem?_range hv]; rfl
  unfold rowX
  rw [e]
  unfold rd
  rw [Int.toNat_natCast]
  exact (hF v hv).2 w hw
theorem matB_of (m : Nat) (hm : m ≤ 6) (F : Nat → List Int) (g : Nat → Nat → Int) (hF : ∀ v, v < m → (F v).length = m ∧ ∀ w, w < m → (F v).getD w 0 = g v w) (hg : ∀ v w, v < m → w < m → -500 ≤ g v w ∧ g v w ≤ 500) : matB ((List.range m).map F) = true := by
  simp only [matB, rowB, allB, Bool.and_eq_true, decide_eq_true_eq, List.all_eq_true, List.length_map, List.length_range]
  refine ⟨hm, fun r hr => ?_⟩
  rw [List.mem_map] at hr
  obtain ⟨v, hv, rfl⟩ := hr
  rw [List.mem_range] at hv
  obtain ⟨h1, h2⟩ := hF v hv
  refine ⟨h1, fun x hx => ?_⟩
  obtain ⟨w, hw, rfl⟩ := List.mem_iff_getElem.1 hx
  have := h2 w (by omega)
  rw [List.getD_eq_getElem?_getD, List.getElem?_eq_getElem hw] at this
  have hb := hg v w hv (by omega)
  rw [← this] at hb
  exact hb
section
variable {n : Nat} {es : List S57} (h : GraphP n es)
include h
theorem lap_F (v : Nat) (hv : v < n) : (lapRow n es v).length = n ∧ ∀ w, w < n → (lapRow n es v).getD w 0 = la n (mE n es) v w := ⟨by simp [lapRow], fun w hw => lapRow_at n es h v w hv hw⟩
theorem lapX (v w : Nat) (hv : v < n) (hw : w < n) : rowX (lapM n es n) (v : Int) (w : Int) = la n (mE n es) v w := rowX_of n _ (la n (mE n es)) (lap_F h) v w hv hw
theorem lapB : matB (lapM n es n) = true := matB_of n (by have := edgesB_facts h.1; omega) _ (la n (mE n es)) (lap_F h) (fun v w hv hw => la_bound n es h v w hv hw)
end
theorem redFrom_drop : ∀ (xs : List (List Int)) (i : Nat), redFrom 0 (i + 1) xs = xs.map (List.drop 1) := by
  intro xs
  induction xs with
  | nil => intro i; rfl
  | cons x r ih =>
    intro i
    simp only [redFrom]
    rw [if_neg (by omega), ih]
    simp
theorem redM_eq (m : Nat) (es : List S57) : redFrom 0 0 (lapM (m + 1) es (m + 1)) = (List.range m).map fun v : Nat => (lapRow (m + 1) es (v + 1)).drop 1 := by
  unfold lapM
  rw [List.range_succ_eq_map]
  simp only [List.map_cons, redFrom, if_true]
  rw [redFrom_drop, List.map_map, List.map_map]
  rfl
section
variable {m : Nat} {es : List S57} (h : GraphP ((m + 1 : Nat) : Int) es)
include h
theorem red_F (v : Nat) (hv : v < m) : ((lapRow (m + 1) es (v + 1)).drop 1).length = m ∧ ∀ w, w < m → ((lapRow (m + 1) es (v + 1)).drop 1).getD w 0 = la (m + 1) (mE (m + 1) es) (v + 1) (w + 1) := by
  refine ⟨by simp [lapRow], fun w hw => ?_⟩
  rw [← lapRow_at (m + 1) es h (v + 1) (w + 1) (by omega) (by omega)]
  rw [List.getD_eq_getElem?_getD, List.getD_eq_getElem?_getD, List.getElem?_drop, Nat.add_comm 1 w]
theorem redX (v w : Nat) (hv : v < m) (hw : w < m) : rowX (redFrom 0 0 (lapM (m + 1) es (m + 1))) (v : Int) (w : Int) = la (m + 1) (mE (m + 1) es) (v + 1) (w + 1) := by
  rw [redM_eq]
  exact rowX_of m _ (fun v w => la (m + 1) (mE (m + 1) es) (v + 1) (w + 1)) (red_F h) v w hv hw
theorem redB : matB (redFrom 0 0 (lapM (m + 1) es (m + 1))) = true := by
  rw [redM_eq]
  exact matB_of m (by have := edgesB_facts h.1; omega) _ (fun v w => la (m + 1) (mE (m + 1) es) (v + 1) (w + 1)) (red_F h) (fun v w hv hw => la_bound (m + 1) es h (v + 1) (w + 1) (by omega) (by omega))
end
def rangeZ (n : Nat) : List Int := (List.range n).map fun i : Nat => (i : Int)
theorem sets_top (n : Nat) (hn : n ≤ 6) : setsL n n = [rangeZ n] := by
  have h : ∀ n : Fin 7, setsL n.val n.val = [rangeZ n.val] := by decide +kernel
  exact h ⟨n, by omega⟩
theorem gk_top (row : Int → Int → Int) (n : Nat) (hn : n ≤ 6) : gk row n n = (dF row (rangeZ n) (rangeZ n)).natAbs := by
  simp [gk, minors, sets_top n hn, gl]
theorem dFZ {M : List (List Int)} (hM : matB M = true) : ∀ k, k ≤ 6 → ∀ R ∈ setsL M.length k, ∀ C ∈ setsL M.length k, dF (rowX M) R C = dZ (rowX M) R C := by
  intro k hk R hR C hC
  obtain ⟨h6, _⟩ := matB_facts hM
  obtain ⟨_, f1, _⟩ := sets_facts M.length k h6 hk
  exact (minorB hM (by rw [(f1 R hR).1, (f1 C hC).1]) (by rw [(f1 R hR).1]; exact hk) (f1 R hR).2.1 (f1 C hC).2.1).1
theorem redPos (m : Nat) (h1 : 1 ≤ m) (h4 : m ≤ 4) (es : List S57) (h : GraphP ((m + 1 : Nat) : Int) es) : 0 < dZ (rowX (redFrom 0 0 (lapM (m + 1) es (m + 1)))) (rangeZ m) (rangeZ m) := by
  have W := wt_of (m + 1) es h
  have q := redX h
  generalize rowX (redFrom 0 0 (lapM (m + 1) es (m + 1))) = row at *
  generalize mE (m + 1) es = w at *
  clear h
  have c : m = 1 ∨ m = 2 ∨ m = 3 ∨ m = 4 := by omega
  rcases c with rfl | rfl | rfl | rfl
  · have e : rangeZ 1 = [0] := rfl
    rw [e, dZ1, show row 0 0 = la 2 w 1 1 from q 0 0 (by omega) (by omega)]
    exact pos2 W
  · have e : rangeZ 2 = [0, 1] := rfl
    rw [e, dZ2, show row 0 0 = la 3 w 1 1 from q 0 0 (by omega) (by omega), show row 0 1 = la 3 w 1 2 from q 0 1 (by omega) (by omega), show row 1 0 = la 3 w 2 1 from q 1 0 (by omega) (by omega), show row 1 1 = la 3 w 2 2 from q 1 1 (by omega) (by omega)]
    exact pos3 W
  · have e : rangeZ 3 = [0, 1, 2] := rfl
    rw [e, dZ3, show row 0 0 = la 4 w 1 1 from q 0 0 (by omega) (by omega), show row 0 1 = la 4 w 1 2 from q 0 1 (by omega) (by omega), show row 0 2 = la 4 w 1 3 from q 0 2 (by omega) (by omega),
      show row 1 0 = la 4 w 2 1 from q 1 0 (by omega) (by omega), show row 1 1 = la 4 w 2 2 from q 1 1 (by omega) (by omega), show row 1 2 = la 4 w 2 3 from q 1 2 (by omega) (by omega),
      show row 2 0 = la 4 w 3 1 from q 2 0 (by omega) (by omega), show row 2 1 = la 4 w 3 2 from q 2 1 (by omega) (by omega), show row 2 2 = la 4 w 3 3 from q 2 2 (by omega) (by omega)]
    exact pos4 W
  · have e : rangeZ 4 = [0, 1, 2, 3] := rfl
    rw [e, dZ4, show row 0 0 = la 5 w 1 1 from q 0 0 (by omega) (by omega), show row 0 1 = la 5 w 1 2 from q 0 1 (by omega) (by omega), show row 0 2 = la 5 w 1 3 from q 0 2 (by omega) (by omega), show row 0 3 = la 5 w 1 4 from q 0 3 (by omega) (by omega),
      show row 1 0 = la 5 w 2 1 from q 1 0 (by omega) (by omega), show row 1 1 = la 5 w 2 2 from q 1 1 (by omega) (by omega), show row 1 2 = la 5 w 2 3 from q 1 2 (by omega) (by omega), show row 1 3 = la 5 w 2 4 from q 1 3 (by omega) (by omega),
      show row 2 0 = la 5 w 3 1 from q 2 0 (by omega) (by omega), show row 2 1 = la 5 w 3 2 from q 2 1 (by omega) (by omega), show row 2 2 = la 5 w 3 3 from q 2 2 (by omega) (by omega), show row 2 3 = la 5 w 3 4 from q 2 3 (by omega) (by omega),
      show row 3 0 = la 5 w 4 1 from q 3 0 (by omega) (by omega), show row 3 1 = la 5 w 4 2 from q 3 1 (by omega) (by omega), show row 3 2 = la 5 w 4 3 from q 3 2 (by omega) (by omega), show row 3 3 = la 5 w 4 4 from q 3 3 (by omega) (by omega)]
    exact pos5 W
theorem lapZero (n : Nat) (h2 : 2 ≤ n) (h5 : n ≤ 5) (es : List S57) (h : GraphP (n : Int) es) : dZ (rowX (lapM n es n)) (rangeZ n) (rangeZ n) = 0 := by
  have W := wt_of n es h
  have q := lapX h
  generalize rowX (lapM n es n) = row at *
  generalize mE n es = w at *
  clear h
  have s := W.self
  have c : n = 2 ∨ n = 3 ∨ n = 4 ∨ n = 5 := by omega
  rcases c with rfl | rfl | rfl | rfl
  · refine zero2 row fun r r0 r1 => ?_
    obtain ⟨i, rfl⟩ := Int.eq_ofNat_of_zero_le r0
    have i1 : i < 2 := by omega
    rw [show row i 1 = la 2 w i 1 from q i 1 i1 (by omega), show row i 0 = la 2 w i 0 from q i 0 i1 (by omega)]
    have c : i = 0 ∨ i = 1 := by omega
    rcases c with rfl | rfl <;> simp [la, sumN, s]
  · refine zero3 row fun r r0 r1 => ?_
    obtain ⟨i, rfl⟩ := Int.eq_ofNat_of_zero_le r0
    have i1 : i < 3 := by omega
    rw [show row i 2 = la 3 w i 2 from q i 2 i1 (by omega), show row i 1 = la 3 w i 1 from q i 1 i1 (by omega), show row i 0 = la 3 w i 0 from q i 0 i1 (by omega)]
    have c : i = 0 ∨ i = 1 ∨ i = 2 := by omega
    rcases c with rfl | rfl | rfl <;> simp [la, sumN, s] <;> omega
  · refine zero4 row fun r r0 r1 => ?_
    obtain ⟨i, rfl⟩ := Int.eq_ofNat_of_zero_le r0
    have i1 : i < 4 := by omega
    rw [show row i 3 = la 4 w i 3 from q i 3 i1 (by omega), show row i 2 = la 4 w i 2 from q i 2 i1 (by omega), show row i 1 = la 4 w i 1 from q i 1 i1 (by omega), show row i 0 = la 4 w i 0 from q i 0 i1 (by omega)]
    have c : i = 0 ∨ i = 1 ∨ i = 2 ∨ i = 3 := by omega
    rcases c with rfl | rfl | rfl | rfl <;> simp [la, sumN, s] <;> omega
  · refine zero5 row fun r r0 r1 => ?_
    obtain ⟨i, rfl⟩ := Int.eq_ofNat_of_zero_le r0
    have i1 : i < 5 := by omega
    rw [show row i 4 = la 5 w i 4 from q i 4 i1 (by omega), show row i 3 = la 5 w i 3 from q i 3 i1 (by omega), show row i 2 = la 5 w i 2 from q i 2 i1 (by omega), show row i 1 = la 5 w i 1 from q i 1 i1 (by omega), show row i 0 = la 5 w i 0 from q i 0 i1 (by omega)]
    have c : i = 0 ∨ i = 1 ∨ i = 2 ∨ i = 3 ∨ i = 4 := by omega
    rcases c with rfl | rfl | rfl | rfl | rfl <;> simp [la, sumN, s] <;> omega
theorem ifL_fs (row : Int → Int → Int) (m : Nat) (hG : ∀ k, k ≤ m → gk row m k ≠ 0) : ifL row m = (fs (gk row m) m).map fun a : Nat => (a : Int) := by
  unfold ifL fs
  rw [List.map_map]
  refine List.map_congr_left fun k hk => ?_
  rw [List.mem_range] at hk
  simp only [Function.comp]
  rw [if_neg (hG (k + 1) (by omega))]
theorem factors_ex (m : Nat) (h1 : 1 ≤ m) (h4 : m ≤ 4) (es : List S57) (h : GraphP ((m + 1 : Nat) : Int) es) :
    ∃ l : List Nat, Ev (fun k => impl_InvariantFactors.f k (redFrom 0 0 (lapM (m + 1) es (m + 1)))) (l.map fun a : Nat => (a : Int)) ∧ l.Pairwise (· ∣ ·) ∧ (∀ a ∈ l, 0 < a) ∧
      ((prodN l : Nat) : Int) = dF (rowX (redFrom 0 0 (lapM (m + 1) es (m + 1)))) (rangeZ m) (rangeZ m) ∧ prodN l < 9223372036854775808 ∧ l.length = m := by
  have hB := redB h
  have hpos := redPos m h1 h4 es h
  have hlen : (redFrom 0 0 (lapM (m + 1) es (m + 1))).length = m := by rw [redM_eq]; simp
  generalize redFrom 0 0 (lapM (m + 1) es (m + 1)) = M at *
  have H := dFZ hB
  have hev := implInv_ev hB (by omega) (fun r hr => by have := (matB_facts hB).2 r hr; omega)
  have hlt := gk_lt hB m (by omega)
  rw [hlen] at H hev hlt
  have hdZ : dF (rowX M) (rangeZ m) (rangeZ m) = dZ (rowX M) (rangeZ m) (rangeZ m) := H m (by omega) _ (by rw [sets_top m (by omega)]; simp) _ (by rw [sets_top m (by omega)]; simp)
  have htop := gk_top (rowX M) m (by omega)
  rw [hdZ] at htop
  have hG : ∀ j, j ≤ m → gk (rowX M) m (m - j) ≠ 0 := by
    intro j
    induction j with
    | zero => intro _; rw [Nat.sub_zero, htop]; omega
    | succ j ih =>
      intro hj e
      have := gk_next (by omega) (by omega) e
      rw [show m - (j + 1) + 1 = m - j by omega] at this
      exact ih (by omega) this
  have hG' : ∀ k, k ≤ m → gk (rowX M) m k ≠ 0 := fun k hk => by
    have := hG (m - k) (by omega)
    rwa [show m - (m - k) = k by omega] at this
  have hd : ∀ k, k < m → gk (rowX M) m k ∣ gk (rowX M) m (k + 1) := fun k hk => gk_dvd (by omega) H k (by omega)
  have hc : ∀ k, k + 2 ≤ m → gk (rowX M) m (k + 1) * gk (rowX M) m (k + 1) ∣ gk (rowX M) m k * gk (rowX M) m (k + 2) := by
    intro k hk
    have c : k = 0 ∨ k = 1 ∨ k = 2 := by omega
    rcases c with rfl | rfl | rfl
    · rw [gk0, Nat.one_mul]
      exact chain1 (by omega) H
    · exact chain2 (by omega) H (hG' 1 (by omega))
    · obtain rfl : m = 4 := by omega
      exact chain3 H
  rw [ifL_fs _ _ hG'] at hev
  have hp := prod_fs (gk0 (rowX M) m) hG' hd m (Nat.le_refl _)
  refine ⟨fs (gk (rowX M) m) m, hev, fs_pair hG' hd hc m (Nat.le_refl _), fs_pos hG' hd m (Nat.le_refl _), ?_, by rw [hp]; exact hlt, fs_len _ _⟩
  rw [hp, htop, hdZ]
  omega
end Go.Proofs.Ytplcclifmajcfaa.Pure
end
section
set_option linter.unusedVariables false
set_option linter.unusedSimpArgs false
namespace Go.Proofs.Ytplcclifmajcfaa.Pure
open Go.RowKit Go.Proofs.Ytplcclifmajcfaa.P Go.Proofs.YtplcclifmajcfaaW.PrintWords Go.Proofs.YtplcclifmajcfaaW.PrintLast Go.Proofs.YtplcclifmajcfaaW.PrintMore Go.Proofs.Ytplcclifmajcfaa.Base Go.Proofs.Ytplcclifmajcfaa.Bits Go.Proofs.Ytplcclifmajcfaa.Loops
def ltE (y x : S57) : Prop := y.f0 < x.f0 ∨ (y.f0 = x.f0 ∧ y.f1 < x.f1)
instance (y x : S57) : Decidable (ltE y x) := by unfold ltE; infer_instance
def insE (e : S57) : List S57 → List S57
  | [] => [e]
  | x :: r => if ltE e x then e :: x :: r else x :: insE e r
theorem insE_mem (e x : S57) (es : List S57) : x ∈ insE e es ↔ x = e ∨ x ∈ es := by
  induction es with
  | nil => simp [insE]
  | cons y r ih =>
    simp only [insE]
    split
    · simp
    · simp only [List.mem_cons, ih]
      constructor
      · rintro (h | h | h)
        · exact Or.inr (Or.inl h)
        · exact Or.inl h
        · exact Or.inr (Or.inr h)
      · rintro (h | h | h)
        · exact Or.inr (Or.inl h)
        · exact Or.inl h
        · exact Or.inr (Or.inr h)
theorem insE_len (e : S57) (es : List S57) : (insE e es).length = es.length + 1 := by
  induction es with
  | nil => rfl
  | cons y r ih =>
    simp only [insE]
    split
    · simp
    · simp [ih]
theorem sorted_cons (x : S57) (r : List S57) : SortedE (x :: r) ↔ (∀ y, r.head? = some y → ¬ ltE y x) ∧ SortedE r := by
  constructor
  · intro h
    refine ⟨fun y hy => ?_, fun i hi => ?_⟩
    · cases r with
      | nil => cases hy
      | cons z t =>
        have := h 0 (by simp)
        simp only [List.head?_cons, Option.some.injEq] at hy
        subst hy
        exact this
    · exact h (i + 1) (by simp only [List.length_cons]; omega)
  · rintro ⟨h1, h2⟩ i hi
    cases i with
    | zero =>
      cases r with
      | nil => simp at hi
      | cons z t => exact h1 z rfl
    | succ i => exact h2 i (by simp only [List.length_cons] at hi; omega)
theorem insE_head (e : S57) (es : List S57) (y : S57) (h : (insE e es).head? = some y) : y = e ∨ es.head? = some y := by
  cases es with
  | nil => simp [insE] at h; exact Or.inl h.symm
  | cons x r =>
    simp only [insE] at h
    split at h
    · simp at h; exact Or.inl h.symm
    · simp at h; exact Or.inr (by simp [h])
theorem ltE_asymm {x y : S57} (h : ltE x y) : ¬ ltE y x := by unfold ltE at *; omega
theorem insE_sorted (e : S57) (es : List S57) (h : SortedE es) : SortedE (insE e es) := by
  induction es with
  | nil => intro i hi; simp [insE] at hi
  | cons x r ih =>
    have h' := (sorted_cons x r).1 h
    simp only [insE]
    split
    · rename_i c
      exact (sorted_cons e (x :: r)).2 ⟨fun y hy => by simp at hy; subst hy; exact ltE_asymm c, h⟩
    · rename_i c
      refine (sorted_cons x (insE e r)).2 ⟨fun y hy => ?_, ih h'.2⟩
      rcases insE_head e r y hy with rfl | hy
      · exact c
      · exact h'.1 y hy
theorem insE_graph {n : Int} {es : List S57} {e : S57} (h : GraphP n es) (hl : es.length ≠ 12) (he : 0 ≤ e.f0 ∧ e.f0 < e.f1 ∧ e.f1 < n) : GraphP n (insE e es) := by
  obtain ⟨f1, f2, f3, f4⟩ := edgesB_facts h.1
  refine ⟨?_, insE_sorted e es h.2.1, fun P h0 hP v hv hv' => h.2.2 P h0 (fun x hx => hP x ((insE_mem e x es).2 (Or.inr hx))) v hv hv'⟩
  simp only [edgesB, Bool.and_eq_true, decide_eq_true_eq, List.all_eq_true, insE_len]
  refine ⟨⟨⟨f1, f2⟩, by omega⟩, fun x hx => ?_⟩
  rcases (insE_mem e x es).1 hx with rfl | hx
  · exact ⟨⟨he.1, he.2.1⟩, he.2.2⟩
  · have := f4 x hx
    exact ⟨⟨this.1, this.2.1⟩, this.2.2⟩
theorem specIns_ev (n : Int) (es : List S57) (hl : es.length ≤ 100) (e0 e1 : Int) : Ev (fun k => spec_AddEdge.l0 k false es (es.length : Int) 0 e0 e1 n []) (n, insE ⟨e0, e1⟩ es, true) := by
  have done : ∀ (rest : List S57) (i : Nat) (acc : List S57), es.drop i = rest → i ≤ es.length → acc.length ≤ i + 1 → Ev (fun k => spec_AddEdge.l0 k true es (es.length : Int) (i : Int) e0 e1 n acc) (n, acc ++ rest, true) := by
    intro rest
    induction rest with
    | nil =>
      intro i acc hd hi ha
      have := drop_nil hd
      refine ev_succ ?_
      simp only [spec_AddEdge.l0, if_true, List.append_nil]
      exact ev_ifn (by omega) (Ev.now _)
    | cons x rest ih =>
      intro i acc hd hi ha
      have hlt := drop_lt hd
      have hx : rd_T57 es (i : Int) = x := by unfold rd_T57; rw [Int.toNat_natCast]; exact get_drop hd _
      have h1 := ih (i + 1) (acc ++ [x]) (drop_next hd) (by omega) (by simp; omega)
      rw [List.append_assoc, List.singleton_append] at h1
      refine ev_succ ?_
      simp only [spec_AddEdge.l0, if_true, hx]
      refine ev_ift (by omega) (ev_ift (by omega) (ev_ift (by omega) ?_))
      refine ev_succ ?_
      simp only [spec_AddEdge.j2, wrap_succ (show i < 4611686018427387904 by omega)]
      exact ev_iff (ev_ift (by omega) h1)
  have main : ∀ (rest : List S57) (i : Nat) (acc : List S57), es.drop i = rest → i ≤ es.length → acc.length ≤ i → Ev (fun k => spec_AddEdge.l0 k false es (es.length : Int) (i : Int) e0 e1 n acc) (n, acc ++ insE ⟨e0, e1⟩ rest, true) := by
    intro rest
    induction rest with
    | nil =>
      intro i acc hd hi ha
      have := drop_nil hd
      refine ev_succ ?_
      simp only [spec_AddEdge.l0, insE]
      exact ev_ifn (by omega) (ev_iff (ev_ift (by omega) (Ev.now _)))
    | cons x rest ih =>
      intro i acc hd hi ha
      have hlt := drop_lt hd
      have hx : rd_T57 es (i : Int) = x := by unfold rd_T57; rw [Int.toNat_natCast]; exact get_drop hd _
      refine ev_succ ?_
      simp only [spec_AddEdge.l0, hx]
      refine ev_ift (by omega) (ev_ift (by omega) (ev_ift (by omega) (ev_iff ?_)))
      have no : ¬ ltE ⟨e0, e1⟩ x → Ev (fun k => spec_AddEdge.j2 k false es (es.length : Int) (i : Int) false e0 e1 n acc x.f0 x.f1) (n, acc ++ insE ⟨e0, e1⟩ (x :: rest), true) := fun hc => by
        have h1 := ih (i + 1) (acc ++ [x]) (drop_next hd) (by omega) (by simp; omega)
        rw [List.append_assoc, List.singleton_append] at h1
        simp only [insE, if_neg hc]
        refine ev_succ ?_
        simp only [spec_AddEdge.j2, wrap_succ (show i < 4611686018427387904 by omega)]
        exact ev_iff (ev_ift (by omega) h1)
      have yes : ltE ⟨e0, e1⟩ x → Ev (fun k => spec_AddEdge.j2 k false es (es.length : Int) (i : Int) true e0 e1 n acc x.f0 x.f1) (n, acc ++ insE ⟨e0, e1⟩ (x :: rest), true) := fun hc => by
        have h1 := done rest (i + 1) (acc ++ [⟨e0, e1⟩] ++ [x]) (drop_next hd) (by omega) (by simp; omega)
        simp only [List.append_assoc, List.singleton_append] at h1
        simp only [insE, if_pos hc]
        refine ev_succ ?_
        simp only [spec_AddEdge.j2, wrap_succ (show i < 4611686018427387904 by omega), Option.bind_some, List.append_assoc, List.singleton_append]
        exact ev_ift trivial (ev_ift (by omega) (ev_ift (by simp; omega) h1))
      by_cases c1 : x.f0 > e0
      · exact ev_ift c1 (yes (Or.inl c1))
      · refine ev_ifn c1 ?_
        by_cases c2 : x.f0 = e0
        · refine ev_ift c2 ?_
          by_cases c3 : x.f1 > e1
          · rw [decide_eq_true c3]; exact yes (Or.inr ⟨c2.symm, c3⟩)
          · rw [decide_eq_false c3]; exact no (by rintro (h | h); exact c1 h; exact c3 h.2)
        · exact ev_ifn c2 (no (by rintro (h | h); exact c1 h; exact c2 h.1.symm))
  exact main es 0 [] (by simp) (by omega) (by simp)
theorem specAdd_ev (n : Int) (es : List S57) (a b : Int) (hl : es.length < 4611686018427387904) :
    (GraphP n es ∧ (0 ≤ a ∧ a < n) ∧ (0 ≤ b ∧ b < n) ∧ a ≠ b ∧ es.length ≠ 12 ∧ Ev (fun k => spec_AddEdge.f k n es a b) (n, insE ⟨mn a b, mx a b⟩ es, true) ∧ GraphP n (insE ⟨mn a b, mx a b⟩ es)) ∨
    (¬ (GraphP n es ∧ (0 ≤ a ∧ a < n) ∧ (0 ≤ b ∧ b < n) ∧ a ≠ b ∧ es.length ≠ 12) ∧ Ev (fun k => spec_AddEdge.f k n es a b) (0, [], false)) := by
  have hex : ∃ c : Bool, Ev (fun k => spec_GraphOk.f k n es) c ∧ (c = true ↔ GraphP n es) := by
    exact spec_graphOk_iff n es hl
  obtain ⟨g, h1, hg⟩ := hex
  have off : ∀ q : Bool, q = true → Ev (fun k => spec_AddEdge.j0 k a b q n es) (0, [], false) := fun q hq => ev_succ (by
    simp only [spec_AddEdge.j0]
    exact ev_ift hq (Ev.now _))
  simp only [spec_AddEdge.f, in_eq, Option.bind_some]
  cases g with
  | false => exact Or.inr ⟨(fun h => by have := hg.2 h.1; cases this), Ev.bind h1 (ev_iff (off _ rfl))⟩
  | true =>
    have hG := hg.1 rfl
    obtain ⟨f1, f2, f3, f4⟩ := edgesB_facts hG.1
    have ew : wrap64 (n - 1) = n - 1 := by unfold wrap64; omega
    rw [ew]
    by_cases ha : 0 ≤ a ∧ a ≤ n - 1
    · by_cases hb : 0 ≤ b ∧ b ≤ n - 1
      · rw [decide_eq_true ha, decide_eq_true hb]
        by_cases hab : a = b
        · exact Or.inr ⟨fun h => h.2.2.2.1 hab, Ev.bind h1 (ev_ift rfl (ev_ift rfl (ev_ift rfl (ev_ift hab (off _ rfl)))))⟩
        · by_cases h12 : es.length = 12
          · exact Or.inr ⟨fun h => h.2.2.2.2 h12, Ev.bind h1 (ev_ift rfl (ev_ift rfl (ev_ift rfl (ev_ifn hab (off _ (by simp [h12]))))))⟩
          · refine Or.inl ⟨hG, by omega, by omega, hab, h12, Ev.bind h1 (ev_ift rfl (ev_ift rfl (ev_ift rfl (ev_ifn hab (ev_succ ?_))))), insE_graph hG h12 ?_⟩
            · simp only [spec_AddEdge.j0]
              exact ev_ifn (by simp; omega) (specIns_ev n es (by omega) _ _)
            · show 0 ≤ mn a b ∧ mn a b < mx a b ∧ mx a b < n
              unfold mn mx
              omega
      · rw [decide_eq_true ha, decide_eq_false hb]
        exact Or.inr ⟨fun h => hb (by omega), Ev.bind h1 (ev_ift rfl (ev_ift rfl (ev_iff (off _ rfl))))⟩
    · rw [decide_eq_false ha]
      exact Or.inr ⟨fun h => ha (by omega), Ev.bind h1 (ev_ift rfl (ev_iff (off _ rfl)))⟩
end Go.Proofs.Ytplcclifmajcfaa.Pure
end
section
set_option linter.unusedVariables false
set_option linter.unusedSimpArgs false
namespace Go.Proofs.Ytplcclifmajcfaa.Pure
open Go.RowKit Go.Proofs.Ytplcclifmajcfaa.P Go.Proofs.YtplcclifmajcfaaW.PrintWords Go.Proofs.YtplcclifmajcfaaW.PrintLast Go.Proofs.YtplcclifmajcfaaW.PrintMore Go.Proofs.Ytplcclifmajcfaa.Base Go.Proofs.Ytplcclifmajcfaa.Loops
theorem and255 (y : Int) : 0 ≤ Go.bits .and .i64 y 255 ∧ Go.bits .and .i64 y 255 ≤ 255 := by
  unfold Go.bits
  dsimp only
  have h : (BitVec.ofInt IntKind.i64.bits y &&& BitVec.ofInt IntKind.i64.bits 255).toNat ≤ 255 := by
    rw [BitVec.toNat_and]
    exact Nat.le_trans Nat.and_le_right (by decide +kernel)
  rw [IntKind.wrap_i64]
  omega
theorem byte_ex (s : List Int) (hs : s.length < 4611686018427387904) (i h : Int) (hi : 0 ≤ i) : ∃ x i' h', spec_l01Byte.f s i h = some (x, i', h') ∧ 0 ≤ x ∧ x ≤ 255 ∧ 0 ≤ i' := by
  unfold spec_l01Byte.f
  by_cases c : i < (s.length : Int)
  · rw [if_pos c, if_pos hi]
    refine ⟨_, _, _, rfl, (and255 _).1, (and255 _).2, ?_⟩
    unfold wrap64; omega
  · rw [if_neg c]
    exact ⟨_, _, _, rfl, (and255 _).1, (and255 _).2, hi⟩
theorem below_ex (s : List Int) (hs : s.length < 4611686018427387904) (i h : Int) (hi : 0 ≤ i) (n : Int) (hn : 0 < n) (hn2 : n ≤ 256) : ∃ x i' h', spec_l01Below.f s i h n = some (x, i', h') ∧ 0 ≤ x ∧ x < n ∧ 0 ≤ i' := by
  obtain ⟨x, i', h', e, x0, _, hi'⟩ := byte_ex s hs i h hi
  unfold spec_l01Below.f
  rw [if_neg (by omega), if_pos hn2, e]
  simp only [Option.bind_some]
  rw [if_neg (by omega)]
  exact ⟨_, _, _, rfl, Int.tmod_nonneg _ x0, Int.tmod_lt_of_pos _ hn, hi'⟩
theorem new_ex (code : List Int) (hc : code.length < 4611686018427387904) : ∃ h, Ev (fun k => spec_l01New.f k code) (code, 0, h) := by
  have main : ∀ (d i : Nat) (h : Int), i + d = code.length → ∃ h', Ev (fun k => spec_l01New.l0 k code h (i : Int)) (code, 0, h') := by
    intro d
    induction d with
    | zero =>
      intro i h hi
      refine ⟨h, ev_succ ?_⟩
      simp only [spec_l01New.l0]
      exact ev_ifn (by omega) (Ev.now _)
    | succ d ih =>
      intro i h hi
      obtain ⟨h', hh⟩ := ih (i + 1) (Go.bits .and .i64 (wrap64 ((wrap64 ((wrap64 (h * 97)) + (wrap64 (rd code i)))) + 7)) 1073741823) (by omega)
      by_cases c : i < 4000
      · refine ⟨h', ev_succ ?_⟩
        simp only [spec_l01New.l0, wrap_succ (show i < 4611686018427387904 by omega)]
        exact ev_ift (by omega) (ev_ift (by omega) (ev_ift (by omega) hh))
      · refine ⟨h, ev_succ ?_⟩
        simp only [spec_l01New.l0]
        exact ev_ift (by omega) (ev_ifn (by omega) (Ev.now _))
  unfold spec_l01New.f
  exact main code.length 0 _ (by omega)
end Go.Proofs.Ytplcclifmajcfaa.Pure
end
