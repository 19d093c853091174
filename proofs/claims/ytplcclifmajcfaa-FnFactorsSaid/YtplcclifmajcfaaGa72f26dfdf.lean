/- Functions of the program as plain Lean functions and that the machine's calls answer as they do, the words of the print that these use, lemmas and plain proofs of laws. Put together by a program of this work that leaves out what nothing uses; Lean checks it. -/
import Derived.Test.YtplcclifmajcfaaG93f7dcd6b6
import Derived.Test.YtplcclifmajcfaaG0fda13519b
section
namespace Go.Proofs.Ytplcclifmajcfaa.P
open Go.RowKit Go.Proofs.YtplcclifmajcfaaW.PrintWords Go.Proofs.YtplcclifmajcfaaW.PrintLast Go.Proofs.YtplcclifmajcfaaW.PrintMore
attribute [local go_sem] max2_int min2_int max_two min_two max_three min_three max_four min_four
set_option linter.unusedVariables false
set_option linter.unusedSimpArgs false
mutual
def spec_l02Reach.l0 : Nat → List Int → Int → Int → List (S57) → Option (List Int)
 | 0, _, _, _, _ => none
 | k + 1, x3, x4, x140000, x140001 => if x4 < (x3.length : Int) then (spec_l02Reach.l1 k x3 x4 x140001 (x140001.length : Int) 0 x140000 x140001) else (some x3)
def spec_l02Reach.l1 : Nat → List Int → Int → List (S57) → Int → Int → Int → List (S57) → Option (List Int)
 | 0, _, _, _, _, _, _, _ => none
 | k + 1, x3, x4, x15, x16, x17, x140000, x140001 => if x17 < x16 then (if 0 ≤ x17 then (if x17 < (x15.length : Int) then (if 0 ≤ x4 then (if x4 < (x3.length : Int) then (if ((rd_T57 x15 x17).f0) = (rd x3 x4) then ((spec_l02Has.f k x3 ((rd_T57 x15 x17).f1)).bind fun t146 => (spec_l02Reach.j2 k x3 x4 x15 x16 x17 (!t146) x140000 x140001 ((rd_T57 x15 x17).f0) ((rd_T57 x15 x17).f1))) else (spec_l02Reach.j2 k x3 x4 x15 x16 x17 false x140000 x140001 ((rd_T57 x15 x17).f0) ((rd_T57 x15 x17).f1))) else (none)) else (none)) else (none)) else (none)) else (spec_l02Reach.l0 k x3 (wrap64 (x4 + 1)) x140000 x140001)
def spec_l02Reach.j2 : Nat → List Int → Int → List (S57) → Int → Int → Bool → Int → List (S57) → Int → Int → Option (List Int)
 | 0, _, _, _, _, _, _, _, _, _, _ => none
 | k + 1, x3, x4, x15, x16, x17, x34, x140000, x140001, x145000, x145001 => if x34 = true then (if x3.length < 17592186044416 then (spec_l02Reach.j3 k (x3 ++ [x145001]) x4 x15 x16 x17 x140000 x140001 x145000 x145001) else (none)) else (spec_l02Reach.j3 k x3 x4 x15 x16 x17 x140000 x140001 x145000 x145001)
def spec_l02Reach.j3 : Nat → List Int → Int → List (S57) → Int → Int → Int → List (S57) → Int → Int → Option (List Int)
 | 0, _, _, _, _, _, _, _, _, _ => none
 | k + 1, x3, x4, x15, x16, x17, x140000, x140001, x145000, x145001 => if 0 ≤ x4 then (if x4 < (x3.length : Int) then (if x145001 = (rd x3 x4) then ((spec_l02Has.f k x3 x145000).bind fun t151 => (if t151 = true then (spec_l02Reach.l1 k x3 x4 x15 x16 (wrap64 (x17 + 1)) x140000 x140001) else (if x3.length < 17592186044416 then (spec_l02Reach.l1 k (x3 ++ [x145000]) x4 x15 x16 (wrap64 (x17 + 1)) x140000 x140001) else (none)))) else (spec_l02Reach.l1 k x3 x4 x15 x16 (wrap64 (x17 + 1)) x140000 x140001)) else (none)) else (none)
end
def spec_l02Reach.f (k : Nat) (a0_0 : Int) (l0_1 : List (S57)) : Option (List Int) := spec_l02Reach.l0 k (([0] : List Int)) 0 a0_0 l0_1
set_option maxHeartbeats 8000000 in
set_option maxRecDepth 100000 in
theorem spec_l02Reach.calls (k : Nat) (a0_0 : Int) (A0_1 : Option Addr) (c0_1 : Nat) (l0_1 : List (S57)) (r : List Int) (w : World) (hr0_1 : Kd.C k57 w A0_1 l0_1.length l0_1) (hc0_1 : l0_1.length ≤ c0_1) (h : spec_l02Reach.f k a0_0 l0_1 = some r) :
  Calls Try.prog 81 #[.agg #[.int .i64 a0_0, .slice A0_1 l0_1.length c0_1]] w fun e w' => ∃ v0_ : Value, e = .returned (v0_) ∧ Kd.R (Kd.int .i64) 3 w' w.heap.size (fun _ => True) v0_ r ∧ Below w.heap.size w w' := by
 have hu30 := Try.underlying30
 have hu57 := Try.underlying57
 have HR0_1 := Aside0.mk hr0_1
 have HC0_1 := Aside0.mk hc0_1
 clear hr0_1 hc0_1
 have HB := Aside0.mk (Below.refl w.heap.size w)
 have H : (spec_l02Reach.l0 k (([0] : List Int)) 0 a0_0 l0_1) = some r := h
 clear h
 obtain ⟨y140, hy140⟩ : ∃ y_ : List Int, y_ = (([0] : List Int)) := ⟨_, rfl⟩
 replace H : (spec_l02Reach.l0 k y140 0 a0_0 l0_1) = some r := by first | (rw [hy140]; with_reducible exact H) | (have H2_ := (Option.bind_some _ _).symm.trans H; rw [hy140]; with_reducible exact H2_) | (have H2_ := (Option.bind_some _ _).symm.trans H; with_reducible exact H2_) | with_reducible exact H | (rw [hy140]; exact H) | exact H
 have Ny140 := Aside0.mk hy140
 clear hy140
 have H' := Aside0.mk H
 clear H
 go_enter Try.func81, Try.ntmps81
 go_wp2_with (first | ((with_reducible refine gate_dst (N := 1) rfl ?_); refine box_event ?hg (N := 1) ?hd (cs := #[.int .i64 a0_0, .slice A0_1 l0_1.length c0_1]) (t := 30) ?hr ?_; (case hd => rfl); (case hg => rfl); (case hr => first | (go_simp; done) | (go_simp; rfl)); intro gb139 hg w2 hbox hb; have BK139 := Aside0.mk (hbox); have GW139 := Aside0.mk ((by rw [hg]; exact (below_size (Lz HB)) : w.heap.size ≤ gb139)); have GE139 := Aside0.mk ((by rw [hg]; exact (below_size (Lz HB)) : w.heap.size ≤ gb139)); replace HB := Aside0.mk (below_step (Lz HB) hb); clear hb hbox hg) | ((with_reducible refine gate_dst (N := 7) rfl ?_); refine Kd.R_lit (Kd.int .i64) _ 3 ?hg (N := 7) ?hd (xs := ([0] : List Int)) (inner := [.int .i64 0]) (ok := fun _ => True) (okp := fun _ => True) ?hr ?hp (fun _ hk => hk) trivial (Below.refl _ _) (Nat.le_refl _) (by simp) ?_; (case hd => rfl); (case hg => rfl); (case hr => first | (go_simp; done) | (go_simp; rfl)); (case hp => exact (Reps.one (show Kd.M (Kd.int .i64) _ _ _ 0 [.int .i64 0] from rfl) (Reps.none _ _))); intro v141 w3 ho4 hb hg_ hnew_; clear hg_ hnew_; (first | rw [← Ny140.out] at ho4 | (simp only [Int.reduceToNat] at ho4; rw [← Ny140.out] at ho4)); have HO142 := Aside0.mk (Kd.R_lower ho4 (below_size (by exact Lz1 HB GE139))); replace BK139 := Aside0.mk (blk_below (g := gb139) (o := .cells #[.int .i64 a0_0, .slice A0_1 l0_1.length c0_1] 30 (0, 0)) (Bz BK139) hb); replace HB := Aside0.mk (below_step (by exact Lz1 HB GE139) hb); clear hb ho4))
 repeat (go_quiet (first | ((with_reducible refine gate_dst (N := 1) rfl ?_); refine box_event ?hg (N := 1) ?hd (cs := #[.int .i64 a0_0, .slice A0_1 l0_1.length c0_1]) (t := 30) ?hr ?_; (case hd => rfl); (case hg => rfl); (case hr => first | (go_simp; done) | (go_simp; rfl)); intro gb139 hg w2 hbox hb; have BK139 := Aside0.mk (hbox); have GW139 := Aside0.mk ((by rw [hg]; exact (below_size (Lz HB)) : w.heap.size ≤ gb139)); have GE139 := Aside0.mk ((by rw [hg]; exact (below_size (Lz HB)) : w.heap.size ≤ gb139)); replace HB := Aside0.mk (below_step (Lz HB) hb); clear hb hbox hg) | ((with_reducible refine gate_dst (N := 7) rfl ?_); refine Kd.R_lit (Kd.int .i64) _ 3 ?hg (N := 7) ?hd (xs := ([0] : List Int)) (inner := [.int .i64 0]) (ok := fun _ => True) (okp := fun _ => True) ?hr ?hp (fun _ hk => hk) trivial (Below.refl _ _) (Nat.le_refl _) (by simp) ?_; (case hd => rfl); (case hg => rfl); (case hr => first | (go_simp; done) | (go_simp; rfl)); (case hp => exact (Reps.one (show Kd.M (Kd.int .i64) _ _ _ 0 [.int .i64 0] from rfl) (Reps.none _ _))); intro v141 w3 ho4 hb hg_ hnew_; clear hg_ hnew_; (first | rw [← Ny140.out] at ho4 | (simp only [Int.reduceToNat] at ho4; rw [← Ny140.out] at ho4)); have HO142 := Aside0.mk (Kd.R_lower ho4 (below_size (by exact Lz1 HB GE139))); replace BK139 := Aside0.mk (blk_below (g := gb139) (o := .cells #[.int .i64 a0_0, .slice A0_1 l0_1.length c0_1] 30 (0, 0)) (Bz BK139) hb); replace HB := Aside0.mk (below_step (by exact Lz1 HB GE139) hb); clear hb ho4)); try go_wp2_with (first | ((with_reducible refine gate_dst (N := 1) rfl ?_); refine box_event ?hg (N := 1) ?hd (cs := #[.int .i64 a0_0, .slice A0_1 l0_1.length c0_1]) (t := 30) ?hr ?_; (case hd => rfl); (case hg => rfl); (case hr => first | (go_simp; done) | (go_simp; rfl)); intro gb139 hg w2 hbox hb; have BK139 := Aside0.mk (hbox); have GW139 := Aside0.mk ((by rw [hg]; exact (below_size (Lz HB)) : w.heap.size ≤ gb139)); have GE139 := Aside0.mk ((by rw [hg]; exact (below_size (Lz HB)) : w.heap.size ≤ gb139)); replace HB := Aside0.mk (below_step (Lz HB) hb); clear hb hbox hg) | ((with_reducible refine gate_dst (N := 7) rfl ?_); refine Kd.R_lit (Kd.int .i64) _ 3 ?hg (N := 7) ?hd (xs := ([0] : List Int)) (inner := [.int .i64 0]) (ok := fun _ => True) (okp := fun _ => True) ?hr ?hp (fun _ hk => hk) trivial (Below.refl _ _) (Nat.le_refl _) (by simp) ?_; (case hd => rfl); (case hg => rfl); (case hr => first | (go_simp; done) | (go_simp; rfl)); (case hp => exact (Reps.one (show Kd.M (Kd.int .i64) _ _ _ 0 [.int .i64 0] from rfl) (Reps.none _ _))); intro v141 w3 ho4 hb hg_ hnew_; clear hg_ hnew_; (first | rw [← Ny140.out] at ho4 | (simp only [Int.reduceToNat] at ho4; rw [← Ny140.out] at ho4)); have HO142 := Aside0.mk (Kd.R_lower ho4 (below_size (by exact Lz1 HB GE139))); replace BK139 := Aside0.mk (blk_below (g := gb139) (o := .cells #[.int .i64 a0_0, .slice A0_1 l0_1.length c0_1] 30 (0, 0)) (Bz BK139) hb); replace HB := Aside0.mk (below_step (by exact Lz1 HB GE139) hb); clear hb ho4)))
 go_loopg [3, 4] k (fun kq v3 v4 w' => ∃ (x3_1 : List Int) (x4_1 : Int), v4 = .int .i64 x4_1 ∧ Aside0 (spec_l02Reach.l0 kq x3_1 x4_1 a0_0 l0_1 = some r) ∧ Aside0 (kq ≤ k) ∧ Aside0 (Kd.R (Kd.int .i64) 3 w' w.heap.size (fun _ => True) v3 x3_1) ∧ Aside0 (w'.heap[gb139]? = some (.cells #[.int .i64 a0_0, (.slice A0_1 l0_1.length c0_1)] 30 (0, 0))) ∧ Aside0 (Below w.heap.size w w'))
 case atStart => exact ⟨(y140), (0), eqA, H', ⟨Nat.le_refl _⟩, ⟨by exact Rz HO142⟩, ⟨by exact Bz BK139⟩, ⟨by exact Lz1 HB GE139⟩⟩
 case round =>
  clear H'
  obtain ⟨x3_1, x4_1, rfl, HA, HK1, HO_3, BK139, HB⟩ := hrel
  cases gk with
  | zero => exact absurd HA.out (by simp [spec_l02Reach.l0])
  | succ k1 =>
   have H := HA.out
   clear HA
   simp only [spec_l02Reach.l0] at H
   by_cases c5 : x4_1 < (x3_1.length : Int)
   ·rw [if_pos c5] at H
    have c5b0 : decide (x4_1 < (x3_1.length : Int)) = true := decide_eq_true c5
    clear c5
    have H' := Aside0.mk H
    clear H
    obtain ⟨Ao6, co6, eo6⟩ := Kd.R_slice HO_3.out
    subst eo6
    have hcz7_0 : wr.cell? ⟨gb139, 0, none⟩ = some (.int .i64 a0_0) := (blk_cell BK139.out 0).trans rfl
    have hcz7_1 : wr.cell? ⟨gb139, 1, none⟩ = some (.slice A0_1 l0_1.length c0_1) := (blk_cell BK139.out 1).trans rfl
    have hfz7_0 := blk_frozen BK139.out 0
    have hfz7_1 := blk_frozen BK139.out 1
    go_wp2
    repeat (go_quiet (fail); try go_wp2)
    go_loopg [3, 17] k1 (fun kq v3 v17 w' => ∃ (x3_2 : List Int) (x17_2 : Int), v17 = .int .i64 x17_2 ∧ Aside0 (spec_l02Reach.l1 kq x3_2 x4_1 l0_1 (l0_1.length : Int) x17_2 a0_0 l0_1 = some r) ∧ Aside0 (kq ≤ k1) ∧ Aside0 (Kd.R (Kd.int .i64) 3 w' w.heap.size (fun _ => True) v3 x3_2) ∧ Aside0 (w'.heap[gb139]? = some (.cells #[.int .i64 a0_0, (.slice A0_1 l0_1.length c0_1)] 30 (0, 0))) ∧ Aside0 (Below w.heap.size w w'))
    case atStart => exact ⟨(x3_1), (0), eqA, H', ⟨Nat.le_refl _⟩, ⟨by exact Rz HO_3⟩, ⟨by exact Bz BK139⟩, ⟨by exact Lz1 HB GE139⟩⟩
    case round =>
     clear H'
     try clear c5
     try clear c5b0
     obtain ⟨x3_2, x17_2, rfl, HA, HK2, HO_3, BK139, HB⟩ := hrel
     cases gk with
     | zero => exact absurd HA.out (by simp [spec_l02Reach.l1])
     | succ k2 =>
      have H := HA.out
      clear HA
      simp only [spec_l02Reach.l1] at H
      by_cases c8 : x17_2 < (l0_1.length : Int)
      ·rw [if_pos c8] at H
       have c8b0 : decide (x17_2 < (l0_1.length : Int)) = true := decide_eq_true c8
       clear c8
       by_cases c9 : 0 ≤ x17_2
       ·rw [if_pos c9] at H
        have c9b0 : decide (0 ≤ x17_2) = true := decide_eq_true c9
        clear c9
        by_cases c10 : x17_2 < (l0_1.length : Int)
        ·rw [if_pos c10] at H
         have c10b0 : decide (x17_2 < (l0_1.length : Int)) = true := decide_eq_true c10
         clear c10
         have HC11 := Aside0.mk H
         clear H
         have p143 : 0 ≤ (x17_2 : Int) := ofA
         have q143 : x17_2 < (l0_1.length : Int) := ofA
         obtain ⟨ad143, e143, hx143_0, hx143_1⟩ := at_T57 HR0_1.out x17_2 p143 q143
         cases e143
         replace hx143_0 := (HB.out.cell (World.block_lt_of_cell? w _ hx143_0)).trans hx143_0
         replace hx143_1 := (HB.out.cell (World.block_lt_of_cell? w _ hx143_1)).trans hx143_1
         replace p143 := eq_true p143
         replace q143 := eq_true q143
         go_upto_region 8 with (first | ((with_reducible refine gate_dst (N := 6) rfl ?_); refine box_event ?hg (N := 6) ?hd (cs := #[.int .i64 0, .int .i64 0]) (t := 57) ?hr ?_; (case hd => rfl); (case hg => rfl); (case hr => first | (go_simp; done) | (go_simp; rfl)); intro gb144 hg w12 hbox hb; replace HO_3 := Aside0.mk (Kd.R_below (Rz HO_3) hb); have BK144 := Aside0.mk (hbox); have GW144 := Aside0.mk ((by rw [hg]; exact (below_size (by exact Lz1 HB GE139)) : w.heap.size ≤ gb144)); have GE144 := Aside0.mk ((by rw [hg]; exact (below_size (by exact Lz1 HB GE139)) : w.heap.size ≤ gb144)); replace HB := Aside0.mk (below_step (by exact Lz1 HB GE139) hb); have NB139_144 := Aside0.mk ((by rw [hg]; exact Nat.ne_of_lt (blk_lt (g := gb139) (o := .cells #[.int .i64 a0_0, .slice (some ad143) l0_1.length c0_1] 30 (0, 0)) (Bz BK139)) : gb139 ≠ gb144)); have NB144_139 := Aside0.mk ((by rw [hg]; exact Nat.ne_of_gt (blk_lt (g := gb139) (o := .cells #[.int .i64 a0_0, .slice (some ad143) l0_1.length c0_1] 30 (0, 0)) (Bz BK139)) : gb144 ≠ gb139)); replace BK139 := Aside0.mk (blk_below (g := gb139) (o := .cells #[.int .i64 a0_0, .slice (some ad143) l0_1.length c0_1] 30 (0, 0)) (Bz BK139) hb); clear hb hbox hg; have hnb13 := NB144_139.out; have hnc13 := NB139_144.out; have hcz14_0 : w12.cell? ⟨gb144, 0, none⟩ = some (.int .i64 0) := (blk_cell BK144.out 0).trans rfl; have hcz14_1 : w12.cell? ⟨gb144, 1, none⟩ = some (.int .i64 0) := (blk_cell BK144.out 1).trans rfl; have hfz14_0 := blk_frozen BK144.out 0; have hfz14_1 := blk_frozen BK144.out 1))
         repeat (go_quiet (first | ((with_reducible refine gate_dst (N := 6) rfl ?_); refine box_event ?hg (N := 6) ?hd (cs := #[.int .i64 0, .int .i64 0]) (t := 57) ?hr ?_; (case hd => rfl); (case hg => rfl); (case hr => first | (go_simp; done) | (go_simp; rfl)); intro gb144 hg w12 hbox hb; replace HO_3 := Aside0.mk (Kd.R_below (Rz HO_3) hb); have BK144 := Aside0.mk (hbox); have GW144 := Aside0.mk ((by rw [hg]; exact (below_size (by exact Lz1 HB GE139)) : w.heap.size ≤ gb144)); have GE144 := Aside0.mk ((by rw [hg]; exact (below_size (by exact Lz1 HB GE139)) : w.heap.size ≤ gb144)); replace HB := Aside0.mk (below_step (by exact Lz1 HB GE139) hb); have NB139_144 := Aside0.mk ((by rw [hg]; exact Nat.ne_of_lt (blk_lt (g := gb139) (o := .cells #[.int .i64 a0_0, .slice (some ad143) l0_1.length c0_1] 30 (0, 0)) (Bz BK139)) : gb139 ≠ gb144)); have NB144_139 := Aside0.mk ((by rw [hg]; exact Nat.ne_of_gt (blk_lt (g := gb139) (o := .cells #[.int .i64 a0_0, .slice (some ad143) l0_1.length c0_1] 30 (0, 0)) (Bz BK139)) : gb144 ≠ gb139)); replace BK139 := Aside0.mk (blk_below (g := gb139) (o := .cells #[.int .i64 a0_0, .slice (some ad143) l0_1.length c0_1] 30 (0, 0)) (Bz BK139) hb); clear hb hbox hg; have hnb13 := NB144_139.out; have hnc13 := NB139_144.out; have hcz14_0 : w12.cell? ⟨gb144, 0, none⟩ = some (.int .i64 0) := (blk_cell BK144.out 0).trans rfl; have hcz14_1 : w12.cell? ⟨gb144, 1, none⟩ = some (.int .i64 0) := (blk_cell BK144.out 1).trans rfl; have hfz14_0 := blk_frozen BK144.out 0; have hfz14_1 := blk_frozen BK144.out 1)); go_upto_region 8 with (first | ((with_reducible refine gate_dst (N := 6) rfl ?_); refine box_event ?hg (N := 6) ?hd (cs := #[.int .i64 0, .int .i64 0]) (t := 57) ?hr ?_; (case hd => rfl); (case hg => rfl); (case hr => first | (go_simp; done) | (go_simp; rfl)); intro gb144 hg w12 hbox hb; replace HO_3 := Aside0.mk (Kd.R_below (Rz HO_3) hb); have BK144 := Aside0.mk (hbox); have GW144 := Aside0.mk ((by rw [hg]; exact (below_size (by exact Lz1 HB GE139)) : w.heap.size ≤ gb144)); have GE144 := Aside0.mk ((by rw [hg]; exact (below_size (by exact Lz1 HB GE139)) : w.heap.size ≤ gb144)); replace HB := Aside0.mk (below_step (by exact Lz1 HB GE139) hb); have NB139_144 := Aside0.mk ((by rw [hg]; exact Nat.ne_of_lt (blk_lt (g := gb139) (o := .cells #[.int .i64 a0_0, .slice (some ad143) l0_1.length c0_1] 30 (0, 0)) (Bz BK139)) : gb139 ≠ gb144)); have NB144_139 := Aside0.mk ((by rw [hg]; exact Nat.ne_of_gt (blk_lt (g := gb139) (o := .cells #[.int .i64 a0_0, .slice (some ad143) l0_1.length c0_1] 30 (0, 0)) (Bz BK139)) : gb144 ≠ gb139)); replace BK139 := Aside0.mk (blk_below (g := gb139) (o := .cells #[.int .i64 a0_0, .slice (some ad143) l0_1.length c0_1] 30 (0, 0)) (Bz BK139) hb); clear hb hbox hg; have hnb13 := NB144_139.out; have hnc13 := NB139_144.out; have hcz14_0 : w12.cell? ⟨gb144, 0, none⟩ = some (.int .i64 0) := (blk_cell BK144.out 0).trans rfl; have hcz14_1 : w12.cell? ⟨gb144, 1, none⟩ = some (.int .i64 0) := (blk_cell BK144.out 1).trans rfl; have hfz14_0 := blk_frozen BK144.out 0; have hfz14_1 := blk_frozen BK144.out 1)))
         (try simp only [Act.put, List.setIfInBounds_toArray, List.set_cons_zero, List.set_cons_succ])
         go_cut [34] (fun v34 wc => ∃ (kq : Nat) (x34_10 : Bool), v34 = .bool x34_10 ∧ Aside0 (spec_l02Reach.j2 kq x3_2 x4_1 l0_1 (l0_1.length : Int) x17_2 x34_10 a0_0 l0_1 ((rd_T57 l0_1 x17_2).f0) ((rd_T57 l0_1 x17_2).f1) = some r) ∧ Aside0 (kq ≤ k2) ∧ Aside0 (Kd.R (Kd.int .i64) 3 wc w.heap.size (fun _ => True) u3 x3_2) ∧ Aside0 (wc.heap[gb139]? = some (.cells #[.int .i64 a0_0, (.slice (some ad143) l0_1.length c0_1)] 30 (0, 0))) ∧ Aside0 (wc.heap[gb144]? = some (.cells #[.int .i64 ((rd_T57 l0_1 x17_2).f0), .int .i64 ((rd_T57 l0_1 x17_2).f1)] 57 (0, 0))) ∧ Aside0 (Below w.heap.size w wc))
         case first =>
          have H := HC11.out
          clear HC11
          by_cases c15 : 0 ≤ x4_1
          ·rw [if_pos c15] at H
           have c15b0 : decide (0 ≤ x4_1) = true := decide_eq_true c15
           clear c15
           (first | rw [c15b0] | (simp only [i64_w, i32_w]; rw [c15b0]) | skip)
           by_cases c16 : x4_1 < (x3_2.length : Int)
           ·rw [if_pos c16] at H
            have c16b0 : decide (x4_1 < (x3_2.length : Int)) = true := decide_eq_true c16
            clear c16
            by_cases c17 : ((rd_T57 l0_1 x17_2).f0) = (rd x3_2 x4_1)
            ·rw [if_pos c17] at H
             have c17b0 : (((rd_T57 l0_1 x17_2).f0) == (rd x3_2 x4_1)) = true := beq_iff_eq.mpr c17
             have c17b1 : (((rd_T57 l0_1 x17_2).f0) != (rd x3_2 x4_1)) = false := bne_eq_false_iff_eq.mpr c17
             clear c17
             replace H := Option.bind_eq_some_iff.mp H
             obtain ⟨t146, A180, H⟩ := H
             replace H : (spec_l02Reach.j2 k2 x3_2 x4_1 l0_1 (l0_1.length : Int) x17_2 (!t146) a0_0 l0_1 ((rd_T57 l0_1 x17_2).f0) ((rd_T57 l0_1 x17_2).f1)) = some r := H
             have A18 := Aside0.mk A180
             clear A180
             have H' := Aside0.mk H
             clear H
             have hnb19 := NB144_139.out
             have hnc19 := NB139_144.out
             have hcz20_0 : w12.cell? ⟨gb144, 0, none⟩ = some (.int .i64 0) := (blk_cell BK144.out 0).trans rfl
             have hcz20_1 : w12.cell? ⟨gb144, 1, none⟩ = some (.int .i64 0) := (blk_cell BK144.out 1).trans rfl
             have hfz20_0 := blk_frozen BK144.out 0
             have hfz20_1 := blk_frozen BK144.out 1
             obtain ⟨Ao21, co21, eo21⟩ := Kd.R_slice HO_3.out
             subst eo21
             have p145 : 0 ≤ (x4_1 : Int) := ofA
             have q145 : x4_1 < (x3_2.length : Int) := ofA
             obtain ⟨ad145, e145, hx145_0⟩ := Kd.at_int (Kd.R_reads' HO_3.out).2.2 x4_1 p145 q145
             cases e145
             have hn145_0 : ad145.block ≠ gb144 := Kd.own_blk (Kd.R_ne HO_3.out BK144.out (by decide))
             have hn145_1 : ad145.block ≠ gb144 := Kd.own_blk (Kd.R_ne HO_3.out BK144.out (by decide))
             replace hx145_0 := (cell_far (p := ⟨gb144, 0, none⟩) (by first | (rw [add_block]; exact hn145_0) | (show (Addr.add _ _).block ≠ _; rw [add_block]; exact hn145_0) | exact hn145_0) (.int .i64 ((rd_T57 l0_1 x17_2).f0))).trans hx145_0
             replace hx145_0 := (cell_far (p := ⟨gb144, 1, none⟩) (by first | (rw [add_block]; exact hn145_1) | (show (Addr.add _ _).block ≠ _; rw [add_block]; exact hn145_1) | exact hn145_1) (.int .i64 ((rd_T57 l0_1 x17_2).f1))).trans hx145_0
             (try have hy145_0 := fun (n_ : Nat) => (show ((((w12.drewN n_).setCell ⟨gb144, 0, none⟩ (.int .i64 ((rd_T57 l0_1 x17_2).f0))).setCell ⟨gb144, 1, none⟩ (.int .i64 ((rd_T57 l0_1 x17_2).f1)))).cell? _ = some _ from hx145_0))
             clear hn145_0
             clear hn145_1
             replace p145 := eq_true p145
             replace q145 := eq_true q145
             go_wp2_with (first | (go_at_call 92; (with_reducible refine (spec_l02Has.calls k2 _ _ x3_2 ((rd_T57 l0_1 x17_2).f1) t146 _ ?side1 ?side2 A18.out).mono ?_); (case side1 => refine (Kd.R_reads' (e := 3) (base := w.heap.size) (ok := fun k_ => True) (n := x3_2.length) (c := co21) ?_).2.2; exact (by (with_reducible repeat (first | apply Kd.R_alloc | apply Kd.R_drewN | apply Kd.R_drew)); exact (Kd.R_mono (Kd.R_far (p := ⟨gb144, 1, none⟩) (Kd.R_far (p := ⟨gb144, 0, none⟩) (Kd.R_types HO_3.out BK144.out (by decide)) (fun _ hk => hk.2) (.int .i64 ((rd_T57 l0_1 x17_2).f0))) (fun _ hk => hk.2) (.int .i64 ((rd_T57 l0_1 x17_2).f1))) (fun _ h_ => h_.1)))); (case side2 => exact (Kd.R_reads' HO_3.out).2.1); rintro e w' ⟨rfl, ⟨nd, rfl⟩⟩; (try first | exact ⟨rfl, _, World.drewN_drewN _ _ _⟩ | exact ⟨rfl, _, Eq.trans (World.drewN_drewN _ _ _) (congrArg (World.drewN _) (Nat.add_assoc _ _ _))⟩)))
             repeat (go_quiet (first | (go_at_call 92; (with_reducible refine (spec_l02Has.calls k2 _ _ x3_2 ((rd_T57 l0_1 x17_2).f1) t146 _ ?side1 ?side2 A18.out).mono ?_); (case side1 => refine (Kd.R_reads' (e := 3) (base := w.heap.size) (ok := fun k_ => True) (n := x3_2.length) (c := co21) ?_).2.2; exact (by (with_reducible repeat (first | apply Kd.R_alloc | apply Kd.R_drewN | apply Kd.R_drew)); exact (Kd.R_mono (Kd.R_far (p := ⟨gb144, 1, none⟩) (Kd.R_far (p := ⟨gb144, 0, none⟩) (Kd.R_types HO_3.out BK144.out (by decide)) (fun _ hk => hk.2) (.int .i64 ((rd_T57 l0_1 x17_2).f0))) (fun _ hk => hk.2) (.int .i64 ((rd_T57 l0_1 x17_2).f1))) (fun _ h_ => h_.1)))); (case side2 => exact (Kd.R_reads' HO_3.out).2.1); rintro e w' ⟨rfl, ⟨nd, rfl⟩⟩; (try first | exact ⟨rfl, _, World.drewN_drewN _ _ _⟩ | exact ⟨rfl, _, Eq.trans (World.drewN_drewN _ _ _) (congrArg (World.drewN _) (Nat.add_assoc _ _ _))⟩))); try go_wp2_with (first | (go_at_call 92; (with_reducible refine (spec_l02Has.calls k2 _ _ x3_2 ((rd_T57 l0_1 x17_2).f1) t146 _ ?side1 ?side2 A18.out).mono ?_); (case side1 => refine (Kd.R_reads' (e := 3) (base := w.heap.size) (ok := fun k_ => True) (n := x3_2.length) (c := co21) ?_).2.2; exact (by (with_reducible repeat (first | apply Kd.R_alloc | apply Kd.R_drewN | apply Kd.R_drew)); exact (Kd.R_mono (Kd.R_far (p := ⟨gb144, 1, none⟩) (Kd.R_far (p := ⟨gb144, 0, none⟩) (Kd.R_types HO_3.out BK144.out (by decide)) (fun _ hk => hk.2) (.int .i64 ((rd_T57 l0_1 x17_2).f0))) (fun _ hk => hk.2) (.int .i64 ((rd_T57 l0_1 x17_2).f1))) (fun _ h_ => h_.1)))); (case side2 => exact (Kd.R_reads' HO_3.out).2.1); rintro e w' ⟨rfl, ⟨nd, rfl⟩⟩; (try first | exact ⟨rfl, _, World.drewN_drewN _ _ _⟩ | exact ⟨rfl, _, Eq.trans (World.drewN_drewN _ _ _) (congrArg (World.drewN _) (Nat.add_assoc _ _ _))⟩))))
             go_meet
             case rel => exact ⟨_, (!t146), eqA, H', ⟨by have := HK1.out; have := HK2.out; first | omega | exact Nat.le_refl _⟩, ⟨by (with_reducible repeat (first | apply Kd.R_alloc | apply Kd.R_drewN | apply Kd.R_drew)); exact Kd.R_mono (Kd.R_far (p := ⟨gb144, 1, none⟩) (Kd.R_far (p := ⟨gb144, 0, none⟩) (Kd.R_types HO_3.out BK144.out (by decide)) (fun _ hk => hk.2) (.int .i64 ((rd_T57 l0_1 x17_2).f0))) (fun _ hk => hk.2) (.int .i64 ((rd_T57 l0_1 x17_2).f1))) (fun _ hk => trivial)⟩, ⟨by (with_reducible repeat (first | refine blk_drewN ?_ _ | refine blk_drew ?_ | refine blk_alloc ?_ _)); refine blk_far ?_ NB139_144.out _; (with_reducible repeat (first | refine blk_drewN ?_ _ | refine blk_drew ?_ | refine blk_alloc ?_ _)); refine blk_far ?_ NB139_144.out _; exact Bz BK139⟩, ⟨by (with_reducible repeat (first | refine blk_drewN ?_ _ | refine blk_drew ?_ | refine blk_alloc ?_ _)); refine blk_put (cs := #[.int .i64 ((rd_T57 l0_1 x17_2).f0), .int .i64 0]) ?_ 1 _ rfl; (with_reducible repeat (first | refine blk_drewN ?_ _ | refine blk_drew ?_ | refine blk_alloc ?_ _)); refine blk_put (cs := #[.int .i64 0, .int .i64 0]) ?_ 0 _ rfl; exact Bz BK144⟩, ⟨by exact Lz2 HB GE139 GE144⟩⟩
            rw [if_neg c17] at H
            have c17b0 : (((rd_T57 l0_1 x17_2).f0) == (rd x3_2 x4_1)) = false := beq_eq_false_iff_ne.mpr c17
            have c17b1 : (((rd_T57 l0_1 x17_2).f0) != (rd x3_2 x4_1)) = true := bne_iff_ne.mpr c17
            have H' := Aside0.mk H
            clear H
            have hnb22 := NB144_139.out
            have hnc22 := NB139_144.out
            have hcz23_0 : w12.cell? ⟨gb144, 0, none⟩ = some (.int .i64 0) := (blk_cell BK144.out 0).trans rfl
            have hcz23_1 : w12.cell? ⟨gb144, 1, none⟩ = some (.int .i64 0) := (blk_cell BK144.out 1).trans rfl
            have hfz23_0 := blk_frozen BK144.out 0
            have hfz23_1 := blk_frozen BK144.out 1
            obtain ⟨Ao24, co24, eo24⟩ := Kd.R_slice HO_3.out
            subst eo24
            have p145 : 0 ≤ (x4_1 : Int) := ofA
            have q145 : x4_1 < (x3_2.length : Int) := ofA
            obtain ⟨ad145, e145, hx145_0⟩ := Kd.at_int (Kd.R_reads' HO_3.out).2.2 x4_1 p145 q145
            cases e145
            have hn145_0 : ad145.block ≠ gb144 := Kd.own_blk (Kd.R_ne HO_3.out BK144.out (by decide))
            have hn145_1 : ad145.block ≠ gb144 := Kd.own_blk (Kd.R_ne HO_3.out BK144.out (by decide))
            replace hx145_0 := (cell_far (p := ⟨gb144, 0, none⟩) (by first | (rw [add_block]; exact hn145_0) | (show (Addr.add _ _).block ≠ _; rw [add_block]; exact hn145_0) | exact hn145_0) (.int .i64 ((rd_T57 l0_1 x17_2).f0))).trans hx145_0
            replace hx145_0 := (cell_far (p := ⟨gb144, 1, none⟩) (by first | (rw [add_block]; exact hn145_1) | (show (Addr.add _ _).block ≠ _; rw [add_block]; exact hn145_1) | exact hn145_1) (.int .i64 ((rd_T57 l0_1 x17_2).f1))).trans hx145_0
            (try have hy145_0 := fun (n_ : Nat) => (show ((((w12.drewN n_).setCell ⟨gb144, 0, none⟩ (.int .i64 ((rd_T57 l0_1 x17_2).f0))).setCell ⟨gb144, 1, none⟩ (.int .i64 ((rd_T57 l0_1 x17_2).f1)))).cell? _ = some _ from hx145_0))
            clear hn145_0
            clear hn145_1
            replace p145 := eq_true p145
            replace q145 := eq_true q145
            go_wp2
            repeat (go_quiet (fail); try go_wp2)
            go_meet
            case rel => exact ⟨_, (false), eqA, H', ⟨by have := HK1.out; have := HK2.out; first | omega | exact Nat.le_refl _⟩, ⟨by (with_reducible repeat (first | apply Kd.R_alloc | apply Kd.R_drewN | apply Kd.R_drew)); exact Kd.R_mono (Kd.R_far (p := ⟨gb144, 1, none⟩) (Kd.R_far (p := ⟨gb144, 0, none⟩) (Kd.R_types HO_3.out BK144.out (by decide)) (fun _ hk => hk.2) (.int .i64 ((rd_T57 l0_1 x17_2).f0))) (fun _ hk => hk.2) (.int .i64 ((rd_T57 l0_1 x17_2).f1))) (fun _ hk => trivial)⟩, ⟨by (with_reducible repeat (first | refine blk_drewN ?_ _ | refine blk_drew ?_ | refine blk_alloc ?_ _)); refine blk_far ?_ NB139_144.out _; (with_reducible repeat (first | refine blk_drewN ?_ _ | refine blk_drew ?_ | refine blk_alloc ?_ _)); refine blk_far ?_ NB139_144.out _; exact Bz BK139⟩, ⟨by (with_reducible repeat (first | refine blk_drewN ?_ _ | refine blk_drew ?_ | refine blk_alloc ?_ _)); refine blk_put (cs := #[.int .i64 ((rd_T57 l0_1 x17_2).f0), .int .i64 0]) ?_ 1 _ rfl; (with_reducible repeat (first | refine blk_drewN ?_ _ | refine blk_drew ?_ | refine blk_alloc ?_ _)); refine blk_put (cs := #[.int .i64 0, .int .i64 0]) ?_ 0 _ rfl; exact Bz BK144⟩, ⟨by exact Lz2 HB GE139 GE144⟩⟩
           rw [if_neg c16] at H
           exact absurd H (by simp)
          rw [if_neg c15] at H
          exact absurd H (by simp)
         case rest =>
          clear HC11
          try clear c5
          try clear c5b0
          try clear c8
          try clear c8b0
          try clear c9
          try clear c9b0
          try clear c10
          try clear c10b0
          try clear c15
          try clear c15b0
          try clear c16
          try clear c16b0
          try clear c17
          try clear c17b0
          try clear c17b1
          try clear p143
          try clear p145
          try clear q143
          try clear q145
          obtain ⟨kq, x34_10, rfl, HA, HJ10, HO_3, BK139, BK144, HB⟩ := hcut
          cases kq with
          | zero => exact absurd HA.out (by simp [spec_l02Reach.j2])
          | succ kj10 =>
           have H := HA.out
           clear HA
           simp only [spec_l02Reach.j2] at H
           have HC25 := Aside0.mk H
           clear H
           go_upto_if 34 with (fail)
           repeat (go_quiet (fail); go_upto_if 34 with (fail))
           go_cut [3] (fun v3 wc => ∃ (kq : Nat) (x3_24 : List Int), Aside0 (spec_l02Reach.j3 kq x3_24 x4_1 l0_1 (l0_1.length : Int) x17_2 a0_0 l0_1 ((rd_T57 l0_1 x17_2).f0) ((rd_T57 l0_1 x17_2).f1) = some r) ∧ Aside0 (kq ≤ kj10) ∧ Aside0 (Kd.R (Kd.int .i64) 3 wc w.heap.size (fun _ => True) v3 x3_24) ∧ Aside0 (wc.heap[gb139]? = some (.cells #[.int .i64 a0_0, (.slice (some ad143) l0_1.length c0_1)] 30 (0, 0))) ∧ Aside0 (wc.heap[gb144]? = some (.cells #[.int .i64 ((rd_T57 l0_1 x17_2).f0), .int .i64 ((rd_T57 l0_1 x17_2).f1)] 57 (0, 0))) ∧ Aside0 (Below w.heap.size w wc))
           case first =>
            have H := HC25.out
            clear HC25
            by_cases c26 : x34_10 = true
            ·subst c26
             have H1 : (if x3_2.length < 17592186044416 then (spec_l02Reach.j3 kj10 (x3_2 ++ [((rd_T57 l0_1 x17_2).f1)]) x4_1 l0_1 (l0_1.length : Int) x17_2 a0_0 l0_1 ((rd_T57 l0_1 x17_2).f0) ((rd_T57 l0_1 x17_2).f1)) else (none)) = some r := by rw [if_pos rfl] at H; exact H
             clear H
             have H := H1
             clear H1
             by_cases c27 : x3_2.length < 17592186044416
             ·rw [if_pos c27] at H
              have LMc27 := Aside0.mk c27
              clear c27
              obtain ⟨y147, hy147⟩ : ∃ y_ : List Int, y_ = (x3_2 ++ [((rd_T57 l0_1 x17_2).f1)]) := ⟨_, rfl⟩
              replace H : (spec_l02Reach.j3 kj10 y147 x4_1 l0_1 (l0_1.length : Int) x17_2 a0_0 l0_1 ((rd_T57 l0_1 x17_2).f0) ((rd_T57 l0_1 x17_2).f1)) = some r := by first | (rw [hy147]; with_reducible exact H) | (have H2_ := (Option.bind_some _ _).symm.trans H; rw [hy147]; with_reducible exact H2_) | (have H2_ := (Option.bind_some _ _).symm.trans H; with_reducible exact H2_) | with_reducible exact H | (rw [hy147]; exact H) | exact H
              have Ny147 := Aside0.mk hy147
              clear hy147
              have H' := Aside0.mk H
              clear H
              have hnb28 := NB144_139.out
              have hnc28 := NB139_144.out
              have hcz29_0 : wc.cell? ⟨gb144, 0, none⟩ = some (.int .i64 ((rd_T57 l0_1 x17_2).f0)) := (blk_cell BK144.out 0).trans rfl
              have hcz29_1 : wc.cell? ⟨gb144, 1, none⟩ = some (.int .i64 ((rd_T57 l0_1 x17_2).f1)) := (blk_cell BK144.out 1).trans rfl
              have hfz29_0 := blk_frozen BK144.out 0
              have hfz29_1 := blk_frozen BK144.out 1
              go_wp2_with (first | ((with_reducible refine gate_builtin (b := .append) (xs := #[.tmp 35, .tmp 38]) rfl ?_); at_builtin; refine Kd.R_append (Kd.int .i64) (w0 := w) w.heap.size rfl (.tmp 35) (.tmp 38) 37 3 (.int .i64 0) 8 rfl Try.underlying37 info3 rfl (by decide) (by omega) u3 x3_2 ((rd_T57 l0_1 x17_2).f1) [.int .i64 ((rd_T57 l0_1 x17_2).f1)] (fun _ => True) (fun _ => False) rfl rfl ?aP (fun _ hk => hk.elim) ?aF ?aO ?aB ?aS ?aL ?_; (case aP => exact rfl); (case aB => exact (by exact Lz2 HB GE139 GE144)); (case aF => exact (fun _ _ => trivial)); (case aO => exact (Rz HO_3)); (case aS => exact (below_size (by exact Lz2 HB GE139 GE144))); (case aL => have := LMc27.out; omega); intro v148 w30 ho hb hg hat; rw [← Ny147.out] at ho; replace BK139 := Aside0.mk (blk_grown (g := gb139) (o := .cells #[.int .i64 a0_0, .slice (some ad143) l0_1.length c0_1] 30 (0, 0)) (Bz BK139) hg (Kd.R_ne HO_3.out BK139.out (by decide))); replace BK144 := Aside0.mk (blk_grown (g := gb144) (o := .cells #[.int .i64 ((rd_T57 l0_1 x17_2).f0), .int .i64 ((rd_T57 l0_1 x17_2).f1)] 57 (0, 0)) (Bz BK144) hg (Kd.R_ne HO_3.out BK144.out (by decide))); replace HB := Aside0.mk (hb); have HO149 := Aside0.mk (ho); clear HO_3; clear ho hb hg hat))
              repeat (go_quiet (first | ((with_reducible refine gate_builtin (b := .append) (xs := #[.tmp 35, .tmp 38]) rfl ?_); at_builtin; refine Kd.R_append (Kd.int .i64) (w0 := w) w.heap.size rfl (.tmp 35) (.tmp 38) 37 3 (.int .i64 0) 8 rfl Try.underlying37 info3 rfl (by decide) (by omega) u3 x3_2 ((rd_T57 l0_1 x17_2).f1) [.int .i64 ((rd_T57 l0_1 x17_2).f1)] (fun _ => True) (fun _ => False) rfl rfl ?aP (fun _ hk => hk.elim) ?aF ?aO ?aB ?aS ?aL ?_; (case aP => exact rfl); (case aB => exact (by exact Lz2 HB GE139 GE144)); (case aF => exact (fun _ _ => trivial)); (case aO => exact (Rz HO_3)); (case aS => exact (below_size (by exact Lz2 HB GE139 GE144))); (case aL => have := LMc27.out; omega); intro v148 w30 ho hb hg hat; rw [← Ny147.out] at ho; replace BK139 := Aside0.mk (blk_grown (g := gb139) (o := .cells #[.int .i64 a0_0, .slice (some ad143) l0_1.length c0_1] 30 (0, 0)) (Bz BK139) hg (Kd.R_ne HO_3.out BK139.out (by decide))); replace BK144 := Aside0.mk (blk_grown (g := gb144) (o := .cells #[.int .i64 ((rd_T57 l0_1 x17_2).f0), .int .i64 ((rd_T57 l0_1 x17_2).f1)] 57 (0, 0)) (Bz BK144) hg (Kd.R_ne HO_3.out BK144.out (by decide))); replace HB := Aside0.mk (hb); have HO149 := Aside0.mk (ho); clear HO_3; clear ho hb hg hat)); try go_wp2_with (first | ((with_reducible refine gate_builtin (b := .append) (xs := #[.tmp 35, .tmp 38]) rfl ?_); at_builtin; refine Kd.R_append (Kd.int .i64) (w0 := w) w.heap.size rfl (.tmp 35) (.tmp 38) 37 3 (.int .i64 0) 8 rfl Try.underlying37 info3 rfl (by decide) (by omega) u3 x3_2 ((rd_T57 l0_1 x17_2).f1) [.int .i64 ((rd_T57 l0_1 x17_2).f1)] (fun _ => True) (fun _ => False) rfl rfl ?aP (fun _ hk => hk.elim) ?aF ?aO ?aB ?aS ?aL ?_; (case aP => exact rfl); (case aB => exact (by exact Lz2 HB GE139 GE144)); (case aF => exact (fun _ _ => trivial)); (case aO => exact (Rz HO_3)); (case aS => exact (below_size (by exact Lz2 HB GE139 GE144))); (case aL => have := LMc27.out; omega); intro v148 w30 ho hb hg hat; rw [← Ny147.out] at ho; replace BK139 := Aside0.mk (blk_grown (g := gb139) (o := .cells #[.int .i64 a0_0, .slice (some ad143) l0_1.length c0_1] 30 (0, 0)) (Bz BK139) hg (Kd.R_ne HO_3.out BK139.out (by decide))); replace BK144 := Aside0.mk (blk_grown (g := gb144) (o := .cells #[.int .i64 ((rd_T57 l0_1 x17_2).f0), .int .i64 ((rd_T57 l0_1 x17_2).f1)] 57 (0, 0)) (Bz BK144) hg (Kd.R_ne HO_3.out BK144.out (by decide))); replace HB := Aside0.mk (hb); have HO149 := Aside0.mk (ho); clear HO_3; clear ho hb hg hat)))
              go_meet
              case rel => exact ⟨_, (y147), H', ⟨by have := HK1.out; have := HK2.out; have := HJ10.out; first | omega | exact Nat.le_refl _⟩, ⟨by exact Rz HO149⟩, ⟨by exact Bz BK139⟩, ⟨by exact Bz BK144⟩, ⟨by exact Lz2 HB GE139 GE144⟩⟩
             rw [if_neg c27] at H
             exact absurd H (by simp)
            replace c26 := Bool.eq_false_iff.mpr c26
            subst c26
            have H1 : (spec_l02Reach.j3 kj10 x3_2 x4_1 l0_1 (l0_1.length : Int) x17_2 a0_0 l0_1 ((rd_T57 l0_1 x17_2).f0) ((rd_T57 l0_1 x17_2).f1)) = some r := by rw [if_neg (show ¬ (false = true) by decide)] at H; exact H
            clear H
            have H := H1
            clear H1
            have H' := Aside0.mk H
            clear H
            go_wp2
            repeat (go_quiet (fail); try go_wp2)
            go_meet
            case rel => exact ⟨_, (x3_2), H', ⟨by have := HK1.out; have := HK2.out; have := HJ10.out; first | omega | exact Nat.le_refl _⟩, ⟨by exact Rz HO_3⟩, ⟨by exact Bz BK139⟩, ⟨by exact Bz BK144⟩, ⟨by exact Lz2 HB GE139 GE144⟩⟩
           case rest =>
            clear HC25
            try clear c5
            try clear c5b0
            try clear c8
            try clear c8b0
            try clear c9
            try clear c9b0
            try clear c10
            try clear c10b0
            try clear c15
            try clear c15b0
            try clear c16
            try clear c16b0
            try clear c17
            try clear c17b0
            try clear c17b1
            try clear c26
            try clear c27
            try clear p143
            try clear p145
            try clear q143
            try clear q145
            obtain ⟨kq, x3_24, HA, HJ24, HO_3, BK139, BK144, HB⟩ := hcut
            cases kq with
            | zero => exact absurd HA.out (by simp [spec_l02Reach.j3])
            | succ kj24 =>
             have H := HA.out
             clear HA
             simp only [spec_l02Reach.j3] at H
             by_cases c31 : 0 ≤ x4_1
             ·rw [if_pos c31] at H
              have c31b0 : decide (0 ≤ x4_1) = true := decide_eq_true c31
              clear c31
              by_cases c32 : x4_1 < (x3_24.length : Int)
              ·rw [if_pos c32] at H
               have c32b0 : decide (x4_1 < (x3_24.length : Int)) = true := decide_eq_true c32
               clear c32
               by_cases c33 : ((rd_T57 l0_1 x17_2).f1) = (rd x3_24 x4_1)
               ·rw [if_pos c33] at H
                have c33b0 : (((rd_T57 l0_1 x17_2).f1) == (rd x3_24 x4_1)) = true := beq_iff_eq.mpr c33
                have c33b1 : (((rd_T57 l0_1 x17_2).f1) != (rd x3_24 x4_1)) = false := bne_eq_false_iff_eq.mpr c33
                clear c33
                replace H := Option.bind_eq_some_iff.mp H
                obtain ⟨t151, A340, H⟩ := H
                replace H : (if t151 = true then (spec_l02Reach.l1 kj24 x3_24 x4_1 l0_1 (l0_1.length : Int) (wrap64 (x17_2 + 1)) a0_0 l0_1) else (if x3_24.length < 17592186044416 then (spec_l02Reach.l1 kj24 (x3_24 ++ [((rd_T57 l0_1 x17_2).f0)]) x4_1 l0_1 (l0_1.length : Int) (wrap64 (x17_2 + 1)) a0_0 l0_1) else (none))) = some r := H
                have A34 := Aside0.mk A340
                clear A340
                by_cases c35 : t151 = true
                ·subst c35
                 have H1 : (spec_l02Reach.l1 kj24 x3_24 x4_1 l0_1 (l0_1.length : Int) (wrap64 (x17_2 + 1)) a0_0 l0_1) = some r := by rw [if_pos rfl] at H; exact H
                 clear H
                 have H := H1
                 clear H1
                 have H' := Aside0.mk H
                 clear H
                 have hnb36 := NB144_139.out
                 have hnc36 := NB139_144.out
                 have hcz37_0 : wc.cell? ⟨gb144, 0, none⟩ = some (.int .i64 ((rd_T57 l0_1 x17_2).f0)) := (blk_cell BK144.out 0).trans rfl
                 have hcz37_1 : wc.cell? ⟨gb144, 1, none⟩ = some (.int .i64 ((rd_T57 l0_1 x17_2).f1)) := (blk_cell BK144.out 1).trans rfl
                 have hfz37_0 := blk_frozen BK144.out 0
                 have hfz37_1 := blk_frozen BK144.out 1
                 obtain ⟨Ao38, co38, eo38⟩ := Kd.R_slice HO_3.out
                 subst eo38
                 have p150 : 0 ≤ (x4_1 : Int) := ofA
                 have q150 : x4_1 < (x3_24.length : Int) := ofA
                 obtain ⟨ad150, e150, hx150_0⟩ := Kd.at_int (Kd.R_reads' HO_3.out).2.2 x4_1 p150 q150
                 cases e150
                 replace p150 := eq_true p150
                 replace q150 := eq_true q150
                 go_wp2_with (first | (go_at_call 92; (with_reducible refine (spec_l02Has.calls kj24 _ _ x3_24 ((rd_T57 l0_1 x17_2).f0) true _ ?side1 ?side2 A34.out).mono ?_); (case side1 => exact Cz ((Kd.R_reads' HO_3.out).2.2)); (case side2 => exact (Kd.R_reads' HO_3.out).2.1); rintro e w' ⟨rfl, ⟨nd, rfl⟩⟩; (try first | exact ⟨rfl, _, World.drewN_drewN _ _ _⟩ | exact ⟨rfl, _, Eq.trans (World.drewN_drewN _ _ _) (congrArg (World.drewN _) (Nat.add_assoc _ _ _))⟩)))
                 repeat (go_quiet (first | (go_at_call 92; (with_reducible refine (spec_l02Has.calls kj24 _ _ x3_24 ((rd_T57 l0_1 x17_2).f0) true _ ?side1 ?side2 A34.out).mono ?_); (case side1 => exact Cz ((Kd.R_reads' HO_3.out).2.2)); (case side2 => exact (Kd.R_reads' HO_3.out).2.1); rintro e w' ⟨rfl, ⟨nd, rfl⟩⟩; (try first | exact ⟨rfl, _, World.drewN_drewN _ _ _⟩ | exact ⟨rfl, _, Eq.trans (World.drewN_drewN _ _ _) (congrArg (World.drewN _) (Nat.add_assoc _ _ _))⟩))); try go_wp2_with (first | (go_at_call 92; (with_reducible refine (spec_l02Has.calls kj24 _ _ x3_24 ((rd_T57 l0_1 x17_2).f0) true _ ?side1 ?side2 A34.out).mono ?_); (case side1 => exact Cz ((Kd.R_reads' HO_3.out).2.2)); (case side2 => exact (Kd.R_reads' HO_3.out).2.1); rintro e w' ⟨rfl, ⟨nd, rfl⟩⟩; (try first | exact ⟨rfl, _, World.drewN_drewN _ _ _⟩ | exact ⟨rfl, _, Eq.trans (World.drewN_drewN _ _ _) (congrArg (World.drewN _) (Nat.add_assoc _ _ _))⟩))))
                 go_roundg kj24
                 case measure => have := HK1.out; have := HK2.out; have := HJ10.out; have := HJ24.out; omega
                 case rel => exact ⟨(x3_24), (wrap64 (x17_2 + 1)), eqA, H', ⟨by have := HK1.out; have := HK2.out; have := HJ10.out; have := HJ24.out; omega⟩, ⟨by exact Rz HO_3⟩, ⟨by exact Bz BK139⟩, ⟨by exact Lz2 HB GE139 GE144⟩⟩
                replace c35 := Bool.eq_false_iff.mpr c35
                subst c35
                have H1 : (if x3_24.length < 17592186044416 then (spec_l02Reach.l1 kj24 (x3_24 ++ [((rd_T57 l0_1 x17_2).f0)]) x4_1 l0_1 (l0_1.length : Int) (wrap64 (x17_2 + 1)) a0_0 l0_1) else (none)) = some r := by rw [if_neg (show ¬ (false = true) by decide)] at H; exact H
                clear H
                have H := H1
                clear H1
                by_cases c39 : x3_24.length < 17592186044416
                ·rw [if_pos c39] at H
                 have LMc39 := Aside0.mk c39
                 clear c39
                 obtain ⟨y152, hy152⟩ : ∃ y_ : List Int, y_ = (x3_24 ++ [((rd_T57 l0_1 x17_2).f0)]) := ⟨_, rfl⟩
                 replace H : (spec_l02Reach.l1 kj24 y152 x4_1 l0_1 (l0_1.length : Int) (wrap64 (x17_2 + 1)) a0_0 l0_1) = some r := by first | (rw [hy152]; with_reducible exact H) | (have H2_ := (Option.bind_some _ _).symm.trans H; rw [hy152]; with_reducible exact H2_) | (have H2_ := (Option.bind_some _ _).symm.trans H; with_reducible exact H2_) | with_reducible exact H | (rw [hy152]; exact H) | exact H
                 have Ny152 := Aside0.mk hy152
                 clear hy152
                 have H' := Aside0.mk H
                 clear H
                 have hnb40 := NB144_139.out
                 have hnc40 := NB139_144.out
                 have hcz41_0 : wc.cell? ⟨gb144, 0, none⟩ = some (.int .i64 ((rd_T57 l0_1 x17_2).f0)) := (blk_cell BK144.out 0).trans rfl
                 have hcz41_1 : wc.cell? ⟨gb144, 1, none⟩ = some (.int .i64 ((rd_T57 l0_1 x17_2).f1)) := (blk_cell BK144.out 1).trans rfl
                 have hfz41_0 := blk_frozen BK144.out 0
                 have hfz41_1 := blk_frozen BK144.out 1
                 obtain ⟨Ao42, co42, eo42⟩ := Kd.R_slice HO_3.out
                 subst eo42
                 have p150 : 0 ≤ (x4_1 : Int) := ofA
                 have q150 : x4_1 < (x3_24.length : Int) := ofA
                 obtain ⟨ad150, e150, hx150_0⟩ := Kd.at_int (Kd.R_reads' HO_3.out).2.2 x4_1 p150 q150
                 cases e150
                 replace p150 := eq_true p150
                 replace q150 := eq_true q150
                 go_wp2_with (first | (go_at_call 92; (with_reducible refine (spec_l02Has.calls kj24 _ _ x3_24 ((rd_T57 l0_1 x17_2).f0) false _ ?side1 ?side2 A34.out).mono ?_); (case side1 => exact Cz ((Kd.R_reads' HO_3.out).2.2)); (case side2 => exact (Kd.R_reads' HO_3.out).2.1); rintro e w' ⟨rfl, ⟨nd, rfl⟩⟩; (try first | exact ⟨rfl, _, World.drewN_drewN _ _ _⟩ | exact ⟨rfl, _, Eq.trans (World.drewN_drewN _ _ _) (congrArg (World.drewN _) (Nat.add_assoc _ _ _))⟩)) | ((with_reducible refine gate_builtin (b := .append) (xs := #[.tmp 54, .tmp 57]) rfl ?_); at_builtin; refine Kd.R_append (Kd.int .i64) (w0 := w) w.heap.size rfl (.tmp 54) (.tmp 57) 37 3 (.int .i64 0) 8 rfl Try.underlying37 info3 rfl (by decide) (by omega) (.slice (some ad150) x3_24.length co42) x3_24 ((rd_T57 l0_1 x17_2).f0) [.int .i64 ((rd_T57 l0_1 x17_2).f0)] (fun _ => True) (fun _ => False) rfl rfl ?aP (fun _ hk => hk.elim) ?aF ?aO ?aB ?aS ?aL ?_; (case aP => exact rfl); (case aB => exact (by exact Lz2 HB GE139 GE144)); (case aF => exact (fun _ _ => trivial)); (case aO => exact (Rz HO_3)); (case aS => exact (below_size (by exact Lz2 HB GE139 GE144))); (case aL => have := LMc39.out; omega); intro v153 w43 ho hb hg hat; rw [← Ny152.out] at ho; replace BK139 := Aside0.mk (blk_grown (g := gb139) (o := .cells #[.int .i64 a0_0, .slice (some ad143) l0_1.length c0_1] 30 (0, 0)) (Bz BK139) hg (Kd.R_ne HO_3.out BK139.out (by decide))); replace BK144 := Aside0.mk (blk_grown (g := gb144) (o := .cells #[.int .i64 ((rd_T57 l0_1 x17_2).f0), .int .i64 ((rd_T57 l0_1 x17_2).f1)] 57 (0, 0)) (Bz BK144) hg (Kd.R_ne HO_3.out BK144.out (by decide))); replace HB := Aside0.mk (hb); have HO154 := Aside0.mk (ho); clear HO_3; clear ho hb hg hat))
                 repeat (go_quiet (first | (go_at_call 92; (with_reducible refine (spec_l02Has.calls kj24 _ _ x3_24 ((rd_T57 l0_1 x17_2).f0) false _ ?side1 ?side2 A34.out).mono ?_); (case side1 => exact Cz ((Kd.R_reads' HO_3.out).2.2)); (case side2 => exact (Kd.R_reads' HO_3.out).2.1); rintro e w' ⟨rfl, ⟨nd, rfl⟩⟩; (try first | exact ⟨rfl, _, World.drewN_drewN _ _ _⟩ | exact ⟨rfl, _, Eq.trans (World.drewN_drewN _ _ _) (congrArg (World.drewN _) (Nat.add_assoc _ _ _))⟩)) | ((with_reducible refine gate_builtin (b := .append) (xs := #[.tmp 54, .tmp 57]) rfl ?_); at_builtin; refine Kd.R_append (Kd.int .i64) (w0 := w) w.heap.size rfl (.tmp 54) (.tmp 57) 37 3 (.int .i64 0) 8 rfl Try.underlying37 info3 rfl (by decide) (by omega) (.slice (some ad150) x3_24.length co42) x3_24 ((rd_T57 l0_1 x17_2).f0) [.int .i64 ((rd_T57 l0_1 x17_2).f0)] (fun _ => True) (fun _ => False) rfl rfl ?aP (fun _ hk => hk.elim) ?aF ?aO ?aB ?aS ?aL ?_; (case aP => exact rfl); (case aB => exact (by exact Lz2 HB GE139 GE144)); (case aF => exact (fun _ _ => trivial)); (case aO => exact (Rz HO_3)); (case aS => exact (below_size (by exact Lz2 HB GE139 GE144))); (case aL => have := LMc39.out; omega); intro v153 w43 ho hb hg hat; rw [← Ny152.out] at ho; replace BK139 := Aside0.mk (blk_grown (g := gb139) (o := .cells #[.int .i64 a0_0, .slice (some ad143) l0_1.length c0_1] 30 (0, 0)) (Bz BK139) hg (Kd.R_ne HO_3.out BK139.out (by decide))); replace BK144 := Aside0.mk (blk_grown (g := gb144) (o := .cells #[.int .i64 ((rd_T57 l0_1 x17_2).f0), .int .i64 ((rd_T57 l0_1 x17_2).f1)] 57 (0, 0)) (Bz BK144) hg (Kd.R_ne HO_3.out BK144.out (by decide))); replace HB := Aside0.mk (hb); have HO154 := Aside0.mk (ho); clear HO_3; clear ho hb hg hat)); try go_wp2_with (first | (go_at_call 92; (with_reducible refine (spec_l02Has.calls kj24 _ _ x3_24 ((rd_T57 l0_1 x17_2).f0) false _ ?side1 ?side2 A34.out).mono ?_); (case side1 => exact Cz ((Kd.R_reads' HO_3.out).2.2)); (case side2 => exact (Kd.R_reads' HO_3.out).2.1); rintro e w' ⟨rfl, ⟨nd, rfl⟩⟩; (try first | exact ⟨rfl, _, World.drewN_drewN _ _ _⟩ | exact ⟨rfl, _, Eq.trans (World.drewN_drewN _ _ _) (congrArg (World.drewN _) (Nat.add_assoc _ _ _))⟩)) | ((with_reducible refine gate_builtin (b := .append) (xs := #[.tmp 54, .tmp 57]) rfl ?_); at_builtin; refine Kd.R_append (Kd.int .i64) (w0 := w) w.heap.size rfl (.tmp 54) (.tmp 57) 37 3 (.int .i64 0) 8 rfl Try.underlying37 info3 rfl (by decide) (by omega) (.slice (some ad150) x3_24.length co42) x3_24 ((rd_T57 l0_1 x17_2).f0) [.int .i64 ((rd_T57 l0_1 x17_2).f0)] (fun _ => True) (fun _ => False) rfl rfl ?aP (fun _ hk => hk.elim) ?aF ?aO ?aB ?aS ?aL ?_; (case aP => exact rfl); (case aB => exact (by exact Lz2 HB GE139 GE144)); (case aF => exact (fun _ _ => trivial)); (case aO => exact (Rz HO_3)); (case aS => exact (below_size (by exact Lz2 HB GE139 GE144))); (case aL => have := LMc39.out; omega); intro v153 w43 ho hb hg hat; rw [← Ny152.out] at ho; replace BK139 := Aside0.mk (blk_grown (g := gb139) (o := .cells #[.int .i64 a0_0, .slice (some ad143) l0_1.length c0_1] 30 (0, 0)) (Bz BK139) hg (Kd.R_ne HO_3.out BK139.out (by decide))); replace BK144 := Aside0.mk (blk_grown (g := gb144) (o := .cells #[.int .i64 ((rd_T57 l0_1 x17_2).f0), .int .i64 ((rd_T57 l0_1 x17_2).f1)] 57 (0, 0)) (Bz BK144) hg (Kd.R_ne HO_3.out BK144.out (by decide))); replace HB := Aside0.mk (hb); have HO154 := Aside0.mk (ho); clear HO_3; clear ho hb hg hat)))
                 go_roundg kj24
                 case measure => have := HK1.out; have := HK2.out; have := HJ10.out; have := HJ24.out; omega
                 case rel => exact ⟨(y152), (wrap64 (x17_2 + 1)), eqA, H', ⟨by have := HK1.out; have := HK2.out; have := HJ10.out; have := HJ24.out; omega⟩, ⟨by exact Rz HO154⟩, ⟨by exact Bz BK139⟩, ⟨by exact Lz2 HB GE139 GE144⟩⟩
                rw [if_neg c39] at H
                exact absurd H (by simp)
               rw [if_neg c33] at H
               have c33b0 : (((rd_T57 l0_1 x17_2).f1) == (rd x3_24 x4_1)) = false := beq_eq_false_iff_ne.mpr c33
               have c33b1 : (((rd_T57 l0_1 x17_2).f1) != (rd x3_24 x4_1)) = true := bne_iff_ne.mpr c33
               have H' := Aside0.mk H
               clear H
               have hnb44 := NB144_139.out
               have hnc44 := NB139_144.out
               have hcz45_0 : wc.cell? ⟨gb144, 0, none⟩ = some (.int .i64 ((rd_T57 l0_1 x17_2).f0)) := (blk_cell BK144.out 0).trans rfl
               have hcz45_1 : wc.cell? ⟨gb144, 1, none⟩ = some (.int .i64 ((rd_T57 l0_1 x17_2).f1)) := (blk_cell BK144.out 1).trans rfl
               have hfz45_0 := blk_frozen BK144.out 0
               have hfz45_1 := blk_frozen BK144.out 1
               obtain ⟨Ao46, co46, eo46⟩ := Kd.R_slice HO_3.out
               subst eo46
               have p150 : 0 ≤ (x4_1 : Int) := ofA
               have q150 : x4_1 < (x3_24.length : Int) := ofA
               obtain ⟨ad150, e150, hx150_0⟩ := Kd.at_int (Kd.R_reads' HO_3.out).2.2 x4_1 p150 q150
               cases e150
               replace p150 := eq_true p150
               replace q150 := eq_true q150
               go_wp2
               repeat (go_quiet (fail); try go_wp2)
               go_roundg kj24
               case measure => have := HK1.out; have := HK2.out; have := HJ10.out; have := HJ24.out; omega
               case rel => exact ⟨(x3_24), (wrap64 (x17_2 + 1)), eqA, H', ⟨by have := HK1.out; have := HK2.out; have := HJ10.out; have := HJ24.out; omega⟩, ⟨by exact Rz HO_3⟩, ⟨by exact Bz BK139⟩, ⟨by exact Lz2 HB GE139 GE144⟩⟩
              rw [if_neg c32] at H
              exact absurd H (by simp)
             rw [if_neg c31] at H
             exact absurd H (by simp)
        rw [if_neg c10] at H
        exact absurd H (by simp)
       rw [if_neg c9] at H
       exact absurd H (by simp)
      rw [if_neg c8] at H
      have c8b0 : decide (x17_2 < (l0_1.length : Int)) = false := decide_eq_false c8
      clear c8
      have H' := Aside0.mk H
      clear H
      go_wp2
      repeat (go_quiet (fail); try go_wp2)
      go_roundg k2
      case measure => have := HK1.out; have := HK2.out; omega
      case rel => exact ⟨(x3_2), (wrap64 (x4_1 + 1)), eqA, H', ⟨by have := HK1.out; have := HK2.out; omega⟩, ⟨by exact Rz HO_3⟩, ⟨by exact Bz BK139⟩, ⟨by exact Lz1 HB GE139⟩⟩
   rw [if_neg c5] at H
   have c5b0 : decide (x4_1 < (x3_1.length : Int)) = false := decide_eq_false c5
   clear c5
   obtain rfl := Option.some.inj H
   obtain ⟨Ao47, co47, eo47⟩ := Kd.R_slice HO_3.out
   subst eo47
   go_wp2
   repeat (go_quiet (fail); try go_wp2)
   go_ret
   exact ⟨_, by first | rfl | (simp [errW_none, errW_some] <;> rfl) | (simp [*, errW_none, errW_some] <;> rfl), by exact Rz HO_3, by exact Lz1 HB GE139⟩
mutual
def spec_GraphOk.l0 : Nat → List (S57) → Int → Int → Int → List (S57) → Option (Bool)
 | 0, _, _, _, _, _ => none
 | k + 1, x9, x10, x11, x156000, x156001 => if x11 < x10 then (if 0 ≤ x11 then (if x11 < (x9.length : Int) then (if x11 > 0 then (if 0 ≤ (wrap64 (x11 - 1)) then (if (wrap64 (x11 - 1)) < (x156001.length : Int) then (if ((rd_T57 x9 x11).f0) < ((rd_T57 x156001 (wrap64 (x11 - 1))).f0) then (spec_GraphOk.j1 k x9 x10 x11 true x156000 x156001) else (if ((rd_T57 x9 x11).f0) = ((rd_T57 x156001 (wrap64 (x11 - 1))).f0) then (spec_GraphOk.j1 k x9 x10 x11 (decide (((rd_T57 x9 x11).f1) < ((rd_T57 x156001 (wrap64 (x11 - 1))).f1))) x156000 x156001) else (spec_GraphOk.j1 k x9 x10 x11 false x156000 x156001))) else (none)) else (none)) else (spec_GraphOk.j1 k x9 x10 x11 false x156000 x156001)) else (none)) else (none)) else ((spec_l02Reach.f k x156000 x156001).bind fun t157 => (some ((t157.length : Int) == x156000)))
def spec_GraphOk.j1 : Nat → List (S57) → Int → Int → Bool → Int → List (S57) → Option (Bool)
 | 0, _, _, _, _, _, _ => none
 | k + 1, x9, x10, x11, x53, x156000, x156001 => if x53 = true then (some false) else (spec_GraphOk.l0 k x9 x10 (wrap64 (x11 + 1)) x156000 x156001)
end
def spec_GraphOk.f (k : Nat) (a0_0 : Int) (l0_1 : List (S57)) : Option (Bool) := (spec_EdgesOk.f k a0_0 l0_1).bind fun t156 => (if t156 = true then (spec_GraphOk.l0 k l0_1 (l0_1.length : Int) 0 a0_0 l0_1) else (some false))
def spec_GraphOk.T6 : Bool × List (List Nat × List Nat) := (true, [([], []), ([0], [0]), ([1], [1]), ([2], [2]), ([3, 2], [2, 3]), ([2], [2]), ([5, 2], [2, 5]), ([2], [2]), ([7, 2], [2, 7]), ([6, 8, 2], [2, 6, 8]), ([9, 2], [2, 9]), ([10, 2], [2, 10]), ([4, 11, 2], [2, 4, 11]), ([12, 2, 2], [2, 12]), ([13], [13]), ([14, 13], [13, 14]), ([13], [13]), ([16, 13], [13, 16]), ([13], [13]), ([18, 13], [13, 18]), ([17, 19, 13], [13, 17, 19]), ([20, 13], [13, 20]), ([21, 13], [13, 21]), ([15, 22, 13], [13, 15, 22]), ([23, 13, 13], [13, 23]), ([24], [24]), ([25, 24], [24, 25]), ([24], [24]), ([27, 24], [24, 27]), ([24], [24]), ([29, 24], [24, 29]), ([28, 30, 24], [24, 28, 30]), ([31, 24], [24, 31]), ([32, 24], [24, 32]), ([26, 33, 24], [24, 26, 33]), ([24, 34, 13], [13, 24, 34]), ([13, 35, 2], [2, 13, 35]), ([2, 36], [2, 36])])
def spec_GraphOk.B6 : List Nat := [0, 1, 3, 7, 15, 7, 39, 7, 135, 487, 999, 2023, 4095, 8191, 16383, 32767, 16383, 81919, 16383, 278527, 999423, 2047999, 4145151, 8388607, 16777215, 33554431, 67108863, 33554431, 167772159, 33554431, 570425343, 2046820351, 4194303999, 8489271295, 17179869183, 34359738367, 68719476735, 137438953471]
theorem spec_GraphOk.tab6 : rtab .any (opsOf Try.f47 6) = spec_GraphOk.T6 := by kernel_rfl
theorem spec_GraphOk.bits6 : waitsOk spec_GraphOk.T6.2 spec_GraphOk.B6 = true := by kernel_rfl
set_option maxHeartbeats 8000000 in
set_option maxRecDepth 100000 in
theorem spec_GraphOk.calls (k : Nat) (a0_0 : Int) (A0_1 : Option Addr) (c0_1 : Nat) (l0_1 : List (S57)) (r : Bool) (w : World) (hr0_1 : Kd.C k57 w A0_1 l0_1.length l0_1) (hc0_1 : l0_1.length ≤ c0_1) (h : spec_GraphOk.f k a0_0 l0_1 = some r) :
  Calls Try.prog 47 #[.agg #[.int .i64 a0_0, .slice A0_1 l0_1.length c0_1]] w fun e w' => e = .returned (.bool r) ∧ Below w.heap.size w w' := by
 have hu30 := Try.underlying30
 have hu57 := Try.underlying57
 have HR0_1 := Aside0.mk hr0_1
 have HC0_1 := Aside0.mk hc0_1
 clear hr0_1 hc0_1
 have HB := Aside0.mk (Below.refl w.heap.size w)
 have H : ((spec_EdgesOk.f k a0_0 l0_1).bind fun t156 => (if t156 = true then (spec_GraphOk.l0 k l0_1 (l0_1.length : Int) 0 a0_0 l0_1) else (some false))) = some r := h
 clear h
 replace H := Option.bind_eq_some_iff.mp H
 obtain ⟨t156, A20, H⟩ := H
 replace H : (if t156 = true then (spec_GraphOk.l0 k l0_1 (l0_1.length : Int) 0 a0_0 l0_1) else (some false)) = some r := H
 have A2 := Aside0.mk A20
 clear A20
 by_cases c3 : t156 = true
 ·subst c3
  have H1 : (spec_GraphOk.l0 k l0_1 (l0_1.length : Int) 0 a0_0 l0_1) = some r := by rw [if_pos rfl] at H; exact H
  clear H
  have H := H1
  clear H1
  have H' := Aside0.mk H
  clear H
  go_enter Try.func47, Try.ntmps47
  go_wp2_with (first | ((with_reducible refine gate_dst (N := 1) rfl ?_); refine box_event ?hg (N := 1) ?hd (cs := #[.int .i64 a0_0, .slice A0_1 l0_1.length c0_1]) (t := 30) ?hr ?_; (case hd => rfl); (case hg => rfl); (case hr => first | (go_simp; done) | (go_simp; rfl)); intro gb155 hg w4 hbox hb; have BK155 := Aside0.mk (hbox); have GW155 := Aside0.mk ((by rw [hg]; exact (below_size (Lz HB)) : w.heap.size ≤ gb155)); have GE155 := Aside0.mk ((by rw [hg]; exact (below_size (Lz HB)) : w.heap.size ≤ gb155)); replace HB := Aside0.mk (below_step (Lz HB) hb); clear hb hbox hg; have hcz5_0 : w4.cell? ⟨gb155, 0, none⟩ = some (.int .i64 a0_0) := (blk_cell BK155.out 0).trans rfl; have hcz5_1 : w4.cell? ⟨gb155, 1, none⟩ = some (.slice A0_1 l0_1.length c0_1) := (blk_cell BK155.out 1).trans rfl; have hfz5_0 := blk_frozen BK155.out 0; have hfz5_1 := blk_frozen BK155.out 1) | ((with_reducible refine gate_callee (f := 80) rfl ?_); refine goesM_ (some 6) rfl rfl Try.func80 (by kernel_rfl) rfl #[.agg #[.int .i64 a0_0, .slice A0_1 l0_1.length c0_1]] rfl ?_; (with_reducible refine (spec_EdgesOk.calls k a0_0 _ _ l0_1 true _ ?side1 ?side2 A2.out).mono ?_); (case side1 => exact Cz ((Kd.C_below HR0_1.out HB.out))); (case side2 => exact HC0_1.out); rintro e w6 ⟨rfl, hb⟩; refine ⟨_, rfl, ?_⟩; replace BK155 := Aside0.mk (blk_below (g := gb155) (o := .cells #[.int .i64 a0_0, .slice A0_1 l0_1.length c0_1] 30 (0, 0)) (Bz BK155) hb); replace HB := Aside0.mk (below_step (by exact Lz1 HB GE155) hb); (try clear hb); (try clear hb2); (try clear hk); (try clear hi); have hcz7_0 : w6.cell? ⟨gb155, 0, none⟩ = some (.int .i64 a0_0) := (blk_cell BK155.out 0).trans rfl; have hcz7_1 : w6.cell? ⟨gb155, 1, none⟩ = some (.slice A0_1 l0_1.length c0_1) := (blk_cell BK155.out 1).trans rfl; have hfz7_0 := blk_frozen BK155.out 0; have hfz7_1 := blk_frozen BK155.out 1))
  go_loopg [11] k (fun kq v11 w' => ∃ (x11_1 : Int), v11 = .int .i64 x11_1 ∧ Aside0 (spec_GraphOk.l0 kq l0_1 (l0_1.length : Int) x11_1 a0_0 l0_1 = some r) ∧ Aside0 (kq ≤ k) ∧ Aside0 (w'.heap[gb155]? = some (.cells #[.int .i64 a0_0, (.slice A0_1 l0_1.length c0_1)] 30 (0, 0))) ∧ Aside0 (Below w.heap.size w w'))
  case atStart => exact ⟨(0), eqA, H', ⟨Nat.le_refl _⟩, ⟨by exact Bz BK155⟩, ⟨by exact Lz1 HB GE155⟩⟩
  case round =>
   clear H'
   try clear c3
   obtain ⟨x11_1, rfl, HA, HK1, BK155, HB⟩ := hrel
   cases gk with
   | zero => exact absurd HA.out (by simp [spec_GraphOk.l0])
   | succ k1 =>
    have H := HA.out
    clear HA
    simp only [spec_GraphOk.l0] at H
    by_cases c8 : x11_1 < (l0_1.length : Int)
    ·rw [if_pos c8] at H
     have c8b0 : decide (x11_1 < (l0_1.length : Int)) = true := decide_eq_true c8
     clear c8
     by_cases c9 : 0 ≤ x11_1
     ·rw [if_pos c9] at H
      have c9b0 : decide (0 ≤ x11_1) = true := decide_eq_true c9
      clear c9
      by_cases c10 : x11_1 < (l0_1.length : Int)
      ·rw [if_pos c10] at H
       have c10b0 : decide (x11_1 < (l0_1.length : Int)) = true := decide_eq_true c10
       clear c10
       have HC11 := Aside0.mk H
       clear H
       have p160 : 0 ≤ (x11_1 : Int) := ofA
       have q160 : x11_1 < (l0_1.length : Int) := ofA
       obtain ⟨ad160, e160, hx160_0, hx160_1⟩ := at_T57 HR0_1.out x11_1 p160 q160
       cases e160
       replace hx160_0 := (HB.out.cell (World.block_lt_of_cell? w _ hx160_0)).trans hx160_0
       replace hx160_1 := (HB.out.cell (World.block_lt_of_cell? w _ hx160_1)).trans hx160_1
       replace p160 := eq_true p160
       replace q160 := eq_true q160
       go_upto_region 6 with (first | ((with_reducible refine gate_dst (N := 4) rfl ?_); refine box_event ?hg (N := 4) ?hd (cs := #[.int .i64 0, .int .i64 0]) (t := 57) ?hr ?_; (case hd => rfl); (case hg => rfl); (case hr => first | (go_simp; done) | (go_simp; rfl)); intro gb161 hg w12 hbox hb; have BK161 := Aside0.mk (hbox); have GW161 := Aside0.mk ((by rw [hg]; exact (below_size (by exact Lz1 HB GE155)) : w.heap.size ≤ gb161)); have GE161 := Aside0.mk ((by rw [hg]; exact (below_size (by exact Lz1 HB GE155)) : w.heap.size ≤ gb161)); replace HB := Aside0.mk (below_step (by exact Lz1 HB GE155) hb); have NB155_161 := Aside0.mk ((by rw [hg]; exact Nat.ne_of_lt (blk_lt (g := gb155) (o := .cells #[.int .i64 a0_0, .slice (some ad160) l0_1.length c0_1] 30 (0, 0)) (Bz BK155)) : gb155 ≠ gb161)); have NB161_155 := Aside0.mk ((by rw [hg]; exact Nat.ne_of_gt (blk_lt (g := gb155) (o := .cells #[.int .i64 a0_0, .slice (some ad160) l0_1.length c0_1] 30 (0, 0)) (Bz BK155)) : gb161 ≠ gb155)); replace BK155 := Aside0.mk (blk_below (g := gb155) (o := .cells #[.int .i64 a0_0, .slice (some ad160) l0_1.length c0_1] 30 (0, 0)) (Bz BK155) hb); clear hb hbox hg; have hnb13 := NB161_155.out; have hnc13 := NB155_161.out; have hcz14_0 : w12.cell? ⟨gb161, 0, none⟩ = some (.int .i64 0) := (blk_cell BK161.out 0).trans rfl; have hcz14_1 : w12.cell? ⟨gb161, 1, none⟩ = some (.int .i64 0) := (blk_cell BK161.out 1).trans rfl; have hfz14_0 := blk_frozen BK161.out 0; have hfz14_1 := blk_frozen BK161.out 1))
       (try simp only [Act.put, List.setIfInBounds_toArray, List.set_cons_zero, List.set_cons_succ])
       go_cut [53] (fun v53 wc => ∃ (kq : Nat) (x53_10 : Bool), v53 = .bool x53_10 ∧ Aside0 (spec_GraphOk.j1 kq l0_1 (l0_1.length : Int) x11_1 x53_10 a0_0 l0_1 = some r) ∧ Aside0 (kq ≤ k1) ∧ Aside0 (wc.heap[gb155]? = some (.cells #[.int .i64 a0_0, (.slice (some ad160) l0_1.length c0_1)] 30 (0, 0))) ∧ Aside0 (wc.heap[gb161]? = some (.cells #[.int .i64 ((rd_T57 l0_1 x11_1).f0), .int .i64 ((rd_T57 l0_1 x11_1).f1)] 57 (0, 0))) ∧ Aside0 (Below w.heap.size w wc))
       case first =>
        have H := HC11.out
        clear HC11
        by_cases c15 : x11_1 > 0
        ·rw [if_pos c15] at H
         have c15b0 : decide (0 < x11_1) = true := decide_eq_true c15
         clear c15
         (first | rw [c15b0] | (simp only [i64_w, i32_w]; rw [c15b0]) | skip)
         obtain ⟨ji16, hji16⟩ : ∃ j_ : Int, (wrap64 (x11_1 - 1)) = j_ := ⟨_, rfl⟩
         replace H : (if 0 ≤ (ji16) then (if (ji16) < (l0_1.length : Int) then (if ((rd_T57 l0_1 x11_1).f0) < ((rd_T57 l0_1 (ji16)).f0) then (spec_GraphOk.j1 k1 l0_1 (l0_1.length : Int) x11_1 true a0_0 l0_1) else (if ((rd_T57 l0_1 x11_1).f0) = ((rd_T57 l0_1 (ji16)).f0) then (spec_GraphOk.j1 k1 l0_1 (l0_1.length : Int) x11_1 (decide (((rd_T57 l0_1 x11_1).f1) < ((rd_T57 l0_1 (ji16)).f1))) a0_0 l0_1) else (spec_GraphOk.j1 k1 l0_1 (l0_1.length : Int) x11_1 false a0_0 l0_1))) else (none)) else (none)) = some r := by first | (rw [hji16] at H; exact H) | (simp only [hji16] at H ⊢; exact H)
         have hji16w : (IntKind.i64.wrap (x11_1 - 1)) = ji16 := (i64_w _).trans hji16
         by_cases c17 : 0 ≤ (ji16)
         ·rw [if_pos c17] at H
          have c17b0 : decide (0 ≤ (ji16)) = true := decide_eq_true c17
          clear c17
          by_cases c18 : (ji16) < (l0_1.length : Int)
          ·rw [if_pos c18] at H
           have c18b0 : decide ((ji16) < (l0_1.length : Int)) = true := decide_eq_true c18
           clear c18
           by_cases c19 : ((rd_T57 l0_1 x11_1).f0) < ((rd_T57 l0_1 (ji16)).f0)
           ·rw [if_pos c19] at H
            have c19b0 : decide (((rd_T57 l0_1 x11_1).f0) < ((rd_T57 l0_1 (ji16)).f0)) = true := decide_eq_true c19
            clear c19
            have H' := Aside0.mk H
            clear H
            try go_wp2
            have n0_ : Aside0 (((w12.setCell ⟨gb161, 0, none⟩ (.int .i64 ((rd_T57 l0_1 x11_1).f0))).setCell ⟨gb161, 1, none⟩ (.int .i64 ((rd_T57 l0_1 x11_1).f1))).heap[gb155]? = some (.cells #[.int .i64 a0_0, .slice (some ad160) l0_1.length c0_1] 30 (0, 0))) := ⟨by (with_reducible repeat (first | refine blk_drewN ?_ _ | refine blk_drew ?_ | refine blk_alloc ?_ _)); refine blk_far ?_ NB155_161.out _; (with_reducible repeat (first | refine blk_drewN ?_ _ | refine blk_drew ?_ | refine blk_alloc ?_ _)); refine blk_far ?_ NB155_161.out _; exact Bz BK155⟩
            have n1_ : Aside0 (((w12.setCell ⟨gb161, 0, none⟩ (.int .i64 ((rd_T57 l0_1 x11_1).f0))).setCell ⟨gb161, 1, none⟩ (.int .i64 ((rd_T57 l0_1 x11_1).f1))).heap[gb161]? = some (.cells #[.int .i64 ((rd_T57 l0_1 x11_1).f0), .int .i64 ((rd_T57 l0_1 x11_1).f1)] 57 (0, 0))) := ⟨by (with_reducible repeat (first | refine blk_drewN ?_ _ | refine blk_drew ?_ | refine blk_alloc ?_ _)); refine blk_put (cs := #[.int .i64 ((rd_T57 l0_1 x11_1).f0), .int .i64 0]) ?_ 1 _ rfl; (with_reducible repeat (first | refine blk_drewN ?_ _ | refine blk_drew ?_ | refine blk_alloc ?_ _)); refine blk_put (cs := #[.int .i64 0, .int .i64 0]) ?_ 0 _ rfl; exact Bz BK161⟩
            have n2_ : Aside0 (Below w.heap.size w ((w12.setCell ⟨gb161, 0, none⟩ (.int .i64 ((rd_T57 l0_1 x11_1).f0))).setCell ⟨gb161, 1, none⟩ (.int .i64 ((rd_T57 l0_1 x11_1).f1)))) := ⟨by exact Lz2 HB GE155 GE161⟩
            (try clear BK155)
            (try clear BK161)
            (try clear HB)
            generalize ((w12.setCell ⟨gb161, 0, none⟩ (.int .i64 ((rd_T57 l0_1 x11_1).f0))).setCell ⟨gb161, 1, none⟩ (.int .i64 ((rd_T57 l0_1 x11_1).f1))) = w20 at n0_ n1_ n2_ ⊢
            have BK155 := n0_
            have BK161 := n1_
            have HB := n2_
            clear n0_ n1_ n2_
            replace BK155 := Aside0.mk (blk_drew BK155.out)
            replace BK161 := Aside0.mk (blk_drew BK161.out)
            replace HB := Aside0.mk (below_drew1 HB.out)
            have p162 : 0 ≤ ((ji16) : Int) := ofA
            have q162 : (ji16) < (l0_1.length : Int) := ofA
            obtain ⟨ad162, e162, hx162_0, hx162_1⟩ := at_T57 HR0_1.out (ji16) p162 q162
            have hw162_1 := hx162_1
            have hw162_0 := hx162_0
            obtain rfl : ad160 = ad162 := (by injection e162)
            replace hx162_0 := (HB.out.cell (World.block_lt_of_cell? w _ hx162_0)).trans hx162_0
            replace hx162_1 := (HB.out.cell (World.block_lt_of_cell? w _ hx162_1)).trans hx162_1
            replace p162 := eq_true p162
            replace q162 := eq_true q162
            refine start_ (n := 38) (S := fun w' => w'.cell? ⟨gb161, 0, none⟩ = some (.int .i64 ((rd_T57 l0_1 x11_1).f0)) ∧ w'.cell? ⟨gb161, 1, none⟩ = some (.int .i64 ((rd_T57 l0_1 x11_1).f1)) ∧ w'.cell? ⟨gb155, 0, none⟩ = some (.int .i64 a0_0) ∧ w'.cell? ⟨gb155, 1, none⟩ = some (.slice (some ad160) l0_1.length c0_1) ∧ w'.cell? (ad160.add (((ji16)).toNat * 2)) = some (.int .i64 ((rd_T57 l0_1 (ji16)).f0)) ∧ w'.cell? ⟨(ad160.add (((ji16)).toNat * 2)).block, (ad160.add (((ji16)).toNat * 2)).off + 1, none⟩ = some (.int .i64 ((rd_T57 l0_1 (ji16)).f1))) (ds := []) #[false, false, false, false, false, false, false, false, false, false, false, false, false, false, false, false, false, false, false, false, false, false, false, false, false, false, false, false, false, false, false, false, false, false, false, false, false, false] (by kernel_rfl) rfl rfl ⟨(blk_cell BK161.out 0).trans rfl, (blk_cell BK161.out 1).trans rfl, (blk_cell BK155.out 0).trans rfl, (blk_cell BK155.out 1).trans rfl, ((HB.out.cell (World.block_lt_of_cell? w _ hw162_0)).trans hw162_0), ((HB.out.cell (World.block_lt_of_cell? w _ hw162_1)).trans hw162_1)⟩ (fun hHeld => ?_); refine with_tabW spec_GraphOk.tab6 spec_GraphOk.bits6 (fun HT_ HW_ => ?_)
            generalize w20.drew = w21 at BK155 BK161 HB hx162_0 hx162_1 hHeld ⊢
            refine pureT_ 0 16 HT_ ?_
            refine pureT_ 1 17 HT_ ?_
            refine pureT_ 2 18 HT_ ?_
            refine pureT_ 3 19 HT_ ?_
            refine pureT_ 5 21 HT_ ?_
            refine pureT_ 7 23 HT_ ?_
            refine pureT_ 8 24 HT_ ?_
            refine takeT_ 4 20 HT_ HW_ hHeld rfl (by rintro w' ⟨s0, s1, s2, s3, s4, s5⟩; go_simp; with_reducible rfl) ?_
            refine takeT_ 6 22 HT_ HW_ hHeld rfl (by rintro w' ⟨s0, s1, s2, s3, s4, s5⟩; go_simp; with_reducible rfl) ?_
            refine pureT_ 9 25 HT_ ?_
            refine pureT_ 10 26 HT_ ?_
            refine takeT_ 11 27 HT_ HW_ hHeld rfl (by rintro w' ⟨s0, s1, s2, s3, s4, s5⟩; go_simp; with_reducible rfl) ?_
            refine pureT_ 12 28 HT_ ?_
            refine pureT_ 13 29 HT_ ?_
            refine pureU_ 14 30 HT_ ?_
            refine pureU_ 15 31 HT_ ?_
            refine pureU_ 16 32 HT_ ?_
            refine pureU_ 17 33 HT_ ?_
            refine pureU_ 18 34 HT_ ?_
            refine pureU_ 19 35 HT_ ?_
            refine pureU_ 20 36 HT_ ?_
            refine pureU_ 21 37 HT_ ?_
            refine pureU_ 22 38 HT_ ?_
            refine pureU_ 23 39 HT_ ?_
            refine pureU_ 24 40 HT_ ?_
            refine pureU_ 25 41 HT_ ?_
            refine pureU_ 26 42 HT_ ?_
            refine pureU_ 27 43 HT_ ?_
            refine pureU_ 28 44 HT_ ?_
            refine pureU_ 29 45 HT_ ?_
            refine pureU_ 30 46 HT_ ?_
            refine pureU_ 31 47 HT_ ?_
            refine pureU_ 32 48 HT_ ?_
            refine pureU_ 33 49 HT_ ?_
            refine pureU_ 34 50 HT_ ?_
            refine pureU_ 35 51 HT_ ?_
            refine pureT_ 36 52 HT_ ?_
            refine pureT_ 37 53 HT_ ?_
            refine done_ (done_of HT_.out (by kernel_rfl)) ?_
            try go_wp2
            go_meet
            case rel => exact ⟨_, (true), eqA, H', ⟨by have := HK1.out; first | omega | exact Nat.le_refl _⟩, ⟨by exact Bz BK155⟩, ⟨by exact Bz BK161⟩, ⟨by exact Lz2 HB GE155 GE161⟩⟩
           rw [if_neg c19] at H
           have c19b0 : decide (((rd_T57 l0_1 x11_1).f0) < ((rd_T57 l0_1 (ji16)).f0)) = false := decide_eq_false c19
           clear c19
           by_cases c22 : ((rd_T57 l0_1 x11_1).f0) = ((rd_T57 l0_1 (ji16)).f0)
           ·rw [if_pos c22] at H
            have c22b0 : (((rd_T57 l0_1 x11_1).f0) == ((rd_T57 l0_1 (ji16)).f0)) = true := beq_iff_eq.mpr c22
            have c22b1 : (((rd_T57 l0_1 x11_1).f0) != ((rd_T57 l0_1 (ji16)).f0)) = false := bne_eq_false_iff_eq.mpr c22
            clear c22
            have H' := Aside0.mk H
            clear H
            try go_wp2
            have n0_ : Aside0 (((w12.setCell ⟨gb161, 0, none⟩ (.int .i64 ((rd_T57 l0_1 x11_1).f0))).setCell ⟨gb161, 1, none⟩ (.int .i64 ((rd_T57 l0_1 x11_1).f1))).heap[gb155]? = some (.cells #[.int .i64 a0_0, .slice (some ad160) l0_1.length c0_1] 30 (0, 0))) := ⟨by (with_reducible repeat (first | refine blk_drewN ?_ _ | refine blk_drew ?_ | refine blk_alloc ?_ _)); refine blk_far ?_ NB155_161.out _; (with_reducible repeat (first | refine blk_drewN ?_ _ | refine blk_drew ?_ | refine blk_alloc ?_ _)); refine blk_far ?_ NB155_161.out _; exact Bz BK155⟩
            have n1_ : Aside0 (((w12.setCell ⟨gb161, 0, none⟩ (.int .i64 ((rd_T57 l0_1 x11_1).f0))).setCell ⟨gb161, 1, none⟩ (.int .i64 ((rd_T57 l0_1 x11_1).f1))).heap[gb161]? = some (.cells #[.int .i64 ((rd_T57 l0_1 x11_1).f0), .int .i64 ((rd_T57 l0_1 x11_1).f1)] 57 (0, 0))) := ⟨by (with_reducible repeat (first | refine blk_drewN ?_ _ | refine blk_drew ?_ | refine blk_alloc ?_ _)); refine blk_put (cs := #[.int .i64 ((rd_T57 l0_1 x11_1).f0), .int .i64 0]) ?_ 1 _ rfl; (with_reducible repeat (first | refine blk_drewN ?_ _ | refine blk_drew ?_ | refine blk_alloc ?_ _)); refine blk_put (cs := #[.int .i64 0, .int .i64 0]) ?_ 0 _ rfl; exact Bz BK161⟩
            have n2_ : Aside0 (Below w.heap.size w ((w12.setCell ⟨gb161, 0, none⟩ (.int .i64 ((rd_T57 l0_1 x11_1).f0))).setCell ⟨gb161, 1, none⟩ (.int .i64 ((rd_T57 l0_1 x11_1).f1)))) := ⟨by exact Lz2 HB GE155 GE161⟩
            (try clear BK155)
            (try clear BK161)
            (try clear HB)
            generalize ((w12.setCell ⟨gb161, 0, none⟩ (.int .i64 ((rd_T57 l0_1 x11_1).f0))).setCell ⟨gb161, 1, none⟩ (.int .i64 ((rd_T57 l0_1 x11_1).f1))) = w23 at n0_ n1_ n2_ ⊢
            have BK155 := n0_
            have BK161 := n1_
            have HB := n2_
            clear n0_ n1_ n2_
            replace BK155 := Aside0.mk (blk_drew BK155.out)
            replace BK161 := Aside0.mk (blk_drew BK161.out)
            replace HB := Aside0.mk (below_drew1 HB.out)
            have p162 : 0 ≤ ((ji16) : Int) := ofA
            have q162 : (ji16) < (l0_1.length : Int) := ofA
            obtain ⟨ad162, e162, hx162_0, hx162_1⟩ := at_T57 HR0_1.out (ji16) p162 q162
            have hw162_1 := hx162_1
            have hw162_0 := hx162_0
            obtain rfl : ad160 = ad162 := (by injection e162)
            replace hx162_0 := (HB.out.cell (World.block_lt_of_cell? w _ hx162_0)).trans hx162_0
            replace hx162_1 := (HB.out.cell (World.block_lt_of_cell? w _ hx162_1)).trans hx162_1
            replace p162 := eq_true p162
            replace q162 := eq_true q162
            have p163 : 0 ≤ ((ji16) : Int) := ofA
            have q163 : (ji16) < (l0_1.length : Int) := ofA
            obtain ⟨ad163, e163, hx163_0, hx163_1⟩ := at_T57 HR0_1.out (ji16) p163 q163
            have hw163_1 := hx163_1
            have hw163_0 := hx163_0
            obtain rfl : ad160 = ad163 := (by injection e163)
            replace hx163_0 := (HB.out.cell (World.block_lt_of_cell? w _ hx163_0)).trans hx163_0
            replace hx163_1 := (HB.out.cell (World.block_lt_of_cell? w _ hx163_1)).trans hx163_1
            replace p163 := eq_true p163
            replace q163 := eq_true q163
            have p164 : 0 ≤ ((ji16) : Int) := ofA
            have q164 : (ji16) < (l0_1.length : Int) := ofA
            obtain ⟨ad164, e164, hx164_0, hx164_1⟩ := at_T57 HR0_1.out (ji16) p164 q164
            have hw164_1 := hx164_1
            have hw164_0 := hx164_0
            obtain rfl : ad160 = ad164 := (by injection e164)
            replace hx164_0 := (HB.out.cell (World.block_lt_of_cell? w _ hx164_0)).trans hx164_0
            replace hx164_1 := (HB.out.cell (World.block_lt_of_cell? w _ hx164_1)).trans hx164_1
            replace p164 := eq_true p164
            replace q164 := eq_true q164
            refine start_ (n := 38) (S := fun w' => w'.cell? ⟨gb161, 0, none⟩ = some (.int .i64 ((rd_T57 l0_1 x11_1).f0)) ∧ w'.cell? ⟨gb161, 1, none⟩ = some (.int .i64 ((rd_T57 l0_1 x11_1).f1)) ∧ w'.cell? ⟨gb155, 0, none⟩ = some (.int .i64 a0_0) ∧ w'.cell? ⟨gb155, 1, none⟩ = some (.slice (some ad160) l0_1.length c0_1) ∧ w'.cell? (ad160.add (((ji16)).toNat * 2)) = some (.int .i64 ((rd_T57 l0_1 (ji16)).f0)) ∧ w'.cell? ⟨(ad160.add (((ji16)).toNat * 2)).block, (ad160.add (((ji16)).toNat * 2)).off + 1, none⟩ = some (.int .i64 ((rd_T57 l0_1 (ji16)).f1)) ∧ w'.cell? (ad160.add (((ji16)).toNat * 2)) = some (.int .i64 ((rd_T57 l0_1 (ji16)).f0)) ∧ w'.cell? ⟨(ad160.add (((ji16)).toNat * 2)).block, (ad160.add (((ji16)).toNat * 2)).off + 1, none⟩ = some (.int .i64 ((rd_T57 l0_1 (ji16)).f1)) ∧ w'.cell? (ad160.add (((ji16)).toNat * 2)) = some (.int .i64 ((rd_T57 l0_1 (ji16)).f0)) ∧ w'.cell? ⟨(ad160.add (((ji16)).toNat * 2)).block, (ad160.add (((ji16)).toNat * 2)).off + 1, none⟩ = some (.int .i64 ((rd_T57 l0_1 (ji16)).f1))) (ds := []) #[false, false, false, false, false, false, false, false, false, false, false, false, false, false, false, false, false, false, false, false, false, false, false, false, false, false, false, false, false, false, false, false, false, false, false, false, false, false] (by kernel_rfl) rfl rfl ⟨(blk_cell BK161.out 0).trans rfl, (blk_cell BK161.out 1).trans rfl, (blk_cell BK155.out 0).trans rfl, (blk_cell BK155.out 1).trans rfl, ((HB.out.cell (World.block_lt_of_cell? w _ hw162_0)).trans hw162_0), ((HB.out.cell (World.block_lt_of_cell? w _ hw162_1)).trans hw162_1), ((HB.out.cell (World.block_lt_of_cell? w _ hw163_0)).trans hw163_0), ((HB.out.cell (World.block_lt_of_cell? w _ hw163_1)).trans hw163_1), ((HB.out.cell (World.block_lt_of_cell? w _ hw164_0)).trans hw164_0), ((HB.out.cell (World.block_lt_of_cell? w _ hw164_1)).trans hw164_1)⟩ (fun hHeld => ?_); refine with_tabW spec_GraphOk.tab6 spec_GraphOk.bits6 (fun HT_ HW_ => ?_)
            generalize w23.drew = w24 at BK155 BK161 HB hx162_0 hx162_1 hx163_0 hx163_1 hx164_0 hx164_1 hHeld ⊢
            refine pureT_ 0 16 HT_ ?_
            refine pureT_ 1 17 HT_ ?_
            refine pureT_ 2 18 HT_ ?_
            refine pureT_ 3 19 HT_ ?_
            refine pureT_ 5 21 HT_ ?_
            refine pureT_ 7 23 HT_ ?_
            refine pureT_ 8 24 HT_ ?_
            refine takeT_ 4 20 HT_ HW_ hHeld rfl (by rintro w' ⟨s0, s1, s2, s3, s4, s5, s6, s7, s8, s9⟩; go_simp; with_reducible rfl) ?_
            refine takeT_ 6 22 HT_ HW_ hHeld rfl (by rintro w' ⟨s0, s1, s2, s3, s4, s5, s6, s7, s8, s9⟩; go_simp; with_reducible rfl) ?_
            refine pureT_ 9 25 HT_ ?_
            refine pureT_ 10 26 HT_ ?_
            refine takeT_ 11 27 HT_ HW_ hHeld rfl (by rintro w' ⟨s0, s1, s2, s3, s4, s5, s6, s7, s8, s9⟩; go_simp; with_reducible rfl) ?_
            refine pureT_ 12 28 HT_ ?_
            refine pureT_ 13 29 HT_ ?_
            refine pureT_ 14 30 HT_ ?_
            refine pureT_ 16 32 HT_ ?_
            refine pureT_ 18 34 HT_ ?_
            refine pureT_ 19 35 HT_ ?_
            refine takeT_ 15 31 HT_ HW_ hHeld rfl (by rintro w' ⟨s0, s1, s2, s3, s4, s5, s6, s7, s8, s9⟩; go_simp; with_reducible rfl) ?_
            refine takeT_ 17 33 HT_ HW_ hHeld rfl (by rintro w' ⟨s0, s1, s2, s3, s4, s5, s6, s7, s8, s9⟩; go_simp; with_reducible rfl) ?_
            refine pureT_ 20 36 HT_ ?_
            refine pureT_ 21 37 HT_ ?_
            refine takeT_ 22 38 HT_ HW_ hHeld rfl (by rintro w' ⟨s0, s1, s2, s3, s4, s5, s6, s7, s8, s9⟩; go_simp; with_reducible rfl) ?_
            refine pureT_ 23 39 HT_ ?_
            refine pureT_ 24 40 HT_ ?_
            refine pureT_ 25 41 HT_ ?_
            refine pureT_ 27 43 HT_ ?_
            refine pureT_ 29 45 HT_ ?_
            refine pureT_ 30 46 HT_ ?_
            refine takeT_ 26 42 HT_ HW_ hHeld rfl (by rintro w' ⟨s0, s1, s2, s3, s4, s5, s6, s7, s8, s9⟩; go_simp; with_reducible rfl) ?_
            refine takeT_ 28 44 HT_ HW_ hHeld rfl (by rintro w' ⟨s0, s1, s2, s3, s4, s5, s6, s7, s8, s9⟩; go_simp; with_reducible rfl) ?_
            refine pureT_ 31 47 HT_ ?_
            refine pureT_ 32 48 HT_ ?_
            refine takeT_ 33 49 HT_ HW_ hHeld rfl (by rintro w' ⟨s0, s1, s2, s3, s4, s5, s6, s7, s8, s9⟩; go_simp; with_reducible rfl) ?_
            refine pureT_ 34 50 HT_ ?_
            refine pureT_ 35 51 HT_ ?_
            refine pureT_ 36 52 HT_ ?_
            refine pureT_ 37 53 HT_ ?_
            refine done_ (done_of HT_.out (by kernel_rfl)) ?_
            try go_wp2
            go_meet
            case rel => exact ⟨_, (decide (((rd_T57 l0_1 x11_1).f1) < ((rd_T57 l0_1 (ji16)).f1))), (by first | rfl | (simp; done) | (simp only [← hji16] <;> (first | rfl | simp)) | (simp [*]; done)), H', ⟨by have := HK1.out; first | omega | exact Nat.le_refl _⟩, ⟨by exact Bz BK155⟩, ⟨by exact Bz BK161⟩, ⟨by exact Lz2 HB GE155 GE161⟩⟩
           rw [if_neg c22] at H
           have c22b0 : (((rd_T57 l0_1 x11_1).f0) == ((rd_T57 l0_1 (ji16)).f0)) = false := beq_eq_false_iff_ne.mpr c22
           have c22b1 : (((rd_T57 l0_1 x11_1).f0) != ((rd_T57 l0_1 (ji16)).f0)) = true := bne_iff_ne.mpr c22
           have H' := Aside0.mk H
           clear H
           try go_wp2
           have n0_ : Aside0 (((w12.setCell ⟨gb161, 0, none⟩ (.int .i64 ((rd_T57 l0_1 x11_1).f0))).setCell ⟨gb161, 1, none⟩ (.int .i64 ((rd_T57 l0_1 x11_1).f1))).heap[gb155]? = some (.cells #[.int .i64 a0_0, .slice (some ad160) l0_1.length c0_1] 30 (0, 0))) := ⟨by (with_reducible repeat (first | refine blk_drewN ?_ _ | refine blk_drew ?_ | refine blk_alloc ?_ _)); refine blk_far ?_ NB155_161.out _; (with_reducible repeat (first | refine blk_drewN ?_ _ | refine blk_drew ?_ | refine blk_alloc ?_ _)); refine blk_far ?_ NB155_161.out _; exact Bz BK155⟩
           have n1_ : Aside0 (((w12.setCell ⟨gb161, 0, none⟩ (.int .i64 ((rd_T57 l0_1 x11_1).f0))).setCell ⟨gb161, 1, none⟩ (.int .i64 ((rd_T57 l0_1 x11_1).f1))).heap[gb161]? = some (.cells #[.int .i64 ((rd_T57 l0_1 x11_1).f0), .int .i64 ((rd_T57 l0_1 x11_1).f1)] 57 (0, 0))) := ⟨by (with_reducible repeat (first | refine blk_drewN ?_ _ | refine blk_drew ?_ | refine blk_alloc ?_ _)); refine blk_put (cs := #[.int .i64 ((rd_T57 l0_1 x11_1).f0), .int .i64 0]) ?_ 1 _ rfl; (with_reducible repeat (first | refine blk_drewN ?_ _ | refine blk_drew ?_ | refine blk_alloc ?_ _)); refine blk_put (cs := #[.int .i64 0, .int .i64 0]) ?_ 0 _ rfl; exact Bz BK161⟩
           have n2_ : Aside0 (Below w.heap.size w ((w12.setCell ⟨gb161, 0, none⟩ (.int .i64 ((rd_T57 l0_1 x11_1).f0))).setCell ⟨gb161, 1, none⟩ (.int .i64 ((rd_T57 l0_1 x11_1).f1)))) := ⟨by exact Lz2 HB GE155 GE161⟩
           (try clear BK155)
           (try clear BK161)
           (try clear HB)
           generalize ((w12.setCell ⟨gb161, 0, none⟩ (.int .i64 ((rd_T57 l0_1 x11_1).f0))).setCell ⟨gb161, 1, none⟩ (.int .i64 ((rd_T57 l0_1 x11_1).f1))) = w25 at n0_ n1_ n2_ ⊢
           have BK155 := n0_
           have BK161 := n1_
           have HB := n2_
           clear n0_ n1_ n2_
           replace BK155 := Aside0.mk (blk_drew BK155.out)
           replace BK161 := Aside0.mk (blk_drew BK161.out)
           replace HB := Aside0.mk (below_drew1 HB.out)
           have p162 : 0 ≤ ((ji16) : Int) := ofA
           have q162 : (ji16) < (l0_1.length : Int) := ofA
           obtain ⟨ad162, e162, hx162_0, hx162_1⟩ := at_T57 HR0_1.out (ji16) p162 q162
           have hw162_1 := hx162_1
           have hw162_0 := hx162_0
           obtain rfl : ad160 = ad162 := (by injection e162)
           replace hx162_0 := (HB.out.cell (World.block_lt_of_cell? w _ hx162_0)).trans hx162_0
           replace hx162_1 := (HB.out.cell (World.block_lt_of_cell? w _ hx162_1)).trans hx162_1
           replace p162 := eq_true p162
           replace q162 := eq_true q162
           have p163 : 0 ≤ ((ji16) : Int) := ofA
           have q163 : (ji16) < (l0_1.length : Int) := ofA
           obtain ⟨ad163, e163, hx163_0, hx163_1⟩ := at_T57 HR0_1.out (ji16) p163 q163
           have hw163_1 := hx163_1
           have hw163_0 := hx163_0
           obtain rfl : ad160 = ad163 := (by injection e163)
           replace hx163_0 := (HB.out.cell (World.block_lt_of_cell? w _ hx163_0)).trans hx163_0
           replace hx163_1 := (HB.out.cell (World.block_lt_of_cell? w _ hx163_1)).trans hx163_1
           replace p163 := eq_true p163
           replace q163 := eq_true q163
           refine start_ (n := 38) (S := fun w' => w'.cell? ⟨gb161, 0, none⟩ = some (.int .i64 ((rd_T57 l0_1 x11_1).f0)) ∧ w'.cell? ⟨gb161, 1, none⟩ = some (.int .i64 ((rd_T57 l0_1 x11_1).f1)) ∧ w'.cell? ⟨gb155, 0, none⟩ = some (.int .i64 a0_0) ∧ w'.cell? ⟨gb155, 1, none⟩ = some (.slice (some ad160) l0_1.length c0_1) ∧ w'.cell? (ad160.add (((ji16)).toNat * 2)) = some (.int .i64 ((rd_T57 l0_1 (ji16)).f0)) ∧ w'.cell? ⟨(ad160.add (((ji16)).toNat * 2)).block, (ad160.add (((ji16)).toNat * 2)).off + 1, none⟩ = some (.int .i64 ((rd_T57 l0_1 (ji16)).f1)) ∧ w'.cell? (ad160.add (((ji16)).toNat * 2)) = some (.int .i64 ((rd_T57 l0_1 (ji16)).f0)) ∧ w'.cell? ⟨(ad160.add (((ji16)).toNat * 2)).block, (ad160.add (((ji16)).toNat * 2)).off + 1, none⟩ = some (.int .i64 ((rd_T57 l0_1 (ji16)).f1))) (ds := []) #[false, false, false, false, false, false, false, false, false, false, false, false, false, false, false, false, false, false, false, false, false, false, false, false, false, false, false, false, false, false, false, false, false, false, false, false, false, false] (by kernel_rfl) rfl rfl ⟨(blk_cell BK161.out 0).trans rfl, (blk_cell BK161.out 1).trans rfl, (blk_cell BK155.out 0).trans rfl, (blk_cell BK155.out 1).trans rfl, ((HB.out.cell (World.block_lt_of_cell? w _ hw162_0)).trans hw162_0), ((HB.out.cell (World.block_lt_of_cell? w _ hw162_1)).trans hw162_1), ((HB.out.cell (World.block_lt_of_cell? w _ hw163_0)).trans hw163_0), ((HB.out.cell (World.block_lt_of_cell? w _ hw163_1)).trans hw163_1)⟩ (fun hHeld => ?_); refine with_tabW spec_GraphOk.tab6 spec_GraphOk.bits6 (fun HT_ HW_ => ?_)
           generalize w25.drew = w26 at BK155 BK161 HB hx162_0 hx162_1 hx163_0 hx163_1 hHeld ⊢
           refine pureT_ 0 16 HT_ ?_
           refine pureT_ 1 17 HT_ ?_
           refine pureT_ 2 18 HT_ ?_
           refine pureT_ 3 19 HT_ ?_
           refine pureT_ 5 21 HT_ ?_
           refine pureT_ 7 23 HT_ ?_
           refine pureT_ 8 24 HT_ ?_
           refine takeT_ 4 20 HT_ HW_ hHeld rfl (by rintro w' ⟨s0, s1, s2, s3, s4, s5, s6, s7⟩; go_simp; with_reducible rfl) ?_
           refine takeT_ 6 22 HT_ HW_ hHeld rfl (by rintro w' ⟨s0, s1, s2, s3, s4, s5, s6, s7⟩; go_simp; with_reducible rfl) ?_
           refine pureT_ 9 25 HT_ ?_
           refine pureT_ 10 26 HT_ ?_
           refine takeT_ 11 27 HT_ HW_ hHeld rfl (by rintro w' ⟨s0, s1, s2, s3, s4, s5, s6, s7⟩; go_simp; with_reducible rfl) ?_
           refine pureT_ 12 28 HT_ ?_
           refine pureT_ 13 29 HT_ ?_
           refine pureT_ 14 30 HT_ ?_
           refine pureT_ 16 32 HT_ ?_
           refine pureT_ 18 34 HT_ ?_
           refine pureT_ 19 35 HT_ ?_
           refine takeT_ 15 31 HT_ HW_ hHeld rfl (by rintro w' ⟨s0, s1, s2, s3, s4, s5, s6, s7⟩; go_simp; with_reducible rfl) ?_
           refine takeT_ 17 33 HT_ HW_ hHeld rfl (by rintro w' ⟨s0, s1, s2, s3, s4, s5, s6, s7⟩; go_simp; with_reducible rfl) ?_
           refine pureT_ 20 36 HT_ ?_
           refine pureT_ 21 37 HT_ ?_
           refine takeT_ 22 38 HT_ HW_ hHeld rfl (by rintro w' ⟨s0, s1, s2, s3, s4, s5, s6, s7⟩; go_simp; with_reducible rfl) ?_
           refine pureT_ 23 39 HT_ ?_
           refine pureT_ 24 40 HT_ ?_
           refine pureU_ 25 41 HT_ ?_
           refine pureU_ 26 42 HT_ ?_
           refine pureU_ 27 43 HT_ ?_
           refine pureU_ 28 44 HT_ ?_
           refine pureU_ 29 45 HT_ ?_
           refine pureU_ 30 46 HT_ ?_
           refine pureU_ 31 47 HT_ ?_
           refine pureU_ 32 48 HT_ ?_
           refine pureU_ 33 49 HT_ ?_
           refine pureU_ 34 50 HT_ ?_
           refine pureT_ 35 51 HT_ ?_
           refine pureT_ 36 52 HT_ ?_
           refine pureT_ 37 53 HT_ ?_
           refine done_ (done_of HT_.out (by kernel_rfl)) ?_
           try go_wp2
           go_meet
           case rel => exact ⟨_, (false), eqA, H', ⟨by have := HK1.out; first | omega | exact Nat.le_refl _⟩, ⟨by exact Bz BK155⟩, ⟨by exact Bz BK161⟩, ⟨by exact Lz2 HB GE155 GE161⟩⟩
          rw [if_neg c18] at H
          exact absurd H (by simp)
         rw [if_neg c17] at H
         exact absurd H (by simp)
        rw [if_neg c15] at H
        have c15b0 : decide (0 < x11_1) = false := decide_eq_false c15
        clear c15
        (first | rw [c15b0] | (simp only [i64_w, i32_w]; rw [c15b0]) | skip)
        have H' := Aside0.mk H
        clear H
        try go_wp2
        have n0_ : Aside0 (((w12.setCell ⟨gb161, 0, none⟩ (.int .i64 ((rd_T57 l0_1 x11_1).f0))).setCell ⟨gb161, 1, none⟩ (.int .i64 ((rd_T57 l0_1 x11_1).f1))).heap[gb155]? = some (.cells #[.int .i64 a0_0, .slice (some ad160) l0_1.length c0_1] 30 (0, 0))) := ⟨by (with_reducible repeat (first | refine blk_drewN ?_ _ | refine blk_drew ?_ | refine blk_alloc ?_ _)); refine blk_far ?_ NB155_161.out _; (with_reducible repeat (first | refine blk_drewN ?_ _ | refine blk_drew ?_ | refine blk_alloc ?_ _)); refine blk_far ?_ NB155_161.out _; exact Bz BK155⟩
        have n1_ : Aside0 (((w12.setCell ⟨gb161, 0, none⟩ (.int .i64 ((rd_T57 l0_1 x11_1).f0))).setCell ⟨gb161, 1, none⟩ (.int .i64 ((rd_T57 l0_1 x11_1).f1))).heap[gb161]? = some (.cells #[.int .i64 ((rd_T57 l0_1 x11_1).f0), .int .i64 ((rd_T57 l0_1 x11_1).f1)] 57 (0, 0))) := ⟨by (with_reducible repeat (first | refine blk_drewN ?_ _ | refine blk_drew ?_ | refine blk_alloc ?_ _)); refine blk_put (cs := #[.int .i64 ((rd_T57 l0_1 x11_1).f0), .int .i64 0]) ?_ 1 _ rfl; (with_reducible repeat (first | refine blk_drewN ?_ _ | refine blk_drew ?_ | refine blk_alloc ?_ _)); refine blk_put (cs := #[.int .i64 0, .int .i64 0]) ?_ 0 _ rfl; exact Bz BK161⟩
        have n2_ : Aside0 (Below w.heap.size w ((w12.setCell ⟨gb161, 0, none⟩ (.int .i64 ((rd_T57 l0_1 x11_1).f0))).setCell ⟨gb161, 1, none⟩ (.int .i64 ((rd_T57 l0_1 x11_1).f1)))) := ⟨by exact Lz2 HB GE155 GE161⟩
        (try clear BK155)
        (try clear BK161)
        (try clear HB)
        generalize ((w12.setCell ⟨gb161, 0, none⟩ (.int .i64 ((rd_T57 l0_1 x11_1).f0))).setCell ⟨gb161, 1, none⟩ (.int .i64 ((rd_T57 l0_1 x11_1).f1))) = w27 at n0_ n1_ n2_ ⊢
        have BK155 := n0_
        have BK161 := n1_
        have HB := n2_
        clear n0_ n1_ n2_
        replace BK155 := Aside0.mk (blk_drew BK155.out)
        replace BK161 := Aside0.mk (blk_drew BK161.out)
        replace HB := Aside0.mk (below_drew1 HB.out)
        refine start_ (n := 38) (S := fun w' => True) (ds := []) #[false, false, false, false, false, false, false, false, false, false, false, false, false, false, false, false, false, false, false, false, false, false, false, false, false, false, false, false, false, false, false, false, false, false, false, false, false, false] (by kernel_rfl) rfl rfl trivial (fun hHeld => ?_); refine with_tabW spec_GraphOk.tab6 spec_GraphOk.bits6 (fun HT_ HW_ => ?_)
        generalize w27.drew = w28 at BK155 BK161 HB hHeld ⊢
        refine pureT_ 0 16 HT_ ?_
        refine pureT_ 1 17 HT_ ?_
        refine pureT_ 2 18 HT_ ?_
        refine pureU_ 3 19 HT_ ?_
        refine pureU_ 4 20 HT_ ?_
        refine pureU_ 5 21 HT_ ?_
        refine pureU_ 6 22 HT_ ?_
        refine pureU_ 7 23 HT_ ?_
        refine pureU_ 8 24 HT_ ?_
        refine pureU_ 9 25 HT_ ?_
        refine pureU_ 10 26 HT_ ?_
        refine pureU_ 11 27 HT_ ?_
        refine pureU_ 12 28 HT_ ?_
        refine pureU_ 13 29 HT_ ?_
        refine pureU_ 14 30 HT_ ?_
        refine pureU_ 15 31 HT_ ?_
        refine pureU_ 16 32 HT_ ?_
        refine pureU_ 17 33 HT_ ?_
        refine pureU_ 18 34 HT_ ?_
        refine pureU_ 19 35 HT_ ?_
        refine pureU_ 20 36 HT_ ?_
        refine pureU_ 21 37 HT_ ?_
        refine pureU_ 22 38 HT_ ?_
        refine pureU_ 23 39 HT_ ?_
        refine pureU_ 24 40 HT_ ?_
        refine pureU_ 25 41 HT_ ?_
        refine pureU_ 26 42 HT_ ?_
        refine pureU_ 27 43 HT_ ?_
        refine pureU_ 28 44 HT_ ?_
        refine pureU_ 29 45 HT_ ?_
        refine pureU_ 30 46 HT_ ?_
        refine pureU_ 31 47 HT_ ?_
        refine pureU_ 32 48 HT_ ?_
        refine pureU_ 33 49 HT_ ?_
        refine pureU_ 34 50 HT_ ?_
        refine pureU_ 35 51 HT_ ?_
        refine pureU_ 36 52 HT_ ?_
        refine pureT_ 37 53 HT_ ?_
        refine done_ (done_of HT_.out (by kernel_rfl)) ?_
        try go_wp2
        go_meet
        case rel => exact ⟨_, (false), eqA, H', ⟨by have := HK1.out; first | omega | exact Nat.le_refl _⟩, ⟨by exact Bz BK155⟩, ⟨by exact Bz BK161⟩, ⟨by exact Lz2 HB GE155 GE161⟩⟩
       case rest =>
        clear HC11
        try clear c15
        try clear c15b0
        try clear c17
        try clear c18
        try clear c22
        try clear c22b0
        try clear c22b1
        try clear p162
        try clear p163
        try clear q162
        try clear q163
        obtain ⟨kq, x53_10, rfl, HA, HJ10, BK155, BK161, HB⟩ := hcut
        cases kq with
        | zero => exact absurd HA.out (by simp [spec_GraphOk.j1])
        | succ kj10 =>
         have H := HA.out
         clear HA
         simp only [spec_GraphOk.j1] at H
         by_cases c29 : x53_10 = true
         ·subst c29
          have H1 : (some false) = some r := by rw [if_pos rfl] at H; exact H
          clear H
          have H := H1
          clear H1
          obtain rfl := Option.some.inj H
          go_wp2
          go_ret
          exact ⟨by first | rfl | (simp [errW_none, errW_some] <;> rfl) | (simp [*, errW_none, errW_some] <;> rfl), by exact Lz2 HB GE155 GE161⟩
         replace c29 := Bool.eq_false_iff.mpr c29
         subst c29
         have H1 : (spec_GraphOk.l0 kj10 l0_1 (l0_1.length : Int) (wrap64 (x11_1 + 1)) a0_0 l0_1) = some r := by rw [if_neg (show ¬ (false = true) by decide)] at H; exact H
         clear H
         have H := H1
         clear H1
         have H' := Aside0.mk H
         clear H
         go_wp2
         go_roundg kj10
         case measure => have := HK1.out; have := HJ10.out; omega
         case rel => exact ⟨(wrap64 (x11_1 + 1)), eqA, H', ⟨by have := HK1.out; have := HJ10.out; omega⟩, ⟨by exact Bz BK155⟩, ⟨by exact Lz2 HB GE155 GE161⟩⟩
      rw [if_neg c10] at H
      exact absurd H (by simp)
     rw [if_neg c9] at H
     exact absurd H (by simp)
    rw [if_neg c8] at H
    have c8b0 : decide (x11_1 < (l0_1.length : Int)) = false := decide_eq_false c8
    clear c8
    replace H := Option.bind_eq_some_iff.mp H
    obtain ⟨t157, A300, H⟩ := H
    replace H : (some ((t157.length : Int) == a0_0)) = some r := H
    have A30 := Aside0.mk A300
    clear A300
    obtain rfl := Option.some.inj H
    try go_wp2
    replace BK155 := Aside0.mk (blk_drew BK155.out)
    replace HB := Aside0.mk (below_drew1 HB.out)
    refine start_ (n := 7) (S := fun w' => w'.cell? ⟨gb155, 0, none⟩ = some (.int .i64 a0_0) ∧ w'.cell? ⟨gb155, 1, none⟩ = some (.slice A0_1 l0_1.length c0_1)) (ds := []) #[false, false, false, false, false, false, false] (by kernel_rfl) rfl rfl ⟨(blk_cell BK155.out 0).trans rfl, (blk_cell BK155.out 1).trans rfl⟩ (fun hHeld => ?_)
    generalize wr.drew = w31 at BK155 HB hHeld ⊢
    refine pure_ (i := 3) (N := some 58) (v := ?_) (a' := ?_) #[false, false, false, true, false, false, false] rfl rfl (by kernel_rfl) (fun _ _ _ h => h) (Or.inl ⟨by rfl, ?_⟩) ?_ ?_
    rotate_left
    ·intro w'
     go_simp
     with_reducible rfl
    rotate_left
    ·simp only [Act.put, List.setIfInBounds_toArray, List.set_cons_zero, List.set_cons_succ, i64_w, i32_w]
     rfl
    refine take_ (i := 0) (N := some 55) (v := ?_) (a' := ?_) #[true, false, false, true, false, false, false] rfl rfl (by kernel_rfl) (fun _ _ _ h => h) (Or.inl ⟨by rfl, ?_⟩) hHeld ?_ ?_
    rotate_left
    ·rintro w' ⟨s0, s1⟩
     go_simp
     with_reducible rfl
    rotate_left
    ·simp only [Act.put, List.setIfInBounds_toArray, List.set_cons_zero, List.set_cons_succ, i64_w, i32_w]
     rfl
    refine take_ (i := 4) (N := some 59) (v := ?_) (a' := ?_) #[true, false, false, true, true, false, false] rfl rfl (by kernel_rfl) (fun _ _ _ h => h) (Or.inl ⟨by rfl, ?_⟩) hHeld ?_ ?_
    rotate_left
    ·rintro w' ⟨s0, s1⟩
     go_simp
     with_reducible rfl
    rotate_left
    ·simp only [Act.put, List.setIfInBounds_toArray, List.set_cons_zero, List.set_cons_succ, i64_w, i32_w]
     rfl
    refine one_ (i := 1) (N := some 56) #[true, true, false, true, true, false, false] rfl rfl (by kernel_rfl) (by decide) (fun K hK => ?_)
    refine goes_ Try.func81 (by kernel_rfl) rfl #[.agg #[.int .i64 a0_0, .slice A0_1 l0_1.length c0_1]] (by rfl) rfl rfl (by (try simp only [List.map_toArray, List.map_cons, List.map_nil]); first | done | rfl | (simp only [List.length_drop, List.length_take]; rfl)) ?_
    with_reducible refine (spec_l02Reach.calls k1 a0_0 _ _ l0_1 t157 _ ?side1 ?side2 A30.out).mono ?_
    (case side1 => exact Cz ((Kd.C_below HR0_1.out HB.out)))
    (case side2 => exact HC0_1.out)
    rintro e w32 ⟨v158, rfl, ho0, hb⟩
    refine ⟨_, rfl, ?_⟩
    have HO159 := Aside0.mk (Kd.R_lower ho0 (below_size (by exact Lz1 HB GE155)))
    replace BK155 := Aside0.mk (blk_below (g := gb155) (o := .cells #[.int .i64 a0_0, .slice A0_1 l0_1.length c0_1] 30 (0, 0)) (Bz BK155) hb)
    replace HB := Aside0.mk (below_step (by exact Lz1 HB GE155) hb)
    (try clear hb)
    (try clear hb2)
    (try clear hk)
    (try clear hi)
    (try clear ho0)
    obtain ⟨Ao33, co33, eo33⟩ := Kd.R_slice HO159.out
    (first | subst eo33 | (injection eo33 with f1_ f2_ f3_; have f4_ := f1_.symm; have f5_ := f3_.symm; clear f1_ f2_ f3_; subst f4_; subst f5_))
    refine hK.out _ _ ⟨(blk_cell BK155.out 0).trans rfl, (blk_cell BK155.out 1).trans rfl⟩ (fun hHeld => ?_)
    clear hK K
    refine norm_ (a' := ?_) ?_ ?_
    rotate_left
    ·show Act.put _ (some 56) _ = _
     simp only [Act.put, List.setIfInBounds_toArray, List.set_cons_zero, List.set_cons_succ, i64_w, i32_w]
     rfl
    refine pure_ (i := 2) (N := some 57) (v := ?_) (a' := ?_) #[true, true, true, true, true, false, false] rfl rfl (by kernel_rfl) (fun _ _ _ h => h) (Or.inl ⟨by rfl, ?_⟩) ?_ ?_
    rotate_left
    ·intro w'
     go_simp
     with_reducible rfl
    rotate_left
    ·simp only [Act.put, List.setIfInBounds_toArray, List.set_cons_zero, List.set_cons_succ, i64_w, i32_w]
     rfl
    refine pure_ (i := 5) (N := some 60) (v := ?_) (a' := ?_) #[true, true, true, true, true, true, false] rfl rfl (by kernel_rfl) (fun _ _ _ h => h) (Or.inl ⟨by rfl, ?_⟩) ?_ ?_
    rotate_left
    ·intro w'
     go_simp
     with_reducible rfl
    rotate_left
    ·simp only [Act.put, List.setIfInBounds_toArray, List.set_cons_zero, List.set_cons_succ, i64_w, i32_w]
     rfl
    refine pure_ (i := 6) (N := some 2) (v := ?_) (a' := ?_) #[true, true, true, true, true, true, true] rfl rfl (by kernel_rfl) (fun _ _ _ h => h) (Or.inl ⟨by rfl, ?_⟩) ?_ ?_
    rotate_left
    ·intro w'
     go_simp
     with_reducible rfl
    rotate_left
    ·simp only [Act.put, List.setIfInBounds_toArray, List.set_cons_zero, List.set_cons_succ, i64_w, i32_w]
     rfl
    refine done_ (by kernel_rfl) ?_
    try go_wp2
    go_ret
    exact ⟨by first | rfl | (simp [errW_none, errW_some] <;> rfl) | (simp [*, errW_none, errW_some] <;> rfl), by exact Lz1 HB GE155⟩
 replace c3 := Bool.eq_false_iff.mpr c3
 subst c3
 have H1 : (some false) = some r := by rw [if_neg (show ¬ (false = true) by decide)] at H; exact H
 clear H
 have H := H1
 clear H1
 obtain rfl := Option.some.inj H
 go_enter Try.func47, Try.ntmps47
 go_wp2_with (first | ((with_reducible refine gate_dst (N := 1) rfl ?_); refine box_event ?hg (N := 1) ?hd (cs := #[.int .i64 a0_0, .slice A0_1 l0_1.length c0_1]) (t := 30) ?hr ?_; (case hd => rfl); (case hg => rfl); (case hr => first | (go_simp; done) | (go_simp; rfl)); intro gb155 hg w34 hbox hb; have BK155 := Aside0.mk (hbox); have GW155 := Aside0.mk ((by rw [hg]; exact (below_size (Lz HB)) : w.heap.size ≤ gb155)); have GE155 := Aside0.mk ((by rw [hg]; exact (below_size (Lz HB)) : w.heap.size ≤ gb155)); replace HB := Aside0.mk (below_step (Lz HB) hb); clear hb hbox hg; have hcz35_0 : w34.cell? ⟨gb155, 0, none⟩ = some (.int .i64 a0_0) := (blk_cell BK155.out 0).trans rfl; have hcz35_1 : w34.cell? ⟨gb155, 1, none⟩ = some (.slice A0_1 l0_1.length c0_1) := (blk_cell BK155.out 1).trans rfl; have hfz35_0 := blk_frozen BK155.out 0; have hfz35_1 := blk_frozen BK155.out 1) | ((with_reducible refine gate_callee (f := 80) rfl ?_); refine goesM_ (some 6) rfl rfl Try.func80 (by kernel_rfl) rfl #[.agg #[.int .i64 a0_0, .slice A0_1 l0_1.length c0_1]] rfl ?_; (with_reducible refine (spec_EdgesOk.calls k a0_0 _ _ l0_1 false _ ?side1 ?side2 A2.out).mono ?_); (case side1 => exact Cz ((Kd.C_below HR0_1.out HB.out))); (case side2 => exact HC0_1.out); rintro e w36 ⟨rfl, hb⟩; refine ⟨_, rfl, ?_⟩; replace BK155 := Aside0.mk (blk_below (g := gb155) (o := .cells #[.int .i64 a0_0, .slice A0_1 l0_1.length c0_1] 30 (0, 0)) (Bz BK155) hb); replace HB := Aside0.mk (below_step (by exact Lz1 HB GE155) hb); (try clear hb); (try clear hb2); (try clear hk); (try clear hi)))
 go_ret
 exact ⟨by first | rfl | (simp [errW_none, errW_some] <;> rfl) | (simp [*, errW_none, errW_some] <;> rfl), by exact Lz1 HB GE155⟩
mutual
def spec_AddEdge.j0 : Nat → Int → Int → Bool → Int → List (S57) → Option (Int × (List (S57)) × Bool)
 | 0, _, _, _, _, _ => none
 | k + 1, x1, x2, x42, x610000, x610001 => if x42 = true then (some (0, ([] : List (S57)), false)) else (spec_AddEdge.l0 k false x610001 (x610001.length : Int) 0 (mn x1 x2) (mx x1 x2) x610000 ([] : List (S57)))
def spec_AddEdge.l0 : Nat → Bool → List (S57) → Int → Int → Int → Int → Int → List (S57) → Option (Int × (List (S57)) × Bool)
 | 0, _, _, _, _, _, _, _, _ => none
 | k + 1, x10, x55, x56, x57, x615000, x615001, x616000, x616001 => if x57 < x56 then (if 0 ≤ x57 then (if x57 < (x55.length : Int) then (if x10 = true then (spec_AddEdge.j2 k x10 x55 x56 x57 false x615000 x615001 x616000 x616001 ((rd_T57 x55 x57).f0) ((rd_T57 x55 x57).f1)) else (if ((rd_T57 x55 x57).f0) > x615000 then (spec_AddEdge.j2 k x10 x55 x56 x57 true x615000 x615001 x616000 x616001 ((rd_T57 x55 x57).f0) ((rd_T57 x55 x57).f1)) else (if ((rd_T57 x55 x57).f0) = x615000 then (spec_AddEdge.j2 k x10 x55 x56 x57 (decide (((rd_T57 x55 x57).f1) > x615001)) x615000 x615001 x616000 x616001 ((rd_T57 x55 x57).f0) ((rd_T57 x55 x57).f1)) else (spec_AddEdge.j2 k x10 x55 x56 x57 false x615000 x615001 x616000 x616001 ((rd_T57 x55 x57).f0) ((rd_T57 x55 x57).f1))))) else (none)) else (none)) else (if x10 = true then (some (x616000, x616001, true)) else (if x616001.length < 8796093022208 then (some (x616000, (x616001 ++ [(⟨x615000, x615001⟩ : S57)]), true)) else (none)))
def spec_AddEdge.j2 : Nat → Bool → List (S57) → Int → Int → Bool → Int → Int → Int → List (S57) → Int → Int → Option (Int × (List (S57)) × Bool)
 | 0, _, _, _, _, _, _, _, _, _, _, _ => none
 | k + 1, x10, x55, x56, x57, x83, x615000, x615001, x616000, x616001, x618000, x618001 => if x83 = true then (if x616001.length < 8796093022208 then ((some (x616001 ++ [(⟨x615000, x615001⟩ : S57)] : List (S57))).bind fun y618 => (if y618.length < 8796093022208 then (spec_AddEdge.l0 k true x55 x56 (wrap64 (x57 + 1)) x615000 x615001 x616000 (y618 ++ [(⟨x618000, x618001⟩ : S57)])) else (none))) else (none)) else (if x616001.length < 8796093022208 then (spec_AddEdge.l0 k x10 x55 x56 (wrap64 (x57 + 1)) x615000 x615001 x616000 (x616001 ++ [(⟨x618000, x618001⟩ : S57)])) else (none))
end
def spec_AddEdge.f (k : Nat) (a0_0 : Int) (l0_1 : List (S57)) (a1 : Int) (a2 : Int) : Option (Int × (List (S57)) × Bool) := (spec_GraphOk.f k a0_0 l0_1).bind fun t611 => (if t611 = true then ((spec_l01In.f a1 0 (wrap64 (a0_0 - 1))).bind fun t612 => (if t612 = true then ((spec_l01In.f a2 0 (wrap64 (a0_0 - 1))).bind fun t613 => (if t613 = true then (if a1 = a2 then (spec_AddEdge.j0 k a1 a2 true a0_0 l0_1) else (spec_AddEdge.j0 k a1 a2 ((l0_1.length : Int) == 12) a0_0 l0_1)) else (spec_AddEdge.j0 k a1 a2 true a0_0 l0_1))) else (spec_AddEdge.j0 k a1 a2 true a0_0 l0_1))) else (spec_AddEdge.j0 k a1 a2 true a0_0 l0_1))
set_option maxHeartbeats 8000000 in
set_option maxRecDepth 100000 in
theorem spec_AddEdge.calls (k : Nat) (a0_0 : Int) (A0_1 : Option Addr) (c0_1 : Nat) (l0_1 : List (S57)) (a1 : Int) (a2 : Int) (r1 : Int) (r2 : List (S57)) (r3 : Bool) (w : World) (hr0_1 : Kd.C k57 w A0_1 l0_1.length l0_1) (hc0_1 : l0_1.length ≤ c0_1) (h : spec_AddEdge.f k a0_0 l0_1 a1 a2 = some (r1, r2, r3)) :
  Calls Try.prog 94 #[.agg #[.int .i64 a0_0, .slice A0_1 l0_1.length c0_1], .int .i64 a1, .int .i64 a2] w fun e w' => ∃ v1_ : Value, e = .returned (.tuple #[.agg #[.int .i64 r1, v1_], .bool r3]) ∧ Kd.R k57 57 w' w.heap.size (fun _ => True) v1_ r2 ∧ Below w.heap.size w w' := by
 have hu30 := Try.underlying30
 have hu57 := Try.underlying57
 have HR0_1 := Aside0.mk hr0_1
 have HC0_1 := Aside0.mk hc0_1
 clear hr0_1 hc0_1
 have HB := Aside0.mk (Below.refl w.heap.size w)
 have H : ((spec_GraphOk.f k a0_0 l0_1).bind fun t611 => (if t611 = true then ((spec_l01In.f a1 0 (wrap64 (a0_0 - 1))).bind fun t612 => (if t612 = true then ((spec_l01In.f a2 0 (wrap64 (a0_0 - 1))).bind fun t613 => (if t613 = true then (if a1 = a2 then (spec_AddEdge.j0 k a1 a2 true a0_0 l0_1) else (spec_AddEdge.j0 k a1 a2 ((l0_1.length : Int) == 12) a0_0 l0_1)) else (spec_AddEdge.j0 k a1 a2 true a0_0 l0_1))) else (spec_AddEdge.j0 k a1 a2 true a0_0 l0_1))) else (spec_AddEdge.j0 k a1 a2 true a0_0 l0_1))) = some (r1, r2, r3) := h
 clear h
 have HC4 := Aside0.mk H
 clear H
 go_enter Try.func94, Try.ntmps94
 go_upto_region 1 with (first | ((with_reducible refine gate_dst (N := 3) rfl ?_); (try (refine gate_guard (by rfl) ?_; dsimp only)); refine box_event ?hg (N := 3) ?hd (cs := #[.int .i64 a0_0, .slice A0_1 l0_1.length c0_1]) (t := 30) ?hr ?_; (case hd => rfl); (case hg => rfl); (case hr => first | (go_simp; done) | (go_simp; rfl)); intro gb609 hg w5 hbox hb; have BK609 := Aside0.mk (hbox); have GW609 := Aside0.mk ((by rw [hg]; exact (below_size (Lz HB)) : w.heap.size ≤ gb609)); have GE609 := Aside0.mk ((by rw [hg]; exact (below_size (Lz HB)) : w.heap.size ≤ gb609)); replace HB := Aside0.mk (below_step (Lz HB) hb); clear hb hbox hg) | ((with_reducible refine gate_dst (N := 6) rfl ?_); (try (refine gate_guard (by rfl) ?_; dsimp only)); refine box_event ?hg (N := 6) ?hd (cs := #[.int .i64 0, .slice none 0 0]) (t := 30) ?hr ?_; (case hd => rfl); (case hg => rfl); (case hr => first | (go_simp; done) | (go_simp; rfl)); intro gb610 hg w6 hbox hb; have BK610 := Aside0.mk (hbox); have GW610 := Aside0.mk ((by rw [hg]; exact (below_size (by exact Lz1 HB GE609)) : w.heap.size ≤ gb610)); have GE610 := Aside0.mk ((by rw [hg]; exact (below_size (by exact Lz1 HB GE609)) : w.heap.size ≤ gb610)); replace HB := Aside0.mk (below_step (by exact Lz1 HB GE609) hb); have NB609_610 := Aside0.mk ((by rw [hg]; exact Nat.ne_of_lt (blk_lt (g := gb609) (o := .cells #[.int .i64 a0_0, .slice A0_1 l0_1.length c0_1] 30 (0, 0)) (Bz BK609)) : gb609 ≠ gb610)); have NB610_609 := Aside0.mk ((by rw [hg]; exact Nat.ne_of_gt (blk_lt (g := gb609) (o := .cells #[.int .i64 a0_0, .slice A0_1 l0_1.length c0_1] 30 (0, 0)) (Bz BK609)) : gb610 ≠ gb609)); replace BK609 := Aside0.mk (blk_below (g := gb609) (o := .cells #[.int .i64 a0_0, .slice A0_1 l0_1.length c0_1] 30 (0, 0)) (Bz BK609) hb); clear hb hbox hg))
 (try simp only [Act.put, List.setIfInBounds_toArray, List.set_cons_zero, List.set_cons_succ])
 go_cut [42] (fun v42 wc => ∃ (kq : Nat) (x42_3 : Bool), v42 = .bool x42_3 ∧ Aside0 (spec_AddEdge.j0 kq a1 a2 x42_3 a0_0 l0_1 = some (r1, r2, r3)) ∧ Aside0 (kq ≤ k) ∧ Aside0 (wc.heap[gb609]? = some (.cells #[.int .i64 a0_0, (.slice A0_1 l0_1.length c0_1)] 30 (0, 0))) ∧ Aside0 (wc.heap[gb610]? = some (.cells #[.int .i64 0, (.slice none 0 0)] 30 (0, 0))) ∧ Aside0 (Below w.heap.size w wc))
 case first =>
  have H := HC4.out
  clear HC4
  replace H := Option.bind_eq_some_iff.mp H
  obtain ⟨t611, A70, H⟩ := H
  replace H : (if t611 = true then ((spec_l01In.f a1 0 (wrap64 (a0_0 - 1))).bind fun t612 => (if t612 = true then ((spec_l01In.f a2 0 (wrap64 (a0_0 - 1))).bind fun t613 => (if t613 = true then (if a1 = a2 then (spec_AddEdge.j0 k a1 a2 true a0_0 l0_1) else (spec_AddEdge.j0 k a1 a2 ((l0_1.length : Int) == 12) a0_0 l0_1)) else (spec_AddEdge.j0 k a1 a2 true a0_0 l0_1))) else (spec_AddEdge.j0 k a1 a2 true a0_0 l0_1))) else (spec_AddEdge.j0 k a1 a2 true a0_0 l0_1)) = some (r1, r2, r3) := H
  have A7 := Aside0.mk A70
  clear A70
  by_cases c8 : t611 = true
  ·subst c8
   have H1 : ((spec_l01In.f a1 0 (wrap64 (a0_0 - 1))).bind fun t612 => (if t612 = true then ((spec_l01In.f a2 0 (wrap64 (a0_0 - 1))).bind fun t613 => (if t613 = true then (if a1 = a2 then (spec_AddEdge.j0 k a1 a2 true a0_0 l0_1) else (spec_AddEdge.j0 k a1 a2 ((l0_1.length : Int) == 12) a0_0 l0_1)) else (spec_AddEdge.j0 k a1 a2 true a0_0 l0_1))) else (spec_AddEdge.j0 k a1 a2 true a0_0 l0_1))) = some (r1, r2, r3) := by rw [if_pos rfl] at H; exact H
   clear H
   have H := H1
   clear H1
   replace H := Option.bind_eq_some_iff.mp H
   obtain ⟨t612, A90, H⟩ := H
   replace H : (if t612 = true then ((spec_l01In.f a2 0 (wrap64 (a0_0 - 1))).bind fun t613 => (if t613 = true then (if a1 = a2 then (spec_AddEdge.j0 k a1 a2 true a0_0 l0_1) else (spec_AddEdge.j0 k a1 a2 ((l0_1.length : Int) == 12) a0_0 l0_1)) else (spec_AddEdge.j0 k a1 a2 true a0_0 l0_1))) else (spec_AddEdge.j0 k a1 a2 true a0_0 l0_1)) = some (r1, r2, r3) := H
   have A9 := Aside0.mk A90
   clear A90
   by_cases c10 : t612 = true
   ·subst c10
    have H1 : ((spec_l01In.f a2 0 (wrap64 (a0_0 - 1))).bind fun t613 => (if t613 = true then (if a1 = a2 then (spec_AddEdge.j0 k a1 a2 true a0_0 l0_1) else (spec_AddEdge.j0 k a1 a2 ((l0_1.length : Int) == 12) a0_0 l0_1)) else (spec_AddEdge.j0 k a1 a2 true a0_0 l0_1))) = some (r1, r2, r3) := by rw [if_pos rfl] at H; exact H
    clear H
    have H := H1
    clear H1
    replace H := Option.bind_eq_some_iff.mp H
    obtain ⟨t613, A110, H⟩ := H
    replace H : (if t613 = true then (if a1 = a2 then (spec_AddEdge.j0 k a1 a2 true a0_0 l0_1) else (spec_AddEdge.j0 k a1 a2 ((l0_1.length : Int) == 12) a0_0 l0_1)) else (spec_AddEdge.j0 k a1 a2 true a0_0 l0_1)) = some (r1, r2, r3) := H
    have A11 := Aside0.mk A110
    clear A110
    by_cases c12 : t613 = true
    ·subst c12
     have H1 : (if a1 = a2 then (spec_AddEdge.j0 k a1 a2 true a0_0 l0_1) else (spec_AddEdge.j0 k a1 a2 ((l0_1.length : Int) == 12) a0_0 l0_1)) = some (r1, r2, r3) := by rw [if_pos rfl] at H; exact H
     clear H
     have H := H1
     clear H1
     by_cases c13 : a1 = a2
     ·rw [if_pos c13] at H
      have c13b0 : (a1 == a2) = true := beq_iff_eq.mpr c13
      have c13b1 : (a1 != a2) = false := bne_eq_false_iff_eq.mpr c13
      clear c13
      (first | rw [c13b0] | (simp only [i64_w, i32_w]; rw [c13b0]) | skip)
      have H' := Aside0.mk H
      clear H
      have hnb14 := NB609_610.out
      have hnc14 := NB610_609.out
      have hcz15_0 : w6.cell? ⟨gb609, 0, none⟩ = some (.int .i64 a0_0) := (blk_cell BK609.out 0).trans rfl
      have hcz15_1 : w6.cell? ⟨gb609, 1, none⟩ = some (.slice A0_1 l0_1.length c0_1) := (blk_cell BK609.out 1).trans rfl
      have hfz15_0 := blk_frozen BK609.out 0
      have hfz15_1 := blk_frozen BK609.out 1
      go_wp2_with (first | ((with_reducible refine gate_callee (f := 47) rfl ?_); refine goesM_ (some 14) rfl rfl Try.func47 (by kernel_rfl) rfl #[.agg #[.int .i64 a0_0, .slice A0_1 l0_1.length c0_1]] rfl ?_; (with_reducible refine (spec_GraphOk.calls k a0_0 _ _ l0_1 true _ ?side1 ?side2 A7.out).mono ?_); (case side1 => exact Cz ((Kd.C_below HR0_1.out HB.out))); (case side2 => exact HC0_1.out); rintro e w16 ⟨rfl, hb⟩; refine ⟨_, rfl, ?_⟩; replace BK609 := Aside0.mk (blk_below (g := gb609) (o := .cells #[.int .i64 a0_0, .slice A0_1 l0_1.length c0_1] 30 (0, 0)) (Bz BK609) hb); replace BK610 := Aside0.mk (blk_below (g := gb610) (o := .cells #[.int .i64 0, .slice none 0 0] 30 (0, 0)) (Bz BK610) hb); replace HB := Aside0.mk (below_step (by exact Lz2 HB GE609 GE610) hb); (try clear hb); (try clear hb2); (try clear hk); (try clear hi); have hcz17_0 : w16.cell? ⟨gb609, 0, none⟩ = some (.int .i64 a0_0) := (blk_cell BK609.out 0).trans rfl; have hcz17_1 : w16.cell? ⟨gb609, 1, none⟩ = some (.slice A0_1 l0_1.length c0_1) := (blk_cell BK609.out 1).trans rfl; have hfz17_0 := blk_frozen BK609.out 0; have hfz17_1 := blk_frozen BK609.out 1) | (go_at_call 63; (with_reducible refine (spec_l01In.calls a1 0 (wrap64 (a0_0 - 1)) true _ A9.out).mono ?_); rintro e w' ⟨rfl, ⟨nd, rfl⟩⟩) | (go_at_call 63; (with_reducible refine (spec_l01In.calls a2 0 (wrap64 (a0_0 - 1)) true _ A11.out).mono ?_); rintro e w' ⟨rfl, ⟨nd, rfl⟩⟩))
      go_meet
      case rel => exact ⟨_, (true), eqA, H', ⟨by first | omega | exact Nat.le_refl _⟩, ⟨by exact Bz BK609⟩, ⟨by exact Bz BK610⟩, ⟨by exact Lz2 HB GE609 GE610⟩⟩
     rw [if_neg c13] at H
     have c13b0 : (a1 == a2) = false := beq_eq_false_iff_ne.mpr c13
     have c13b1 : (a1 != a2) = true := bne_iff_ne.mpr c13
     (first | rw [c13b0] | (simp only [i64_w, i32_w]; rw [c13b0]) | skip)
     have H' := Aside0.mk H
     clear H
     have hnb18 := NB609_610.out
     have hnc18 := NB610_609.out
     have hcz19_0 : w6.cell? ⟨gb609, 0, none⟩ = some (.int .i64 a0_0) := (blk_cell BK609.out 0).trans rfl
     have hcz19_1 : w6.cell? ⟨gb609, 1, none⟩ = some (.slice A0_1 l0_1.length c0_1) := (blk_cell BK609.out 1).trans rfl
     have hfz19_0 := blk_frozen BK609.out 0
     have hfz19_1 := blk_frozen BK609.out 1
     go_wp2_with (first | ((with_reducible refine gate_callee (f := 47) rfl ?_); refine goesM_ (some 14) rfl rfl Try.func47 (by kernel_rfl) rfl #[.agg #[.int .i64 a0_0, .slice A0_1 l0_1.length c0_1]] rfl ?_; (with_reducible refine (spec_GraphOk.calls k a0_0 _ _ l0_1 true _ ?side1 ?side2 A7.out).mono ?_); (case side1 => exact Cz ((Kd.C_below HR0_1.out HB.out))); (case side2 => exact HC0_1.out); rintro e w20 ⟨rfl, hb⟩; refine ⟨_, rfl, ?_⟩; replace BK609 := Aside0.mk (blk_below (g := gb609) (o := .cells #[.int .i64 a0_0, .slice A0_1 l0_1.length c0_1] 30 (0, 0)) (Bz BK609) hb); replace BK610 := Aside0.mk (blk_below (g := gb610) (o := .cells #[.int .i64 0, .slice none 0 0] 30 (0, 0)) (Bz BK610) hb); replace HB := Aside0.mk (below_step (by exact Lz2 HB GE609 GE610) hb); (try clear hb); (try clear hb2); (try clear hk); (try clear hi); have hcz21_0 : w20.cell? ⟨gb609, 0, none⟩ = some (.int .i64 a0_0) := (blk_cell BK609.out 0).trans rfl; have hcz21_1 : w20.cell? ⟨gb609, 1, none⟩ = some (.slice A0_1 l0_1.length c0_1) := (blk_cell BK609.out 1).trans rfl; have hfz21_0 := blk_frozen BK609.out 0; have hfz21_1 := blk_frozen BK609.out 1) | (go_at_call 63; (with_reducible refine (spec_l01In.calls a1 0 (wrap64 (a0_0 - 1)) true _ A9.out).mono ?_); rintro e w' ⟨rfl, ⟨nd, rfl⟩⟩) | (go_at_call 63; (with_reducible refine (spec_l01In.calls a2 0 (wrap64 (a0_0 - 1)) true _ A11.out).mono ?_); rintro e w' ⟨rfl, ⟨nd, rfl⟩⟩))
     go_meet
     case rel => exact ⟨_, (((l0_1.length : Int) == 12)), eqA, H', ⟨by first | omega | exact Nat.le_refl _⟩, ⟨by exact Bz BK609⟩, ⟨by exact Bz BK610⟩, ⟨by exact Lz2 HB GE609 GE610⟩⟩
    replace c12 := Bool.eq_false_iff.mpr c12
    subst c12
    have H1 : (spec_AddEdge.j0 k a1 a2 true a0_0 l0_1) = some (r1, r2, r3) := by rw [if_neg (show ¬ (false = true) by decide)] at H; exact H
    clear H
    have H := H1
    clear H1
    have H' := Aside0.mk H
    clear H
    have hnb22 := NB609_610.out
    have hnc22 := NB610_609.out
    have hcz23_0 : w6.cell? ⟨gb609, 0, none⟩ = some (.int .i64 a0_0) := (blk_cell BK609.out 0).trans rfl
    have hcz23_1 : w6.cell? ⟨gb609, 1, none⟩ = some (.slice A0_1 l0_1.length c0_1) := (blk_cell BK609.out 1).trans rfl
    have hfz23_0 := blk_frozen BK609.out 0
    have hfz23_1 := blk_frozen BK609.out 1
    go_wp2_with (first | ((with_reducible refine gate_callee (f := 47) rfl ?_); refine goesM_ (some 14) rfl rfl Try.func47 (by kernel_rfl) rfl #[.agg #[.int .i64 a0_0, .slice A0_1 l0_1.length c0_1]] rfl ?_; (with_reducible refine (spec_GraphOk.calls k a0_0 _ _ l0_1 true _ ?side1 ?side2 A7.out).mono ?_); (case side1 => exact Cz ((Kd.C_below HR0_1.out HB.out))); (case side2 => exact HC0_1.out); rintro e w24 ⟨rfl, hb⟩; refine ⟨_, rfl, ?_⟩; replace BK609 := Aside0.mk (blk_below (g := gb609) (o := .cells #[.int .i64 a0_0, .slice A0_1 l0_1.length c0_1] 30 (0, 0)) (Bz BK609) hb); replace BK610 := Aside0.mk (blk_below (g := gb610) (o := .cells #[.int .i64 0, .slice none 0 0] 30 (0, 0)) (Bz BK610) hb); replace HB := Aside0.mk (below_step (by exact Lz2 HB GE609 GE610) hb); (try clear hb); (try clear hb2); (try clear hk); (try clear hi); have hcz25_0 : w24.cell? ⟨gb609, 0, none⟩ = some (.int .i64 a0_0) := (blk_cell BK609.out 0).trans rfl; have hcz25_1 : w24.cell? ⟨gb609, 1, none⟩ = some (.slice A0_1 l0_1.length c0_1) := (blk_cell BK609.out 1).trans rfl; have hfz25_0 := blk_frozen BK609.out 0; have hfz25_1 := blk_frozen BK609.out 1) | (go_at_call 63; (with_reducible refine (spec_l01In.calls a1 0 (wrap64 (a0_0 - 1)) true _ A9.out).mono ?_); rintro e w' ⟨rfl, ⟨nd, rfl⟩⟩) | (go_at_call 63; (with_reducible refine (spec_l01In.calls a2 0 (wrap64 (a0_0 - 1)) false _ A11.out).mono ?_); rintro e w' ⟨rfl, ⟨nd, rfl⟩⟩))
    go_meet
    case rel => exact ⟨_, (true), eqA, H', ⟨by first | omega | exact Nat.le_refl _⟩, ⟨by exact Bz BK609⟩, ⟨by exact Bz BK610⟩, ⟨by exact Lz2 HB GE609 GE610⟩⟩
   replace c10 := Bool.eq_false_iff.mpr c10
   subst c10
   have H1 : (spec_AddEdge.j0 k a1 a2 true a0_0 l0_1) = some (r1, r2, r3) := by rw [if_neg (show ¬ (false = true) by decide)] at H; exact H
   clear H
   have H := H1
   clear H1
   have H' := Aside0.mk H
   clear H
   have hnb26 := NB609_610.out
   have hnc26 := NB610_609.out
   have hcz27_0 : w6.cell? ⟨gb609, 0, none⟩ = some (.int .i64 a0_0) := (blk_cell BK609.out 0).trans rfl
   have hcz27_1 : w6.cell? ⟨gb609, 1, none⟩ = some (.slice A0_1 l0_1.length c0_1) := (blk_cell BK609.out 1).trans rfl
   have hfz27_0 := blk_frozen BK609.out 0
   have hfz27_1 := blk_frozen BK609.out 1
   go_wp2_with (first | ((with_reducible refine gate_callee (f := 47) rfl ?_); refine goesM_ (some 14) rfl rfl Try.func47 (by kernel_rfl) rfl #[.agg #[.int .i64 a0_0, .slice A0_1 l0_1.length c0_1]] rfl ?_; (with_reducible refine (spec_GraphOk.calls k a0_0 _ _ l0_1 true _ ?side1 ?side2 A7.out).mono ?_); (case side1 => exact Cz ((Kd.C_below HR0_1.out HB.out))); (case side2 => exact HC0_1.out); rintro e w28 ⟨rfl, hb⟩; refine ⟨_, rfl, ?_⟩; replace BK609 := Aside0.mk (blk_below (g := gb609) (o := .cells #[.int .i64 a0_0, .slice A0_1 l0_1.length c0_1] 30 (0, 0)) (Bz BK609) hb); replace BK610 := Aside0.mk (blk_below (g := gb610) (o := .cells #[.int .i64 0, .slice none 0 0] 30 (0, 0)) (Bz BK610) hb); replace HB := Aside0.mk (below_step (by exact Lz2 HB GE609 GE610) hb); (try clear hb); (try clear hb2); (try clear hk); (try clear hi); have hcz29_0 : w28.cell? ⟨gb609, 0, none⟩ = some (.int .i64 a0_0) := (blk_cell BK609.out 0).trans rfl; have hcz29_1 : w28.cell? ⟨gb609, 1, none⟩ = some (.slice A0_1 l0_1.length c0_1) := (blk_cell BK609.out 1).trans rfl; have hfz29_0 := blk_frozen BK609.out 0; have hfz29_1 := blk_frozen BK609.out 1) | (go_at_call 63; (with_reducible refine (spec_l01In.calls a1 0 (wrap64 (a0_0 - 1)) false _ A9.out).mono ?_); rintro e w' ⟨rfl, ⟨nd, rfl⟩⟩))
   go_meet
   case rel => exact ⟨_, (true), eqA, H', ⟨by first | omega | exact Nat.le_refl _⟩, ⟨by exact Bz BK609⟩, ⟨by exact Bz BK610⟩, ⟨by exact Lz2 HB GE609 GE610⟩⟩
  replace c8 := Bool.eq_false_iff.mpr c8
  subst c8
  have H1 : (spec_AddEdge.j0 k a1 a2 true a0_0 l0_1) = some (r1, r2, r3) := by rw [if_neg (show ¬ (false = true) by decide)] at H; exact H
  clear H
  have H := H1
  clear H1
  have H' := Aside0.mk H
  clear H
  have hnb30 := NB609_610.out
  have hnc30 := NB610_609.out
  have hcz31_0 : w6.cell? ⟨gb609, 0, none⟩ = some (.int .i64 a0_0) := (blk_cell BK609.out 0).trans rfl
  have hcz31_1 : w6.cell? ⟨gb609, 1, none⟩ = some (.slice A0_1 l0_1.length c0_1) := (blk_cell BK609.out 1).trans rfl
  have hfz31_0 := blk_frozen BK609.out 0
  have hfz31_1 := blk_frozen BK609.out 1
  go_wp2_with (first | ((with_reducible refine gate_callee (f := 47) rfl ?_); refine goesM_ (some 14) rfl rfl Try.func47 (by kernel_rfl) rfl #[.agg #[.int .i64 a0_0, .slice A0_1 l0_1.length c0_1]] rfl ?_; (with_reducible refine (spec_GraphOk.calls k a0_0 _ _ l0_1 false _ ?side1 ?side2 A7.out).mono ?_); (case side1 => exact Cz ((Kd.C_below HR0_1.out HB.out))); (case side2 => exact HC0_1.out); rintro e w32 ⟨rfl, hb⟩; refine ⟨_, rfl, ?_⟩; replace BK609 := Aside0.mk (blk_below (g := gb609) (o := .cells #[.int .i64 a0_0, .slice A0_1 l0_1.length c0_1] 30 (0, 0)) (Bz BK609) hb); replace BK610 := Aside0.mk (blk_below (g := gb610) (o := .cells #[.int .i64 0, .slice none 0 0] 30 (0, 0)) (Bz BK610) hb); replace HB := Aside0.mk (below_step (by exact Lz2 HB GE609 GE610) hb); (try clear hb); (try clear hb2); (try clear hk); (try clear hi)))
  go_meet
  case rel => exact ⟨_, (true), eqA, H', ⟨by first | omega | exact Nat.le_refl _⟩, ⟨by exact Bz BK609⟩, ⟨by exact Bz BK610⟩, ⟨by exact Lz2 HB GE609 GE610⟩⟩
 case rest =>
  clear HC4
  try clear c8
  try clear c10
  try clear c12
  try clear c13
  try clear c13b0
  try clear c13b1
  obtain ⟨kq, x42_3, rfl, HA, HJ3, BK609, BK610, HB⟩ := hcut
  cases kq with
  | zero => exact absurd HA.out (by simp [spec_AddEdge.j0])
  | succ kj3 =>
   have H := HA.out
   clear HA
   simp only [spec_AddEdge.j0] at H
   by_cases c33 : x42_3 = true
   ·subst c33
    have H1 : (some (0, ([] : List (S57)), false)) = some (r1, r2, r3) := by rw [if_pos rfl] at H; exact H
    clear H
    have H := H1
    clear H1
    simp only [Option.some.injEq, Prod.mk.injEq] at H
    obtain ⟨rfl, rfl, rfl⟩ := H
    have hnb34 := NB610_609.out
    have hnc34 := NB609_610.out
    have hcz35_0 : wc.cell? ⟨gb610, 0, none⟩ = some (.int .i64 0) := (blk_cell BK610.out 0).trans rfl
    have hcz35_1 : wc.cell? ⟨gb610, 1, none⟩ = some (.slice none 0 0) := (blk_cell BK610.out 1).trans rfl
    have hfz35_0 := blk_frozen BK610.out 0
    have hfz35_1 := blk_frozen BK610.out 1
    go_wp2
    refine bodyPost_ret (results_ct rfl _ _ gb610 30 #[.int .i64 0, .slice none 0 0] (0, 0) _ rfl (by (with_reducible repeat (first | refine blk_drewN ?_ _ | refine blk_drew ?_ | refine blk_alloc ?_ _)); refine blk_put (cs := #[.int .i64 0, .slice none 0 0]) ?_ 1 _ rfl; (with_reducible repeat (first | refine blk_drewN ?_ _ | refine blk_drew ?_ | refine blk_alloc ?_ _)); refine blk_put (cs := #[.int .i64 0, .slice none 0 0]) ?_ 0 _ rfl; exact Bz BK610) Try.underlying30 rfl (by kernel_rfl)) rfl ?_
    exact ⟨_, by first | rfl | (simp [errW_none, errW_some] <;> rfl) | (simp [*, errW_none, errW_some] <;> rfl), by first | exact Kd.R_nil _ _ _ _ _ | exact Kd.N_nil _ _ _ _ _ | exact Kd.V_nil _ _ _ _ _ | exact Kd.Q_nil _ _ _ _ _ | exact Kd.S_nil _ _ _ _ _, by exact Lz2 HB GE609 GE610⟩
   replace c33 := Bool.eq_false_iff.mpr c33
   subst c33
   have H1 : (spec_AddEdge.l0 kj3 false l0_1 (l0_1.length : Int) 0 (mn a1 a2) (mx a1 a2) a0_0 ([] : List (S57))) = some (r1, r2, r3) := by rw [if_neg (show ¬ (false = true) by decide)] at H; exact H
   clear H
   have H := H1
   clear H1
   obtain ⟨ji36, hji36⟩ : ∃ j_ : Int, (mn a1 a2) = j_ := ⟨_, rfl⟩
   replace H : (spec_AddEdge.l0 kj3 false l0_1 (l0_1.length : Int) 0 ji36 (mx a1 a2) a0_0 ([] : List (S57))) = some (r1, r2, r3) := by first | (rw [hji36] at H; exact H) | (simp only [hji36] at H ⊢; exact H)
   have hji36_ : (if a2 < a1 then a2 else a1) = ji36 := hji36
   obtain ⟨ji37, hji37⟩ : ∃ j_ : Int, (mx a1 a2) = j_ := ⟨_, rfl⟩
   replace H : (spec_AddEdge.l0 kj3 false l0_1 (l0_1.length : Int) 0 ji36 ji37 a0_0 ([] : List (S57))) = some (r1, r2, r3) := by first | (rw [hji37] at H; exact H) | (simp only [hji37] at H ⊢; exact H)
   have hji37_ : (if a1 < a2 then a2 else a1) = ji37 := hji37
   have H' := Aside0.mk H
   clear H
   go_wp2_with (first | ((with_reducible refine gate_dst (N := 8) rfl ?_); (try (refine gate_guard (by rfl) ?_; dsimp only)); refine box_event ?hg (N := 8) ?hd (cs := #[.int .i64 0, .int .i64 0]) (t := 57) ?hr ?_; (case hd => rfl); (case hg => rfl); (case hr => first | (go_simp; done) | (go_simp; rfl)); intro gb614 hg w38 hbox hb; have BK614 := Aside0.mk (hbox); have GW614 := Aside0.mk ((by rw [hg]; exact (below_size (by exact Lz2 HB GE609 GE610)) : w.heap.size ≤ gb614)); have GE614 := Aside0.mk ((by rw [hg]; exact (below_size (by exact Lz2 HB GE609 GE610)) : w.heap.size ≤ gb614)); replace HB := Aside0.mk (below_step (by exact Lz2 HB GE609 GE610) hb); have NB609_614 := Aside0.mk ((by rw [hg]; exact Nat.ne_of_lt (blk_lt (g := gb609) (o := .cells #[.int .i64 a0_0, .slice A0_1 l0_1.length c0_1] 30 (0, 0)) (Bz BK609)) : gb609 ≠ gb614)); have NB614_609 := Aside0.mk ((by rw [hg]; exact Nat.ne_of_gt (blk_lt (g := gb609) (o := .cells #[.int .i64 a0_0, .slice A0_1 l0_1.length c0_1] 30 (0, 0)) (Bz BK609)) : gb614 ≠ gb609)); replace BK609 := Aside0.mk (blk_below (g := gb609) (o := .cells #[.int .i64 a0_0, .slice A0_1 l0_1.length c0_1] 30 (0, 0)) (Bz BK609) hb); have NB610_614 := Aside0.mk ((by rw [hg]; exact Nat.ne_of_lt (blk_lt (g := gb610) (o := .cells #[.int .i64 0, .slice none 0 0] 30 (0, 0)) (Bz BK610)) : gb610 ≠ gb614)); have NB614_610 := Aside0.mk ((by rw [hg]; exact Nat.ne_of_gt (blk_lt (g := gb610) (o := .cells #[.int .i64 0, .slice none 0 0] 30 (0, 0)) (Bz BK610)) : gb614 ≠ gb610)); replace BK610 := Aside0.mk (blk_below (g := gb610) (o := .cells #[.int .i64 0, .slice none 0 0] 30 (0, 0)) (Bz BK610) hb); clear hb hbox hg; have hnb39 := NB614_609.out; have hnc39 := NB609_614.out; have hnb40 := NB614_610.out; have hnc40 := NB610_614.out; have hcz41_0 : w38.cell? ⟨gb614, 0, none⟩ = some (.int .i64 0) := (blk_cell BK614.out 0).trans rfl; have hcz41_1 : w38.cell? ⟨gb614, 1, none⟩ = some (.int .i64 0) := (blk_cell BK614.out 1).trans rfl; have hfz41_0 := blk_frozen BK614.out 0; have hfz41_1 := blk_frozen BK614.out 1; have hnb42 := NB609_610.out; have hnc42 := NB610_609.out; have hcz43_0 : w38.cell? ⟨gb609, 0, none⟩ = some (.int .i64 a0_0) := (blk_cell BK609.out 0).trans rfl; have hcz43_1 : w38.cell? ⟨gb609, 1, none⟩ = some (.slice A0_1 l0_1.length c0_1) := (blk_cell BK609.out 1).trans rfl; have hfz43_0 := blk_frozen BK609.out 0; have hfz43_1 := blk_frozen BK609.out 1) | ((with_reducible refine gate_dst (N := 9) rfl ?_); (try (refine gate_guard (by rfl) ?_; dsimp only)); refine box_event ?hg (N := 9) ?hd (cs := #[.int .i64 0, .slice none 0 0]) (t := 30) ?hr ?_; (case hd => rfl); (case hg => rfl); (case hr => first | (go_simp; done) | (go_simp; rfl)); intro gb615 hg w44 hbox hb; have BK615 := Aside0.mk (hbox); have GW615 := Aside0.mk ((by rw [hg]; exact (below_size (by exact Lz3 HB GE609 GE610 GE614)) : w.heap.size ≤ gb615)); have GE615 := Aside0.mk ((by rw [hg]; exact (below_size (by exact Lz3 HB GE609 GE610 GE614)) : w.heap.size ≤ gb615)); replace HB := Aside0.mk (below_step (by exact Lz3 HB GE609 GE610 GE614) hb); have NB609_615 := Aside0.mk ((by rw [hg]; exact Nat.ne_of_lt (blk_lt (g := gb609) (o := .cells #[.int .i64 a0_0, .slice A0_1 l0_1.length c0_1] 30 (0, 0)) (by (with_reducible repeat (first | refine blk_drewN ?_ _ | refine blk_drew ?_ | refine blk_alloc ?_ _)); refine blk_far ?_ NB609_614.out _; (with_reducible repeat (first | refine blk_drewN ?_ _ | refine blk_drew ?_ | refine blk_alloc ?_ _)); refine blk_far ?_ NB609_614.out _; exact Bz BK609)) : gb609 ≠ gb615)); have NB615_609 := Aside0.mk ((by rw [hg]; exact Nat.ne_of_gt (blk_lt (g := gb609) (o := .cells #[.int .i64 a0_0, .slice A0_1 l0_1.length c0_1] 30 (0, 0)) (by (with_reducible repeat (first | refine blk_drewN ?_ _ | refine blk_drew ?_ | refine blk_alloc ?_ _)); refine blk_far ?_ NB609_614.out _; (with_reducible repeat (first | refine blk_drewN ?_ _ | refine blk_drew ?_ | refine blk_alloc ?_ _)); refine blk_far ?_ NB609_614.out _; exact Bz BK609)) : gb615 ≠ gb609)); replace BK609 := Aside0.mk (blk_below (g := gb609) (o := .cells #[.int .i64 a0_0, .slice A0_1 l0_1.length c0_1] 30 (0, 0)) (by (with_reducible repeat (first | refine blk_drewN ?_ _ | refine blk_drew ?_ | refine blk_alloc ?_ _)); refine blk_far ?_ NB609_614.out _; (with_reducible repeat (first | refine blk_drewN ?_ _ | refine blk_drew ?_ | refine blk_alloc ?_ _)); refine blk_far ?_ NB609_614.out _; exact Bz BK609) hb); have NB610_615 := Aside0.mk ((by rw [hg]; exact Nat.ne_of_lt (blk_lt (g := gb610) (o := .cells #[.int .i64 0, .slice none 0 0] 30 (0, 0)) (by (with_reducible repeat (first | refine blk_drewN ?_ _ | refine blk_drew ?_ | refine blk_alloc ?_ _)); refine blk_far ?_ NB610_614.out _; (with_reducible repeat (first | refine blk_drewN ?_ _ | refine blk_drew ?_ | refine blk_alloc ?_ _)); refine blk_far ?_ NB610_614.out _; exact Bz BK610)) : gb610 ≠ gb615)); have NB615_610 := Aside0.mk ((by rw [hg]; exact Nat.ne_of_gt (blk_lt (g := gb610) (o := .cells #[.int .i64 0, .slice none 0 0] 30 (0, 0)) (by (with_reducible repeat (first | refine blk_drewN ?_ _ | refine blk_drew ?_ | refine blk_alloc ?_ _)); refine blk_far ?_ NB610_614.out _; (with_reducible repeat (first | refine blk_drewN ?_ _ | refine blk_drew ?_ | refine blk_alloc ?_ _)); refine blk_far ?_ NB610_614.out _; exact Bz BK610)) : gb615 ≠ gb610)); replace BK610 := Aside0.mk (blk_below (g := gb610) (o := .cells #[.int .i64 0, .slice none 0 0] 30 (0, 0)) (by (with_reducible repeat (first | refine blk_drewN ?_ _ | refine blk_drew ?_ | refine blk_alloc ?_ _)); refine blk_far ?_ NB610_614.out _; (with_reducible repeat (first | refine blk_drewN ?_ _ | refine blk_drew ?_ | refine blk_alloc ?_ _)); refine blk_far ?_ NB610_614.out _; exact Bz BK610) hb); have NB614_615 := Aside0.mk ((by rw [hg]; exact Nat.ne_of_lt (blk_lt (g := gb614) (o := .cells #[.int .i64 ji36, .int .i64 ji37] 57 (0, 0)) (by (with_reducible repeat (first | refine blk_drewN ?_ _ | refine blk_drew ?_ | refine blk_alloc ?_ _)); refine blk_put (cs := #[.int .i64 ji36, .int .i64 0]) ?_ 1 _ rfl; (with_reducible repeat (first | refine blk_drewN ?_ _ | refine blk_drew ?_ | refine blk_alloc ?_ _)); refine blk_put (cs := #[.int .i64 0, .int .i64 0]) ?_ 0 _ rfl; exact Bz BK614)) : gb614 ≠ gb615)); have NB615_614 := Aside0.mk ((by rw [hg]; exact Nat.ne_of_gt (blk_lt (g := gb614) (o := .cells #[.int .i64 ji36, .int .i64 ji37] 57 (0, 0)) (by (with_reducible repeat (first | refine blk_drewN ?_ _ | refine blk_drew ?_ | refine blk_alloc ?_ _)); refine blk_put (cs := #[.int .i64 ji36, .int .i64 0]) ?_ 1 _ rfl; (with_reducible repeat (first | refine blk_drewN ?_ _ | refine blk_drew ?_ | refine blk_alloc ?_ _)); refine blk_put (cs := #[.int .i64 0, .int .i64 0]) ?_ 0 _ rfl; exact Bz BK614)) : gb615 ≠ gb614)); replace BK614 := Aside0.mk (blk_below (g := gb614) (o := .cells #[.int .i64 ji36, .int .i64 ji37] 57 (0, 0)) (by (with_reducible repeat (first | refine blk_drewN ?_ _ | refine blk_drew ?_ | refine blk_alloc ?_ _)); refine blk_put (cs := #[.int .i64 ji36, .int .i64 0]) ?_ 1 _ rfl; (with_reducible repeat (first | refine blk_drewN ?_ _ | refine blk_drew ?_ | refine blk_alloc ?_ _)); refine blk_put (cs := #[.int .i64 0, .int .i64 0]) ?_ 0 _ rfl; exact Bz BK614) hb); clear hb hbox hg; have hnb45 := NB615_609.out; have hnc45 := NB609_615.out; have hnb46 := NB615_610.out; have hnc46 := NB610_615.out; have hnb47 := NB615_614.out; have hnc47 := NB614_615.out; have hcz48_0 : w44.cell? ⟨gb615, 0, none⟩ = some (.int .i64 0) := (blk_cell BK615.out 0).trans rfl; have hcz48_1 : w44.cell? ⟨gb615, 1, none⟩ = some (.slice none 0 0) := (blk_cell BK615.out 1).trans rfl; have hfz48_0 := blk_frozen BK615.out 0; have hfz48_1 := blk_frozen BK615.out 1; have hcz49_0 : w44.cell? ⟨gb609, 0, none⟩ = some (.int .i64 a0_0) := (blk_cell BK609.out 0).trans rfl; have hcz49_1 : w44.cell? ⟨gb609, 1, none⟩ = some (.slice A0_1 l0_1.length c0_1) := (blk_cell BK609.out 1).trans rfl; have hfz49_0 := blk_frozen BK609.out 0; have hfz49_1 := blk_frozen BK609.out 1))
   go_loopg [10, 57] kj3 (fun kq v10 v57 w' => ∃ (x10_2 : Bool) (x57_2 : Int) (x616001_2 : List (S57)) (u616001 : Value), v10 = .bool x10_2 ∧ v57 = .int .i64 x57_2 ∧ Aside0 (spec_AddEdge.l0 kq x10_2 l0_1 (l0_1.length : Int) x57_2 ji36 ji37 a0_0 x616001_2 = some (r1, r2, r3)) ∧ Aside0 (kq ≤ kj3) ∧ Aside0 (Kd.R k57 57 w' w.heap.size (fun k_ => k_ ≠ gb614) u616001 x616001_2) ∧ Aside0 (w'.heap[gb609]? = some (.cells #[.int .i64 a0_0, (.slice A0_1 l0_1.length c0_1)] 30 (0, 0))) ∧ Aside0 (w'.heap[gb610]? = some (.cells #[.int .i64 0, (.slice none 0 0)] 30 (0, 0))) ∧ Aside0 (w'.heap[gb614]? = some (.cells #[.int .i64 ji36, .int .i64 ji37] 57 (0, 0))) ∧ Aside0 (w'.heap[gb615]? = some (.cells #[.int .i64 a0_0, u616001] 30 (0, 0))) ∧ Aside0 (Below w.heap.size w w'))
   case atStart => exact ⟨(false), (0), (([] : List (S57))), (.slice none 0 0), eqA, eqA, H', ⟨Nat.le_refl _⟩, ⟨by first | exact Kd.R_nil _ _ _ _ _ | exact Kd.N_nil _ _ _ _ _ | exact Kd.V_nil _ _ _ _ _ | exact Kd.Q_nil _ _ _ _ _ | exact Kd.S_nil _ _ _ _ _⟩, ⟨by (with_reducible repeat (first | refine blk_drewN ?_ _ | refine blk_drew ?_ | refine blk_alloc ?_ _)); refine blk_far ?_ NB609_615.out _; (with_reducible repeat (first | refine blk_drewN ?_ _ | refine blk_drew ?_ | refine blk_alloc ?_ _)); refine blk_far ?_ NB609_615.out _; exact Bz BK609⟩, ⟨by (with_reducible repeat (first | refine blk_drewN ?_ _ | refine blk_drew ?_ | refine blk_alloc ?_ _)); refine blk_far ?_ NB610_615.out _; (with_reducible repeat (first | refine blk_drewN ?_ _ | refine blk_drew ?_ | refine blk_alloc ?_ _)); refine blk_far ?_ NB610_615.out _; exact Bz BK610⟩, ⟨by (with_reducible repeat (first | refine blk_drewN ?_ _ | refine blk_drew ?_ | refine blk_alloc ?_ _)); refine blk_far ?_ NB614_615.out _; (with_reducible repeat (first | refine blk_drewN ?_ _ | refine blk_drew ?_ | refine blk_alloc ?_ _)); refine blk_far ?_ NB614_615.out _; exact Bz BK614⟩, ⟨by (with_reducible repeat (first | refine blk_drewN ?_ _ | refine blk_drew ?_ | refine blk_alloc ?_ _)); refine blk_put (cs := #[.int .i64 a0_0, .slice none 0 0]) ?_ 1 _ rfl; (with_reducible repeat (first | refine blk_drewN ?_ _ | refine blk_drew ?_ | refine blk_alloc ?_ _)); refine blk_put (cs := #[.int .i64 0, .slice none 0 0]) ?_ 0 _ rfl; exact Bz BK615⟩, ⟨by first | exact Lz HB | repeat (first | (with_reducible first | exact HB.out | apply below_alloc | apply pw_below_drewN | apply below_drew1 | refine below_set ?_ GE609.out | refine below_set ?_ GE610.out | refine below_set ?_ GE614.out | refine below_set ?_ GE615.out) | exact HB.out)⟩⟩
   case round =>
    clear H'
    try clear c8
    try clear c10
    try clear c12
    try clear c13
    try clear c13b0
    try clear c13b1
    try clear c33
    obtain ⟨x10_2, x57_2, x616001_2, u616001, rfl, rfl, HA, HK2, HO_616001, BK609, BK610, BK614, BK615, HB⟩ := hrel
    cases gk with
    | zero => exact absurd HA.out (by simp [spec_AddEdge.l0])
    | succ k2 =>
     have H := HA.out
     clear HA
     simp only [spec_AddEdge.l0] at H
     by_cases c50 : x57_2 < (l0_1.length : Int)
     ·rw [if_pos c50] at H
      have c50b0 : decide (x57_2 < (l0_1.length : Int)) = true := decide_eq_true c50
      clear c50
      by_cases c51 : 0 ≤ x57_2
      ·rw [if_pos c51] at H
       have c51b0 : decide (0 ≤ x57_2) = true := decide_eq_true c51
       clear c51
       by_cases c52 : x57_2 < (l0_1.length : Int)
       ·rw [if_pos c52] at H
        have c52b0 : decide (x57_2 < (l0_1.length : Int)) = true := decide_eq_true c52
        clear c52
        have HC53 := Aside0.mk H
        clear H
        have p616 : 0 ≤ (x57_2 : Int) := ofA
        have q616 : x57_2 < (l0_1.length : Int) := ofA
        obtain ⟨ad616, e616, hx616_0, hx616_1⟩ := at_T57 HR0_1.out x57_2 p616 q616
        cases e616
        replace hx616_0 := (HB.out.cell (World.block_lt_of_cell? w _ hx616_0)).trans hx616_0
        replace hx616_1 := (HB.out.cell (World.block_lt_of_cell? w _ hx616_1)).trans hx616_1
        replace p616 := eq_true p616
        replace q616 := eq_true q616
        go_upto_region 9 with (first | ((with_reducible refine gate_dst (N := 12) rfl ?_); (try (refine gate_guard (by rfl) ?_; dsimp only)); refine box_event ?hg (N := 12) ?hd (cs := #[.int .i64 0, .int .i64 0]) (t := 57) ?hr ?_; (case hd => rfl); (case hg => rfl); (case hr => first | (go_simp; done) | (go_simp; rfl)); intro gb617 hg w54 hbox hb; replace HO_616001 := Aside0.mk (Kd.R_below (Kd.R_elderB (Rz HO_616001) gb617 (Nat.le_of_eq hg.symm)) hb); have BK617 := Aside0.mk (hbox); have GW617 := Aside0.mk ((by rw [hg]; exact (below_size (by first | exact Lz HB | repeat (first | (with_reducible first | exact HB.out | apply below_alloc | apply pw_below_drewN | apply below_drew1 | refine below_set ?_ GE609.out | refine below_set ?_ GE610.out | refine below_set ?_ GE614.out | refine below_set ?_ GE615.out) | exact HB.out))) : w.heap.size ≤ gb617)); have GE617 := Aside0.mk ((by rw [hg]; exact (below_size (by first | exact Lz HB | repeat (first | (with_reducible first | exact HB.out | apply below_alloc | apply pw_below_drewN | apply below_drew1 | refine below_set ?_ GE609.out | refine below_set ?_ GE610.out | refine below_set ?_ GE614.out | refine below_set ?_ GE615.out) | exact HB.out))) : w.heap.size ≤ gb617)); replace HB := Aside0.mk (below_step (by first | exact Lz HB | repeat (first | (with_reducible first | exact HB.out | apply below_alloc | apply pw_below_drewN | apply below_drew1 | refine below_set ?_ GE609.out | refine below_set ?_ GE610.out | refine below_set ?_ GE614.out | refine below_set ?_ GE615.out) | exact HB.out)) hb); have NB609_617 := Aside0.mk ((by rw [hg]; exact Nat.ne_of_lt (blk_lt (g := gb609) (o := .cells #[.int .i64 a0_0, .slice (some ad616) l0_1.length c0_1] 30 (0, 0)) (Bz BK609)) : gb609 ≠ gb617)); have NB617_609 := Aside0.mk ((by rw [hg]; exact Nat.ne_of_gt (blk_lt (g := gb609) (o := .cells #[.int .i64 a0_0, .slice (some ad616) l0_1.length c0_1] 30 (0, 0)) (Bz BK609)) : gb617 ≠ gb609)); replace BK609 := Aside0.mk (blk_below (g := gb609) (o := .cells #[.int .i64 a0_0, .slice (some ad616) l0_1.length c0_1] 30 (0, 0)) (Bz BK609) hb); have NB610_617 := Aside0.mk ((by rw [hg]; exact Nat.ne_of_lt (blk_lt (g := gb610) (o := .cells #[.int .i64 0, .slice none 0 0] 30 (0, 0)) (Bz BK610)) : gb610 ≠ gb617)); have NB617_610 := Aside0.mk ((by rw [hg]; exact Nat.ne_of_gt (blk_lt (g := gb610) (o := .cells #[.int .i64 0, .slice none 0 0] 30 (0, 0)) (Bz BK610)) : gb617 ≠ gb610)); replace BK610 := Aside0.mk (blk_below (g := gb610) (o := .cells #[.int .i64 0, .slice none 0 0] 30 (0, 0)) (Bz BK610) hb); have NB614_617 := Aside0.mk ((by rw [hg]; exact Nat.ne_of_lt (blk_lt (g := gb614) (o := .cells #[.int .i64 ji36, .int .i64 ji37] 57 (0, 0)) (Bz BK614)) : gb614 ≠ gb617)); have NB617_614 := Aside0.mk ((by rw [hg]; exact Nat.ne_of_gt (blk_lt (g := gb614) (o := .cells #[.int .i64 ji36, .int .i64 ji37] 57 (0, 0)) (Bz BK614)) : gb617 ≠ gb614)); replace BK614 := Aside0.mk (blk_below (g := gb614) (o := .cells #[.int .i64 ji36, .int .i64 ji37] 57 (0, 0)) (Bz BK614) hb); have NB615_617 := Aside0.mk ((by rw [hg]; exact Nat.ne_of_lt (blk_lt (g := gb615) (o := .cells #[.int .i64 a0_0, u616001] 30 (0, 0)) (Bz BK615)) : gb615 ≠ gb617)); have NB617_615 := Aside0.mk ((by rw [hg]; exact Nat.ne_of_gt (blk_lt (g := gb615) (o := .cells #[.int .i64 a0_0, u616001] 30 (0, 0)) (Bz BK615)) : gb617 ≠ gb615)); replace BK615 := Aside0.mk (blk_below (g := gb615) (o := .cells #[.int .i64 a0_0, u616001] 30 (0, 0)) (Bz BK615) hb); clear hb hbox hg; have hnb55 := NB617_609.out; have hnc55 := NB609_617.out; have hnb56 := NB617_610.out; have hnc56 := NB610_617.out; have hnb57 := NB617_614.out; have hnc57 := NB614_617.out; have hnb58 := NB617_615.out; have hnc58 := NB615_617.out; have hcz59_0 : w54.cell? ⟨gb617, 0, none⟩ = some (.int .i64 0) := (blk_cell BK617.out 0).trans rfl; have hcz59_1 : w54.cell? ⟨gb617, 1, none⟩ = some (.int .i64 0) := (blk_cell BK617.out 1).trans rfl; have hfz59_0 := blk_frozen BK617.out 0; have hfz59_1 := blk_frozen BK617.out 1))
        (try simp only [Act.put, List.setIfInBounds_toArray, List.set_cons_zero, List.set_cons_succ])
        go_cut [83] (fun v83 wc => ∃ (kq : Nat) (x83_52 : Bool), v83 = .bool x83_52 ∧ Aside0 (spec_AddEdge.j2 kq x10_2 l0_1 (l0_1.length : Int) x57_2 x83_52 ji36 ji37 a0_0 x616001_2 ((rd_T57 l0_1 x57_2).f0) ((rd_T57 l0_1 x57_2).f1) = some (r1, r2, r3)) ∧ Aside0 (kq ≤ k2) ∧ Aside0 (Kd.R k57 57 wc w.heap.size (fun k_ => k_ ≠ gb614 ∧ k_ ≠ gb617) u616001 x616001_2) ∧ Aside0 (wc.heap[gb609]? = some (.cells #[.int .i64 a0_0, (.slice (some ad616) l0_1.length c0_1)] 30 (0, 0))) ∧ Aside0 (wc.heap[gb610]? = some (.cells #[.int .i64 0, (.slice none 0 0)] 30 (0, 0))) ∧ Aside0 (wc.heap[gb614]? = some (.cells #[.int .i64 ji36, .int .i64 ji37] 57 (0, 0))) ∧ Aside0 (wc.heap[gb615]? = some (.cells #[.int .i64 a0_0, u616001] 30 (0, 0))) ∧ Aside0 (wc.heap[gb617]? = some (.cells #[.int .i64 ((rd_T57 l0_1 x57_2).f0), .int .i64 ((rd_T57 l0_1 x57_2).f1)] 57 (0, 0))) ∧ Aside0 (Below w.heap.size w wc))
        case first =>
         have H := HC53.out
         clear HC53
         by_cases c60 : x10_2 = true
         ·subst c60
          have H1 : (spec_AddEdge.j2 k2 true l0_1 (l0_1.length : Int) x57_2 false ji36 ji37 a0_0 x616001_2 ((rd_T57 l0_1 x57_2).f0) ((rd_T57 l0_1 x57_2).f1)) = some (r1, r2, r3) := by rw [if_pos rfl] at H; exact H
          clear H
          have H := H1
          clear H1
          have H' := Aside0.mk H
          clear H
          go_wp2
          go_meet
          case rel => exact ⟨_, (false), eqA, H', ⟨by have := HJ3.out; have := HK2.out; first | omega | exact Nat.le_refl _⟩, ⟨by (with_reducible repeat (first | apply Kd.R_alloc | apply Kd.R_drewN | apply Kd.R_drew)); exact Kd.R_mono (Kd.R_far (p := ⟨gb617, 1, none⟩) (Kd.R_far (p := ⟨gb617, 0, none⟩) (Kd.R_mono HO_616001.out (fun k_ hk => (⟨hk, hk.2⟩ : _ ∧ k_ ≠ gb617))) (fun _ hk => hk.2) (.int .i64 ((rd_T57 l0_1 x57_2).f0))) (fun _ hk => hk.2) (.int .i64 ((rd_T57 l0_1 x57_2).f1))) (fun _ hk => ⟨hk.1.1, hk.1.2⟩)⟩, ⟨by (with_reducible repeat (first | refine blk_drewN ?_ _ | refine blk_drew ?_ | refine blk_alloc ?_ _)); refine blk_far ?_ NB609_617.out _; (with_reducible repeat (first | refine blk_drewN ?_ _ | refine blk_drew ?_ | refine blk_alloc ?_ _)); refine blk_far ?_ NB609_617.out _; exact Bz BK609⟩, ⟨by (with_reducible repeat (first | refine blk_drewN ?_ _ | refine blk_drew ?_ | refine blk_alloc ?_ _)); refine blk_far ?_ NB610_617.out _; (with_reducible repeat (first | refine blk_drewN ?_ _ | refine blk_drew ?_ | refine blk_alloc ?_ _)); refine blk_far ?_ NB610_617.out _; exact Bz BK610⟩, ⟨by (with_reducible repeat (first | refine blk_drewN ?_ _ | refine blk_drew ?_ | refine blk_alloc ?_ _)); refine blk_far ?_ NB614_617.out _; (with_reducible repeat (first | refine blk_drewN ?_ _ | refine blk_drew ?_ | refine blk_alloc ?_ _)); refine blk_far ?_ NB614_617.out _; exact Bz BK614⟩, ⟨by (with_reducible repeat (first | refine blk_drewN ?_ _ | refine blk_drew ?_ | refine blk_alloc ?_ _)); refine blk_far ?_ NB615_617.out _; (with_reducible repeat (first | refine blk_drewN ?_ _ | refine blk_drew ?_ | refine blk_alloc ?_ _)); refine blk_far ?_ NB615_617.out _; exact Bz BK615⟩, ⟨by (with_reducible repeat (first | refine blk_drewN ?_ _ | refine blk_drew ?_ | refine blk_alloc ?_ _)); refine blk_put (cs := #[.int .i64 ((rd_T57 l0_1 x57_2).f0), .int .i64 0]) ?_ 1 _ rfl; (with_reducible repeat (first | refine blk_drewN ?_ _ | refine blk_drew ?_ | refine blk_alloc ?_ _)); refine blk_put (cs := #[.int .i64 0, .int .i64 0]) ?_ 0 _ rfl; exact Bz BK617⟩, ⟨by first | exact Lz HB | repeat (first | (with_reducible first | exact HB.out | apply below_alloc | apply pw_below_drewN | apply below_drew1 | refine below_set ?_ GE609.out | refine below_set ?_ GE610.out | refine below_set ?_ GE614.out | refine below_set ?_ GE615.out | refine below_set ?_ GE617.out) | exact HB.out)⟩⟩
         replace c60 := Bool.eq_false_iff.mpr c60
         subst c60
         have H1 : (if ((rd_T57 l0_1 x57_2).f0) > ji36 then (spec_AddEdge.j2 k2 false l0_1 (l0_1.length : Int) x57_2 true ji36 ji37 a0_0 x616001_2 ((rd_T57 l0_1 x57_2).f0) ((rd_T57 l0_1 x57_2).f1)) else (if ((rd_T57 l0_1 x57_2).f0) = ji36 then (spec_AddEdge.j2 k2 false l0_1 (l0_1.length : Int) x57_2 (decide (((rd_T57 l0_1 x57_2).f1) > ji37)) ji36 ji37 a0_0 x616001_2 ((rd_T57 l0_1 x57_2).f0) ((rd_T57 l0_1 x57_2).f1)) else (spec_AddEdge.j2 k2 false l0_1 (l0_1.length : Int) x57_2 false ji36 ji37 a0_0 x616001_2 ((rd_T57 l0_1 x57_2).f0) ((rd_T57 l0_1 x57_2).f1)))) = some (r1, r2, r3) := by rw [if_neg (show ¬ (false = true) by decide)] at H; exact H
         clear H
         have H := H1
         clear H1
         by_cases c61 : ((rd_T57 l0_1 x57_2).f0) > ji36
         ·rw [if_pos c61] at H
          have c61b0 : decide (ji36 < ((rd_T57 l0_1 x57_2).f0)) = true := decide_eq_true c61
          clear c61
          (first | rw [c61b0] | (simp only [i64_w, i32_w]; rw [c61b0]) | skip)
          have H' := Aside0.mk H
          clear H
          have hnb62 := NB617_609.out
          have hnc62 := NB609_617.out
          have hnb63 := NB617_610.out
          have hnc63 := NB610_617.out
          have hnb64 := NB617_614.out
          have hnc64 := NB614_617.out
          have hnb65 := NB617_615.out
          have hnc65 := NB615_617.out
          have hcz66_0 : w54.cell? ⟨gb617, 0, none⟩ = some (.int .i64 0) := (blk_cell BK617.out 0).trans rfl
          have hcz66_1 : w54.cell? ⟨gb617, 1, none⟩ = some (.int .i64 0) := (blk_cell BK617.out 1).trans rfl
          have hfz66_0 := blk_frozen BK617.out 0
          have hfz66_1 := blk_frozen BK617.out 1
          have hnb67 := NB614_609.out
          have hnc67 := NB609_614.out
          have hnb68 := NB614_610.out
          have hnc68 := NB610_614.out
          have hnb69 := NB614_615.out
          have hnc69 := NB615_614.out
          have hcz70_0 : w54.cell? ⟨gb614, 0, none⟩ = some (.int .i64 ji36) := (blk_cell BK614.out 0).trans rfl
          have hcz70_1 : w54.cell? ⟨gb614, 1, none⟩ = some (.int .i64 ji37) := (blk_cell BK614.out 1).trans rfl
          have hfz70_0 := blk_frozen BK614.out 0
          have hfz70_1 := blk_frozen BK614.out 1
          go_wp2
          go_meet
          case rel => exact ⟨_, (true), eqA, H', ⟨by have := HJ3.out; have := HK2.out; first | omega | exact Nat.le_refl _⟩, ⟨by (with_reducible repeat (first | apply Kd.R_alloc | apply Kd.R_drewN | apply Kd.R_drew)); exact Kd.R_mono (Kd.R_far (p := ⟨gb617, 1, none⟩) (Kd.R_far (p := ⟨gb617, 0, none⟩) (Kd.R_mono HO_616001.out (fun k_ hk => (⟨hk, hk.2⟩ : _ ∧ k_ ≠ gb617))) (fun _ hk => hk.2) (.int .i64 ((rd_T57 l0_1 x57_2).f0))) (fun _ hk => hk.2) (.int .i64 ((rd_T57 l0_1 x57_2).f1))) (fun _ hk => ⟨hk.1.1, hk.1.2⟩)⟩, ⟨by (with_reducible repeat (first | refine blk_drewN ?_ _ | refine blk_drew ?_ | refine blk_alloc ?_ _)); refine blk_far ?_ NB609_617.out _; (with_reducible repeat (first | refine blk_drewN ?_ _ | refine blk_drew ?_ | refine blk_alloc ?_ _)); refine blk_far ?_ NB609_617.out _; exact Bz BK609⟩, ⟨by (with_reducible repeat (first | refine blk_drewN ?_ _ | refine blk_drew ?_ | refine blk_alloc ?_ _)); refine blk_far ?_ NB610_617.out _; (with_reducible repeat (first | refine blk_drewN ?_ _ | refine blk_drew ?_ | refine blk_alloc ?_ _)); refine blk_far ?_ NB610_617.out _; exact Bz BK610⟩, ⟨by (with_reducible repeat (first | refine blk_drewN ?_ _ | refine blk_drew ?_ | refine blk_alloc ?_ _)); refine blk_far ?_ NB614_617.out _; (with_reducible repeat (first | refine blk_drewN ?_ _ | refine blk_drew ?_ | refine blk_alloc ?_ _)); refine blk_far ?_ NB614_617.out _; exact Bz BK614⟩, ⟨by (with_reducible repeat (first | refine blk_drewN ?_ _ | refine blk_drew ?_ | refine blk_alloc ?_ _)); refine blk_far ?_ NB615_617.out _; (with_reducible repeat (first | refine blk_drewN ?_ _ | refine blk_drew ?_ | refine blk_alloc ?_ _)); refine blk_far ?_ NB615_617.out _; exact Bz BK615⟩, ⟨by (with_reducible repeat (first | refine blk_drewN ?_ _ | refine blk_drew ?_ | refine blk_alloc ?_ _)); refine blk_put (cs := #[.int .i64 ((rd_T57 l0_1 x57_2).f0), .int .i64 0]) ?_ 1 _ rfl; (with_reducible repeat (first | refine blk_drewN ?_ _ | refine blk_drew ?_ | refine blk_alloc ?_ _)); refine blk_put (cs := #[.int .i64 0, .int .i64 0]) ?_ 0 _ rfl; exact Bz BK617⟩, ⟨by first | exact Lz HB | repeat (first | (with_reducible first | exact HB.out | apply below_alloc | apply pw_below_drewN | apply below_drew1 | refine below_set ?_ GE609.out | refine below_set ?_ GE610.out | refine below_set ?_ GE614.out | refine below_set ?_ GE615.out | refine below_set ?_ GE617.out) | exact HB.out)⟩⟩
         rw [if_neg c61] at H
         have c61b0 : decide (ji36 < ((rd_T57 l0_1 x57_2).f0)) = false := decide_eq_false c61
         clear c61
         (first | rw [c61b0] | (simp only [i64_w, i32_w]; rw [c61b0]) | skip)
         by_cases c71 : ((rd_T57 l0_1 x57_2).f0) = ji36
         ·rw [if_pos c71] at H
          have c71b0 : (((rd_T57 l0_1 x57_2).f0) == ji36) = true := beq_iff_eq.mpr c71
          have c71b1 : (((rd_T57 l0_1 x57_2).f0) != ji36) = false := bne_eq_false_iff_eq.mpr c71
          clear c71
          have H' := Aside0.mk H
          clear H
          have hnb72 := NB617_609.out
          have hnc72 := NB609_617.out
          have hnb73 := NB617_610.out
          have hnc73 := NB610_617.out
          have hnb74 := NB617_614.out
          have hnc74 := NB614_617.out
          have hnb75 := NB617_615.out
          have hnc75 := NB615_617.out
          have hcz76_0 : w54.cell? ⟨gb617, 0, none⟩ = some (.int .i64 0) := (blk_cell BK617.out 0).trans rfl
          have hcz76_1 : w54.cell? ⟨gb617, 1, none⟩ = some (.int .i64 0) := (blk_cell BK617.out 1).trans rfl
          have hfz76_0 := blk_frozen BK617.out 0
          have hfz76_1 := blk_frozen BK617.out 1
          have hnb77 := NB614_609.out
          have hnc77 := NB609_614.out
          have hnb78 := NB614_610.out
          have hnc78 := NB610_614.out
          have hnb79 := NB614_615.out
          have hnc79 := NB615_614.out
          have hcz80_0 : w54.cell? ⟨gb614, 0, none⟩ = some (.int .i64 ji36) := (blk_cell BK614.out 0).trans rfl
          have hcz80_1 : w54.cell? ⟨gb614, 1, none⟩ = some (.int .i64 ji37) := (blk_cell BK614.out 1).trans rfl
          have hfz80_0 := blk_frozen BK614.out 0
          have hfz80_1 := blk_frozen BK614.out 1
          go_wp2
          go_meet
          case rel => exact ⟨_, (decide (((rd_T57 l0_1 x57_2).f1) > ji37)), (by first | rfl | (simp; done) | (simp only [← hji37] <;> (first | rfl | simp)) | (simp [*]; done)), H', ⟨by have := HJ3.out; have := HK2.out; first | omega | exact Nat.le_refl _⟩, ⟨by (with_reducible repeat (first | apply Kd.R_alloc | apply Kd.R_drewN | apply Kd.R_drew)); exact Kd.R_mono (Kd.R_far (p := ⟨gb617, 1, none⟩) (Kd.R_far (p := ⟨gb617, 0, none⟩) (Kd.R_mono HO_616001.out (fun k_ hk => (⟨hk, hk.2⟩ : _ ∧ k_ ≠ gb617))) (fun _ hk => hk.2) (.int .i64 ((rd_T57 l0_1 x57_2).f0))) (fun _ hk => hk.2) (.int .i64 ((rd_T57 l0_1 x57_2).f1))) (fun _ hk => ⟨hk.1.1, hk.1.2⟩)⟩, ⟨by (with_reducible repeat (first | refine blk_drewN ?_ _ | refine blk_drew ?_ | refine blk_alloc ?_ _)); refine blk_far ?_ NB609_617.out _; (with_reducible repeat (first | refine blk_drewN ?_ _ | refine blk_drew ?_ | refine blk_alloc ?_ _)); refine blk_far ?_ NB609_617.out _; exact Bz BK609⟩, ⟨by (with_reducible repeat (first | refine blk_drewN ?_ _ | refine blk_drew ?_ | refine blk_alloc ?_ _)); refine blk_far ?_ NB610_617.out _; (with_reducible repeat (first | refine blk_drewN ?_ _ | refine blk_drew ?_ | refine blk_alloc ?_ _)); refine blk_far ?_ NB610_617.out _; exact Bz BK610⟩, ⟨by (with_reducible repeat (first | refine blk_drewN ?_ _ | refine blk_drew ?_ | refine blk_alloc ?_ _)); refine blk_far ?_ NB614_617.out _; (with_reducible repeat (first | refine blk_drewN ?_ _ | refine blk_drew ?_ | refine blk_alloc ?_ _)); refine blk_far ?_ NB614_617.out _; exact Bz BK614⟩, ⟨by (with_reducible repeat (first | refine blk_drewN ?_ _ | refine blk_drew ?_ | refine blk_alloc ?_ _)); refine blk_far ?_ NB615_617.out _; (with_reducible repeat (first | refine blk_drewN ?_ _ | refine blk_drew ?_ | refine blk_alloc ?_ _)); refine blk_far ?_ NB615_617.out _; exact Bz BK615⟩, ⟨by (with_reducible repeat (first | refine blk_drewN ?_ _ | refine blk_drew ?_ | refine blk_alloc ?_ _)); refine blk_put (cs := #[.int .i64 ((rd_T57 l0_1 x57_2).f0), .int .i64 0]) ?_ 1 _ rfl; (with_reducible repeat (first | refine blk_drewN ?_ _ | refine blk_drew ?_ | refine blk_alloc ?_ _)); refine blk_put (cs := #[.int .i64 0, .int .i64 0]) ?_ 0 _ rfl; exact Bz BK617⟩, ⟨by first | exact Lz HB | repeat (first | (with_reducible first | exact HB.out | apply below_alloc | apply pw_below_drewN | apply below_drew1 | refine below_set ?_ GE609.out | refine below_set ?_ GE610.out | refine below_set ?_ GE614.out | refine below_set ?_ GE615.out | refine below_set ?_ GE617.out) | exact HB.out)⟩⟩
         rw [if_neg c71] at H
         have c71b0 : (((rd_T57 l0_1 x57_2).f0) == ji36) = false := beq_eq_false_iff_ne.mpr c71
         have c71b1 : (((rd_T57 l0_1 x57_2).f0) != ji36) = true := bne_iff_ne.mpr c71
         have H' := Aside0.mk H
         clear H
         have hnb81 := NB617_609.out
         have hnc81 := NB609_617.out
         have hnb82 := NB617_610.out
         have hnc82 := NB610_617.out
         have hnb83 := NB617_614.out
         have hnc83 := NB614_617.out
         have hnb84 := NB617_615.out
         have hnc84 := NB615_617.out
         have hcz85_0 : w54.cell? ⟨gb617, 0, none⟩ = some (.int .i64 0) := (blk_cell BK617.out 0).trans rfl
         have hcz85_1 : w54.cell? ⟨gb617, 1, none⟩ = some (.int .i64 0) := (blk_cell BK617.out 1).trans rfl
         have hfz85_0 := blk_frozen BK617.out 0
         have hfz85_1 := blk_frozen BK617.out 1
         have hnb86 := NB614_609.out
         have hnc86 := NB609_614.out
         have hnb87 := NB614_610.out
         have hnc87 := NB610_614.out
         have hnb88 := NB614_615.out
         have hnc88 := NB615_614.out
         have hcz89_0 : w54.cell? ⟨gb614, 0, none⟩ = some (.int .i64 ji36) := (blk_cell BK614.out 0).trans rfl
         have hcz89_1 : w54.cell? ⟨gb614, 1, none⟩ = some (.int .i64 ji37) := (blk_cell BK614.out 1).trans rfl
         have hfz89_0 := blk_frozen BK614.out 0
         have hfz89_1 := blk_frozen BK614.out 1
         go_wp2
         go_meet
         case rel => exact ⟨_, (false), eqA, H', ⟨by have := HJ3.out; have := HK2.out; first | omega | exact Nat.le_refl _⟩, ⟨by (with_reducible repeat (first | apply Kd.R_alloc | apply Kd.R_drewN | apply Kd.R_drew)); exact Kd.R_mono (Kd.R_far (p := ⟨gb617, 1, none⟩) (Kd.R_far (p := ⟨gb617, 0, none⟩) (Kd.R_mono HO_616001.out (fun k_ hk => (⟨hk, hk.2⟩ : _ ∧ k_ ≠ gb617))) (fun _ hk => hk.2) (.int .i64 ((rd_T57 l0_1 x57_2).f0))) (fun _ hk => hk.2) (.int .i64 ((rd_T57 l0_1 x57_2).f1))) (fun _ hk => ⟨hk.1.1, hk.1.2⟩)⟩, ⟨by (with_reducible repeat (first | refine blk_drewN ?_ _ | refine blk_drew ?_ | refine blk_alloc ?_ _)); refine blk_far ?_ NB609_617.out _; (with_reducible repeat (first | refine blk_drewN ?_ _ | refine blk_drew ?_ | refine blk_alloc ?_ _)); refine blk_far ?_ NB609_617.out _; exact Bz BK609⟩, ⟨by (with_reducible repeat (first | refine blk_drewN ?_ _ | refine blk_drew ?_ | refine blk_alloc ?_ _)); refine blk_far ?_ NB610_617.out _; (with_reducible repeat (first | refine blk_drewN ?_ _ | refine blk_drew ?_ | refine blk_alloc ?_ _)); refine blk_far ?_ NB610_617.out _; exact Bz BK610⟩, ⟨by (with_reducible repeat (first | refine blk_drewN ?_ _ | refine blk_drew ?_ | refine blk_alloc ?_ _)); refine blk_far ?_ NB614_617.out _; (with_reducible repeat (first | refine blk_drewN ?_ _ | refine blk_drew ?_ | refine blk_alloc ?_ _)); refine blk_far ?_ NB614_617.out _; exact Bz BK614⟩, ⟨by (with_reducible repeat (first | refine blk_drewN ?_ _ | refine blk_drew ?_ | refine blk_alloc ?_ _)); refine blk_far ?_ NB615_617.out _; (with_reducible repeat (first | refine blk_drewN ?_ _ | refine blk_drew ?_ | refine blk_alloc ?_ _)); refine blk_far ?_ NB615_617.out _; exact Bz BK615⟩, ⟨by (with_reducible repeat (first | refine blk_drewN ?_ _ | refine blk_drew ?_ | refine blk_alloc ?_ _)); refine blk_put (cs := #[.int .i64 ((rd_T57 l0_1 x57_2).f0), .int .i64 0]) ?_ 1 _ rfl; (with_reducible repeat (first | refine blk_drewN ?_ _ | refine blk_drew ?_ | refine blk_alloc ?_ _)); refine blk_put (cs := #[.int .i64 0, .int .i64 0]) ?_ 0 _ rfl; exact Bz BK617⟩, ⟨by first | exact Lz HB | repeat (first | (with_reducible first | exact HB.out | apply below_alloc | apply pw_below_drewN | apply below_drew1 | refine below_set ?_ GE609.out | refine below_set ?_ GE610.out | refine below_set ?_ GE614.out | refine below_set ?_ GE615.out | refine below_set ?_ GE617.out) | exact HB.out)⟩⟩
        case rest =>
         clear HC53
         try clear c8
         try clear c10
         try clear c12
         try clear c13
         try clear c13b0
         try clear c13b1
         try clear c33
         try clear c50
         try clear c50b0
         try clear c51
         try clear c51b0
         try clear c52
         try clear c52b0
         try clear c60
         try clear c61
         try clear c61b0
         try clear c71
         try clear c71b0
         try clear c71b1
         try clear p616
         try clear q616
         obtain ⟨kq, x83_52, rfl, HA, HJ52, HO_616001, BK609, BK610, BK614, BK615, BK617, HB⟩ := hcut
         cases kq with
         | zero => exact absurd HA.out (by simp [spec_AddEdge.j2])
         | succ kj52 =>
          have H := HA.out
          clear HA
          simp only [spec_AddEdge.j2] at H
          by_cases c90 : x83_52 = true
          ·subst c90
           have H1 : (if x616001_2.length < 8796093022208 then ((some (x616001_2 ++ [(⟨ji36, ji37⟩ : S57)] : List (S57))).bind fun y618 => (if y618.length < 8796093022208 then (spec_AddEdge.l0 kj52 true l0_1 (l0_1.length : Int) (wrap64 (x57_2 + 1)) ji36 ji37 a0_0 (y618 ++ [(⟨((rd_T57 l0_1 x57_2).f0), ((rd_T57 l0_1 x57_2).f1)⟩ : S57)])) else (none))) else (none)) = some (r1, r2, r3) := by rw [if_pos rfl] at H; exact H
           clear H
           have H := H1
           clear H1
           by_cases c91 : x616001_2.length < 8796093022208
           ·rw [if_pos c91] at H
            have LMc91 := Aside0.mk c91
            clear c91
            obtain ⟨y618, hy618⟩ : ∃ y_ : List (S57), y_ = (x616001_2 ++ [(⟨ji36, ji37⟩ : S57)]) := ⟨_, rfl⟩
            replace H : (if y618.length < 8796093022208 then (spec_AddEdge.l0 kj52 true l0_1 (l0_1.length : Int) (wrap64 (x57_2 + 1)) ji36 ji37 a0_0 (y618 ++ [(⟨((rd_T57 l0_1 x57_2).f0), ((rd_T57 l0_1 x57_2).f1)⟩ : S57)])) else (none)) = some (r1, r2, r3) := by first | (rw [hy618]; with_reducible exact H) | (have H2_ := (Option.bind_some _ _).symm.trans H; rw [hy618]; with_reducible exact H2_) | (have H2_ := (Option.bind_some _ _).symm.trans H; with_reducible exact H2_) | with_reducible exact H | (rw [hy618]; exact H) | exact H
            have Ny618 := Aside0.mk hy618
            clear hy618
            by_cases c92 : y618.length < 8796093022208
            ·rw [if_pos c92] at H
             have LMc92 := Aside0.mk c92
             clear c92
             obtain ⟨y621, hy621⟩ : ∃ y_ : List (S57), y_ = (y618 ++ [(⟨((rd_T57 l0_1 x57_2).f0), ((rd_T57 l0_1 x57_2).f1)⟩ : S57)]) := ⟨_, rfl⟩
             replace H : (spec_AddEdge.l0 kj52 true l0_1 (l0_1.length : Int) (wrap64 (x57_2 + 1)) ji36 ji37 a0_0 y621) = some (r1, r2, r3) := by first | (rw [hy621]; with_reducible exact H) | (have H2_ := (Option.bind_some _ _).symm.trans H; rw [hy621]; with_reducible exact H2_) | (have H2_ := (Option.bind_some _ _).symm.trans H; with_reducible exact H2_) | with_reducible exact H | (rw [hy621]; exact H) | exact H
             have Ny621 := Aside0.mk hy621
             clear hy621
             have H' := Aside0.mk H
             clear H
             have hnb93 := NB615_609.out
             have hnc93 := NB609_615.out
             have hnb94 := NB615_610.out
             have hnc94 := NB610_615.out
             have hnb95 := NB615_614.out
             have hnc95 := NB614_615.out
             have hnb96 := NB615_617.out
             have hnc96 := NB617_615.out
             have hcz97_0 : wc.cell? ⟨gb615, 0, none⟩ = some (.int .i64 a0_0) := (blk_cell BK615.out 0).trans rfl
             have hcz97_1 : wc.cell? ⟨gb615, 1, none⟩ = some (u616001) := (blk_cell BK615.out 1).trans rfl
             have hfz97_0 := blk_frozen BK615.out 0
             have hfz97_1 := blk_frozen BK615.out 1
             have hnb98 := NB614_609.out
             have hnc98 := NB609_614.out
             have hnb99 := NB614_610.out
             have hnc99 := NB610_614.out
             have hnb100 := NB614_617.out
             have hnc100 := NB617_614.out
             have hcz101_0 : wc.cell? ⟨gb614, 0, none⟩ = some (.int .i64 ji36) := (blk_cell BK614.out 0).trans rfl
             have hcz101_1 : wc.cell? ⟨gb614, 1, none⟩ = some (.int .i64 ji37) := (blk_cell BK614.out 1).trans rfl
             have hfz101_0 := blk_frozen BK614.out 0
             have hfz101_1 := blk_frozen BK614.out 1
             go_wp2_with (first | ((with_reducible refine gate_builtin (b := .append) (xs := #[.tmp 85, .tmp 87]) rfl ?_); (try (refine gate_guard (by rfl) ?_; dsimp only)); at_builtin; refine Kd.R_append k57 (w0 := w) w.heap.size rfl (.tmp 85) (.tmp 87) 28 57 (.agg #[(.int .i64 0), (.int .i64 0)]) 16 rfl Try.underlying28 info57 rfl (by decide) (by omega) u616001 x616001_2 (⟨ji36, ji37⟩ : S57) [.int .i64 ji36, .int .i64 ji37] (fun k_ => k_ ≠ gb614 ∧ k_ ≠ gb617) (fun _ => False) rfl rfl ?aP (fun _ hk => hk.elim) ?aF ?aO ?aB ?aS ?aL ?_; (case aP => exact k57_mkM _ _ _ (⟨ji36, ji37⟩ : S57)); (case aB => exact (by first | exact Lz HB | repeat (first | (with_reducible first | exact HB.out | apply below_alloc | apply pw_below_drewN | apply below_drew1 | refine below_set ?_ GE609.out | refine below_set ?_ GE610.out | refine below_set ?_ GE614.out | refine below_set ?_ GE615.out | refine below_set ?_ GE617.out) | exact HB.out))); (case aF => exact (fun k_ hk => ⟨Kd.freshB (g := gb614) (o := .cells #[.int .i64 ji36, .int .i64 ji37] 57 (0, 0)) (Bz BK614) k_ hk, Kd.freshB (g := gb617) (o := .cells #[.int .i64 ((rd_T57 l0_1 x57_2).f0), .int .i64 ((rd_T57 l0_1 x57_2).f1)] 57 (0, 0)) (Bz BK617) k_ hk⟩)); (case aO => exact (Rz HO_616001)); (case aS => exact (below_size (by first | exact Lz HB | repeat (first | (with_reducible first | exact HB.out | apply below_alloc | apply pw_below_drewN | apply below_drew1 | refine below_set ?_ GE609.out | refine below_set ?_ GE610.out | refine below_set ?_ GE614.out | refine below_set ?_ GE615.out | refine below_set ?_ GE617.out) | exact HB.out)))); (case aL => have := LMc91.out; omega); intro v619 w102 ho hb hg hat; rw [← Ny618.out] at ho; replace BK609 := Aside0.mk (blk_grown (g := gb609) (o := .cells #[.int .i64 a0_0, .slice (some ad616) l0_1.length c0_1] 30 (0, 0)) (Bz BK609) hg (Kd.R_ne HO_616001.out BK609.out (by decide))); replace BK610 := Aside0.mk (blk_grown (g := gb610) (o := .cells #[.int .i64 0, .slice none 0 0] 30 (0, 0)) (Bz BK610) hg (Kd.R_ne HO_616001.out BK610.out (by decide))); replace BK614 := Aside0.mk (blk_grown (g := gb614) (o := .cells #[.int .i64 ji36, .int .i64 ji37] 57 (0, 0)) (Bz BK614) hg (Kd.R_away HO_616001.out (fun _ hk => hk.1))); replace BK615 := Aside0.mk (blk_grown (g := gb615) (o := .cells #[.int .i64 a0_0, u616001] 30 (0, 0)) (Bz BK615) hg (Kd.R_ne HO_616001.out BK615.out (by decide))); replace BK617 := Aside0.mk (blk_grown (g := gb617) (o := .cells #[.int .i64 ((rd_T57 l0_1 x57_2).f0), .int .i64 ((rd_T57 l0_1 x57_2).f1)] 57 (0, 0)) (Bz BK617) hg (Kd.R_away HO_616001.out (fun _ hk => hk.2))); replace HB := Aside0.mk (hb); have HO620 := Aside0.mk (ho); clear HO_616001; clear ho hb hg hat; obtain ⟨Ao103, co103, eo103⟩ := Kd.R_slice HO620.out; subst eo103; have hcz104_0 : w102.cell? ⟨gb615, 0, none⟩ = some (.int .i64 a0_0) := (blk_cell BK615.out 0).trans rfl; have hcz104_1 : w102.cell? ⟨gb615, 1, none⟩ = some (u616001) := (blk_cell BK615.out 1).trans rfl; have hfz104_0 := blk_frozen BK615.out 0; have hfz104_1 := blk_frozen BK615.out 1; have hnb105 := NB617_609.out; have hnc105 := NB609_617.out; have hnb106 := NB617_610.out; have hnc106 := NB610_617.out; have hcz107_0 : w102.cell? ⟨gb617, 0, none⟩ = some (.int .i64 ((rd_T57 l0_1 x57_2).f0)) := (blk_cell BK617.out 0).trans rfl; have hcz107_1 : w102.cell? ⟨gb617, 1, none⟩ = some (.int .i64 ((rd_T57 l0_1 x57_2).f1)) := (blk_cell BK617.out 1).trans rfl; have hfz107_0 := blk_frozen BK617.out 0; have hfz107_1 := blk_frozen BK617.out 1) | ((with_reducible refine gate_builtin (b := .append) (xs := #[.tmp 91, .tmp 93]) rfl ?_); (try (refine gate_guard (by rfl) ?_; dsimp only)); at_builtin; refine Kd.R_append k57 (w0 := w) w.heap.size rfl (.tmp 91) (.tmp 93) 28 57 (.agg #[(.int .i64 0), (.int .i64 0)]) 16 rfl Try.underlying28 info57 rfl (by decide) (by omega) (.slice Ao103 y618.length co103) y618 (⟨((rd_T57 l0_1 x57_2).f0), ((rd_T57 l0_1 x57_2).f1)⟩ : S57) [.int .i64 ((rd_T57 l0_1 x57_2).f0), .int .i64 ((rd_T57 l0_1 x57_2).f1)] (fun k_ => k_ ≠ gb614 ∧ k_ ≠ gb617) (fun _ => False) rfl (by first | (go_simp; done) | (go_simp; rfl)) ?aP (fun _ hk => hk.elim) ?aF ?aO ?aB ?aS ?aL ?_; (case aP => exact k57_mkM _ _ _ (⟨((rd_T57 l0_1 x57_2).f0), ((rd_T57 l0_1 x57_2).f1)⟩ : S57)); (case aB => exact (by first | exact Lz HB | repeat (first | (with_reducible first | exact HB.out | apply below_alloc | apply pw_below_drewN | apply below_drew1 | refine below_set ?_ GE609.out | refine below_set ?_ GE610.out | refine below_set ?_ GE614.out | refine below_set ?_ GE615.out | refine below_set ?_ GE617.out) | exact HB.out))); (case aF => exact (fun k_ hk => ⟨Kd.freshB (g := gb614) (o := .cells #[.int .i64 ji36, .int .i64 ji37] 57 (0, 0)) (by (with_reducible repeat (first | refine blk_drewN ?_ _ | refine blk_drew ?_ | refine blk_alloc ?_ _)); refine blk_far ?_ NB614_615.out _; exact Bz BK614) k_ hk, Kd.freshB (g := gb617) (o := .cells #[.int .i64 ((rd_T57 l0_1 x57_2).f0), .int .i64 ((rd_T57 l0_1 x57_2).f1)] 57 (0, 0)) (by (with_reducible repeat (first | refine blk_drewN ?_ _ | refine blk_drew ?_ | refine blk_alloc ?_ _)); refine blk_far ?_ NB617_615.out _; exact Bz BK617) k_ hk⟩)); (case aO => exact (by (with_reducible repeat (first | apply Kd.R_alloc | apply Kd.R_drewN | apply Kd.R_drew)); exact Kd.R_mono (Kd.R_far (p := ⟨gb615, 1, none⟩) (Kd.R_types HO620.out BK615.out (by decide)) (fun _ hk => hk.2) (.slice Ao103 y618.length co103)) (fun _ hk => ⟨hk.1.1, hk.1.2⟩))); (case aS => exact (below_size (by first | exact Lz HB | repeat (first | (with_reducible first | exact HB.out | apply below_alloc | apply pw_below_drewN | apply below_drew1 | refine below_set ?_ GE609.out | refine below_set ?_ GE610.out | refine below_set ?_ GE614.out | refine below_set ?_ GE615.out | refine below_set ?_ GE617.out) | exact HB.out)))); (case aL => have := LMc92.out; omega); intro v622 w108 ho hb hg hat; rw [← Ny621.out] at ho; replace BK609 := Aside0.mk (blk_grown (g := gb609) (o := .cells #[.int .i64 a0_0, .slice (some ad616) l0_1.length c0_1] 30 (0, 0)) (by (with_reducible repeat (first | refine blk_drewN ?_ _ | refine blk_drew ?_ | refine blk_alloc ?_ _)); refine blk_far ?_ NB609_615.out _; exact Bz BK609) hg (Kd.R_ne HO620.out BK609.out (by decide))); replace BK610 := Aside0.mk (blk_grown (g := gb610) (o := .cells #[.int .i64 0, .slice none 0 0] 30 (0, 0)) (by (with_reducible repeat (first | refine blk_drewN ?_ _ | refine blk_drew ?_ | refine blk_alloc ?_ _)); refine blk_far ?_ NB610_615.out _; exact Bz BK610) hg (Kd.R_ne HO620.out BK610.out (by decide))); replace BK614 := Aside0.mk (blk_grown (g := gb614) (o := .cells #[.int .i64 ji36, .int .i64 ji37] 57 (0, 0)) (by (with_reducible repeat (first | refine blk_drewN ?_ _ | refine blk_drew ?_ | refine blk_alloc ?_ _)); refine blk_far ?_ NB614_615.out _; exact Bz BK614) hg (Kd.R_away HO620.out (fun _ hk => hk.1))); replace BK615 := Aside0.mk (blk_grown (g := gb615) (o := .cells #[.int .i64 a0_0, .slice Ao103 y618.length co103] 30 (0, 0)) (by (with_reducible repeat (first | refine blk_drewN ?_ _ | refine blk_drew ?_ | refine blk_alloc ?_ _)); refine blk_put (cs := #[.int .i64 a0_0, u616001]) ?_ 1 _ rfl; exact Bz BK615) hg (Kd.R_ne HO620.out BK615.out (by decide))); replace BK617 := Aside0.mk (blk_grown (g := gb617) (o := .cells #[.int .i64 ((rd_T57 l0_1 x57_2).f0), .int .i64 ((rd_T57 l0_1 x57_2).f1)] 57 (0, 0)) (by (with_reducible repeat (first | refine blk_drewN ?_ _ | refine blk_drew ?_ | refine blk_alloc ?_ _)); refine blk_far ?_ NB617_615.out _; exact Bz BK617) hg (Kd.R_away HO620.out (fun _ hk => hk.2))); replace HB := Aside0.mk (hb); have HO623 := Aside0.mk (ho); clear HO620; clear ho hb hg hat; obtain ⟨Ao109, co109, eo109⟩ := Kd.R_slice HO623.out; subst eo109; have hcz110_0 : w108.cell? ⟨gb615, 0, none⟩ = some (.int .i64 a0_0) := (blk_cell BK615.out 0).trans rfl; have hcz110_1 : w108.cell? ⟨gb615, 1, none⟩ = some (.slice Ao103 y618.length co103) := (blk_cell BK615.out 1).trans rfl; have hfz110_0 := blk_frozen BK615.out 0; have hfz110_1 := blk_frozen BK615.out 1))
             go_roundg kj52
             case measure => have := HJ3.out; have := HK2.out; have := HJ52.out; omega
             case rel => exact ⟨(true), (wrap64 (x57_2 + 1)), (y621), (.slice Ao109 y621.length co109), eqA, eqA, H', ⟨by have := HJ3.out; have := HK2.out; have := HJ52.out; omega⟩, ⟨by (with_reducible repeat (first | apply Kd.R_alloc | apply Kd.R_drewN | apply Kd.R_drew)); exact Kd.R_mono (Kd.R_far (p := ⟨gb615, 1, none⟩) (Kd.R_types HO623.out BK615.out (by decide)) (fun _ hk => hk.2) (.slice Ao109 y621.length co109)) (fun _ hk => hk.1.1)⟩, ⟨by (with_reducible repeat (first | refine blk_drewN ?_ _ | refine blk_drew ?_ | refine blk_alloc ?_ _)); refine blk_far ?_ NB609_615.out _; exact Bz BK609⟩, ⟨by (with_reducible repeat (first | refine blk_drewN ?_ _ | refine blk_drew ?_ | refine blk_alloc ?_ _)); refine blk_far ?_ NB610_615.out _; exact Bz BK610⟩, ⟨by (with_reducible repeat (first | refine blk_drewN ?_ _ | refine blk_drew ?_ | refine blk_alloc ?_ _)); refine blk_far ?_ NB614_615.out _; exact Bz BK614⟩, ⟨by (with_reducible repeat (first | refine blk_drewN ?_ _ | refine blk_drew ?_ | refine blk_alloc ?_ _)); refine blk_put (cs := #[.int .i64 a0_0, .slice Ao103 y618.length co103]) ?_ 1 _ rfl; exact Bz BK615⟩, ⟨by first | exact Lz HB | repeat (first | (with_reducible first | exact HB.out | apply below_alloc | apply pw_below_drewN | apply below_drew1 | refine below_set ?_ GE609.out | refine below_set ?_ GE610.out | refine below_set ?_ GE614.out | refine below_set ?_ GE615.out | refine below_set ?_ GE617.out) | exact HB.out)⟩⟩
            rw [if_neg c92] at H
            exact absurd H (by simp)
           rw [if_neg c91] at H
           exact absurd H (by simp)
          replace c90 := Bool.eq_false_iff.mpr c90
          subst c90
          have H1 : (if x616001_2.length < 8796093022208 then (spec_AddEdge.l0 kj52 x10_2 l0_1 (l0_1.length : Int) (wrap64 (x57_2 + 1)) ji36 ji37 a0_0 (x616001_2 ++ [(⟨((rd_T57 l0_1 x57_2).f0), ((rd_T57 l0_1 x57_2).f1)⟩ : S57)])) else (none)) = some (r1, r2, r3) := by rw [if_neg (show ¬ (false = true) by decide)] at H; exact H
          clear H
          have H := H1
          clear H1
          by_cases c111 : x616001_2.length < 8796093022208
          ·rw [if_pos c111] at H
           have LMc111 := Aside0.mk c111
           clear c111
           obtain ⟨y624, hy624⟩ : ∃ y_ : List (S57), y_ = (x616001_2 ++ [(⟨((rd_T57 l0_1 x57_2).f0), ((rd_T57 l0_1 x57_2).f1)⟩ : S57)]) := ⟨_, rfl⟩
           replace H : (spec_AddEdge.l0 kj52 x10_2 l0_1 (l0_1.length : Int) (wrap64 (x57_2 + 1)) ji36 ji37 a0_0 y624) = some (r1, r2, r3) := by first | (rw [hy624]; with_reducible exact H) | (have H2_ := (Option.bind_some _ _).symm.trans H; rw [hy624]; with_reducible exact H2_) | (have H2_ := (Option.bind_some _ _).symm.trans H; with_reducible exact H2_) | with_reducible exact H | (rw [hy624]; exact H) | exact H
           have Ny624 := Aside0.mk hy624
           clear hy624
           have H' := Aside0.mk H
           clear H
           have hnb112 := NB615_609.out
           have hnc112 := NB609_615.out
           have hnb113 := NB615_610.out
           have hnc113 := NB610_615.out
           have hnb114 := NB615_614.out
           have hnc114 := NB614_615.out
           have hnb115 := NB615_617.out
           have hnc115 := NB617_615.out
           have hcz116_0 : wc.cell? ⟨gb615, 0, none⟩ = some (.int .i64 a0_0) := (blk_cell BK615.out 0).trans rfl
           have hcz116_1 : wc.cell? ⟨gb615, 1, none⟩ = some (u616001) := (blk_cell BK615.out 1).trans rfl
           have hfz116_0 := blk_frozen BK615.out 0
           have hfz116_1 := blk_frozen BK615.out 1
           have hnb117 := NB617_609.out
           have hnc117 := NB609_617.out
           have hnb118 := NB617_610.out
           have hnc118 := NB610_617.out
           have hnb119 := NB617_614.out
           have hnc119 := NB614_617.out
           have hcz120_0 : wc.cell? ⟨gb617, 0, none⟩ = some (.int .i64 ((rd_T57 l0_1 x57_2).f0)) := (blk_cell BK617.out 0).trans rfl
           have hcz120_1 : wc.cell? ⟨gb617, 1, none⟩ = some (.int .i64 ((rd_T57 l0_1 x57_2).f1)) := (blk_cell BK617.out 1).trans rfl
           have hfz120_0 := blk_frozen BK617.out 0
           have hfz120_1 := blk_frozen BK617.out 1
           go_wp2_with (first | ((with_reducible refine gate_builtin (b := .append) (xs := #[.tmp 91, .tmp 93]) rfl ?_); (try (refine gate_guard (by rfl) ?_; dsimp only)); at_builtin; refine Kd.R_append k57 (w0 := w) w.heap.size rfl (.tmp 91) (.tmp 93) 28 57 (.agg #[(.int .i64 0), (.int .i64 0)]) 16 rfl Try.underlying28 info57 rfl (by decide) (by omega) u616001 x616001_2 (⟨((rd_T57 l0_1 x57_2).f0), ((rd_T57 l0_1 x57_2).f1)⟩ : S57) [.int .i64 ((rd_T57 l0_1 x57_2).f0), .int .i64 ((rd_T57 l0_1 x57_2).f1)] (fun k_ => k_ ≠ gb614 ∧ k_ ≠ gb617) (fun _ => False) rfl rfl ?aP (fun _ hk => hk.elim) ?aF ?aO ?aB ?aS ?aL ?_; (case aP => exact k57_mkM _ _ _ (⟨((rd_T57 l0_1 x57_2).f0), ((rd_T57 l0_1 x57_2).f1)⟩ : S57)); (case aB => exact (by first | exact Lz HB | repeat (first | (with_reducible first | exact HB.out | apply below_alloc | apply pw_below_drewN | apply below_drew1 | refine below_set ?_ GE609.out | refine below_set ?_ GE610.out | refine below_set ?_ GE614.out | refine below_set ?_ GE615.out | refine below_set ?_ GE617.out) | exact HB.out))); (case aF => exact (fun k_ hk => ⟨Kd.freshB (g := gb614) (o := .cells #[.int .i64 ji36, .int .i64 ji37] 57 (0, 0)) (Bz BK614) k_ hk, Kd.freshB (g := gb617) (o := .cells #[.int .i64 ((rd_T57 l0_1 x57_2).f0), .int .i64 ((rd_T57 l0_1 x57_2).f1)] 57 (0, 0)) (Bz BK617) k_ hk⟩)); (case aO => exact (Rz HO_616001)); (case aS => exact (below_size (by first | exact Lz HB | repeat (first | (with_reducible first | exact HB.out | apply below_alloc | apply pw_below_drewN | apply below_drew1 | refine below_set ?_ GE609.out | refine below_set ?_ GE610.out | refine below_set ?_ GE614.out | refine below_set ?_ GE615.out | refine below_set ?_ GE617.out) | exact HB.out)))); (case aL => have := LMc111.out; omega); intro v625 w121 ho hb hg hat; rw [← Ny624.out] at ho; replace BK609 := Aside0.mk (blk_grown (g := gb609) (o := .cells #[.int .i64 a0_0, .slice (some ad616) l0_1.length c0_1] 30 (0, 0)) (Bz BK609) hg (Kd.R_ne HO_616001.out BK609.out (by decide))); replace BK610 := Aside0.mk (blk_grown (g := gb610) (o := .cells #[.int .i64 0, .slice none 0 0] 30 (0, 0)) (Bz BK610) hg (Kd.R_ne HO_616001.out BK610.out (by decide))); replace BK614 := Aside0.mk (blk_grown (g := gb614) (o := .cells #[.int .i64 ji36, .int .i64 ji37] 57 (0, 0)) (Bz BK614) hg (Kd.R_away HO_616001.out (fun _ hk => hk.1))); replace BK615 := Aside0.mk (blk_grown (g := gb615) (o := .cells #[.int .i64 a0_0, u616001] 30 (0, 0)) (Bz BK615) hg (Kd.R_ne HO_616001.out BK615.out (by decide))); replace BK617 := Aside0.mk (blk_grown (g := gb617) (o := .cells #[.int .i64 ((rd_T57 l0_1 x57_2).f0), .int .i64 ((rd_T57 l0_1 x57_2).f1)] 57 (0, 0)) (Bz BK617) hg (Kd.R_away HO_616001.out (fun _ hk => hk.2))); replace HB := Aside0.mk (hb); have HO626 := Aside0.mk (ho); clear HO_616001; clear ho hb hg hat; obtain ⟨Ao122, co122, eo122⟩ := Kd.R_slice HO626.out; subst eo122; have hcz123_0 : w121.cell? ⟨gb615, 0, none⟩ = some (.int .i64 a0_0) := (blk_cell BK615.out 0).trans rfl; have hcz123_1 : w121.cell? ⟨gb615, 1, none⟩ = some (u616001) := (blk_cell BK615.out 1).trans rfl; have hfz123_0 := blk_frozen BK615.out 0; have hfz123_1 := blk_frozen BK615.out 1))
           go_roundg kj52
           case measure => have := HJ3.out; have := HK2.out; have := HJ52.out; omega
           case rel => exact ⟨(x10_2), (wrap64 (x57_2 + 1)), (y624), (.slice Ao122 y624.length co122), eqA, eqA, H', ⟨by have := HJ3.out; have := HK2.out; have := HJ52.out; omega⟩, ⟨by (with_reducible repeat (first | apply Kd.R_alloc | apply Kd.R_drewN | apply Kd.R_drew)); exact Kd.R_mono (Kd.R_far (p := ⟨gb615, 1, none⟩) (Kd.R_types HO626.out BK615.out (by decide)) (fun _ hk => hk.2) (.slice Ao122 y624.length co122)) (fun _ hk => hk.1.1)⟩, ⟨by (with_reducible repeat (first | refine blk_drewN ?_ _ | refine blk_drew ?_ | refine blk_alloc ?_ _)); refine blk_far ?_ NB609_615.out _; exact Bz BK609⟩, ⟨by (with_reducible repeat (first | refine blk_drewN ?_ _ | refine blk_drew ?_ | refine blk_alloc ?_ _)); refine blk_far ?_ NB610_615.out _; exact Bz BK610⟩, ⟨by (with_reducible repeat (first | refine blk_drewN ?_ _ | refine blk_drew ?_ | refine blk_alloc ?_ _)); refine blk_far ?_ NB614_615.out _; exact Bz BK614⟩, ⟨by (with_reducible repeat (first | refine blk_drewN ?_ _ | refine blk_drew ?_ | refine blk_alloc ?_ _)); refine blk_put (cs := #[.int .i64 a0_0, u616001]) ?_ 1 _ rfl; exact Bz BK615⟩, ⟨by first | exact Lz HB | repeat (first | (with_reducible first | exact HB.out | apply below_alloc | apply pw_below_drewN | apply below_drew1 | refine below_set ?_ GE609.out | refine below_set ?_ GE610.out | refine below_set ?_ GE614.out | refine below_set ?_ GE615.out | refine below_set ?_ GE617.out) | exact HB.out)⟩⟩
          rw [if_neg c111] at H
          exact absurd H (by simp)
       rw [if_neg c52] at H
       exact absurd H (by simp)
      rw [if_neg c51] at H
      exact absurd H (by simp)
     rw [if_neg c50] at H
     have c50b0 : decide (x57_2 < (l0_1.length : Int)) = false := decide_eq_false c50
     clear c50
     by_cases c124 : x10_2 = true
     ·subst c124
      have H1 : (some (a0_0, x616001_2, true)) = some (r1, r2, r3) := by rw [if_pos rfl] at H; exact H
      clear H
      have H := H1
      clear H1
      simp only [Option.some.injEq, Prod.mk.injEq] at H
      obtain ⟨rfl, rfl, rfl⟩ := H
      have hnb125 := NB615_609.out
      have hnc125 := NB609_615.out
      have hnb126 := NB615_610.out
      have hnc126 := NB610_615.out
      have hnb127 := NB615_614.out
      have hnc127 := NB614_615.out
      have hcz128_0 : wr.cell? ⟨gb615, 0, none⟩ = some (.int .i64 a0_0) := (blk_cell BK615.out 0).trans rfl
      have hcz128_1 : wr.cell? ⟨gb615, 1, none⟩ = some (u616001) := (blk_cell BK615.out 1).trans rfl
      have hfz128_0 := blk_frozen BK615.out 0
      have hfz128_1 := blk_frozen BK615.out 1
      have hnb129 := NB610_609.out
      have hnc129 := NB609_610.out
      have hnb130 := NB610_614.out
      have hnc130 := NB614_610.out
      have hcz131_0 : wr.cell? ⟨gb610, 0, none⟩ = some (.int .i64 0) := (blk_cell BK610.out 0).trans rfl
      have hcz131_1 : wr.cell? ⟨gb610, 1, none⟩ = some (.slice none 0 0) := (blk_cell BK610.out 1).trans rfl
      have hfz131_0 := blk_frozen BK610.out 0
      have hfz131_1 := blk_frozen BK610.out 1
      obtain ⟨Ao132, co132, eo132⟩ := Kd.R_slice HO_616001.out
      subst eo132
      go_wp2
      refine bodyPost_ret (results_ct rfl _ _ gb610 30 #[.int .i64 a0_0, .slice Ao132 x616001_2.length co132] (0, 0) _ rfl (by (with_reducible repeat (first | refine blk_drewN ?_ _ | refine blk_drew ?_ | refine blk_alloc ?_ _)); refine blk_put (cs := #[.int .i64 a0_0, .slice none 0 0]) ?_ 1 _ rfl; (with_reducible repeat (first | refine blk_drewN ?_ _ | refine blk_drew ?_ | refine blk_alloc ?_ _)); refine blk_put (cs := #[.int .i64 0, .slice none 0 0]) ?_ 0 _ rfl; exact Bz BK610) Try.underlying30 rfl (by kernel_rfl)) rfl ?_
      exact ⟨_, by first | rfl | (simp [errW_none, errW_some] <;> rfl) | (simp only [← hji36, ← hji37]; first | rfl | (simp [errW_none, errW_some] <;> rfl)) | (simp [*, errW_none, errW_some] <;> rfl), by (with_reducible repeat (first | apply Kd.R_alloc | apply Kd.R_drewN | apply Kd.R_drew)); exact Kd.R_mono (Kd.R_far (p := ⟨gb610, 1, none⟩) (Kd.R_far (p := ⟨gb610, 0, none⟩) (Kd.R_types HO_616001.out BK610.out (by decide)) (fun _ hk => hk.2) (.int .i64 a0_0)) (fun _ hk => hk.2) (.slice Ao132 x616001_2.length co132)) (fun _ hk => trivial), by first | exact Lz HB | repeat (first | (with_reducible first | exact HB.out | apply below_alloc | apply pw_below_drewN | apply below_drew1 | refine below_set ?_ GE609.out | refine below_set ?_ GE610.out | refine below_set ?_ GE614.out | refine below_set ?_ GE615.out) | exact HB.out)⟩
     replace c124 := Bool.eq_false_iff.mpr c124
     subst c124
     have H1 : (if x616001_2.length < 8796093022208 then (some (a0_0, (x616001_2 ++ [(⟨ji36, ji37⟩ : S57)]), true)) else (none)) = some (r1, r2, r3) := by rw [if_neg (show ¬ (false = true) by decide)] at H; exact H
     clear H
     have H := H1
     clear H1
     by_cases c133 : x616001_2.length < 8796093022208
     ·rw [if_pos c133] at H
      have LMc133 := Aside0.mk c133
      clear c133
      obtain ⟨y627, hy627⟩ : ∃ y_ : List (S57), y_ = (x616001_2 ++ [(⟨ji36, ji37⟩ : S57)]) := ⟨_, rfl⟩
      replace H : (some (a0_0, y627, true)) = some (r1, r2, r3) := by first | (rw [hy627]; with_reducible exact H) | (have H2_ := (Option.bind_some _ _).symm.trans H; rw [hy627]; with_reducible exact H2_) | (have H2_ := (Option.bind_some _ _).symm.trans H; with_reducible exact H2_) | with_reducible exact H | (rw [hy627]; exact H) | exact H
      have Ny627 := Aside0.mk hy627
      clear hy627
      simp only [Option.some.injEq, Prod.mk.injEq] at H
      obtain ⟨rfl, rfl, rfl⟩ := H
      have hnb134 := NB615_609.out
      have hnc134 := NB609_615.out
      have hnb135 := NB615_610.out
      have hnc135 := NB610_615.out
      have hnb136 := NB615_614.out
      have hnc136 := NB614_615.out
      have hcz137_0 : wr.cell? ⟨gb615, 0, none⟩ = some (.int .i64 a0_0) := (blk_cell BK615.out 0).trans rfl
      have hcz137_1 : wr.cell? ⟨gb615, 1, none⟩ = some (u616001) := (blk_cell BK615.out 1).trans rfl
      have hfz137_0 := blk_frozen BK615.out 0
      have hfz137_1 := blk_frozen BK615.out 1
      have hnb138 := NB614_609.out
      have hnc138 := NB609_614.out
      have hnb139 := NB614_610.out
      have hnc139 := NB610_614.out
      have hcz140_0 : wr.cell? ⟨gb614, 0, none⟩ = some (.int .i64 ji36) := (blk_cell BK614.out 0).trans rfl
      have hcz140_1 : wr.cell? ⟨gb614, 1, none⟩ = some (.int .i64 ji37) := (blk_cell BK614.out 1).trans rfl
      have hfz140_0 := blk_frozen BK614.out 0
      have hfz140_1 := blk_frozen BK614.out 1
      go_wp2_with (first | ((with_reducible refine gate_builtin (b := .append) (xs := #[.tmp 100, .tmp 102]) rfl ?_); (try (refine gate_guard (by rfl) ?_; dsimp only)); at_builtin; refine Kd.R_append k57 (w0 := w) w.heap.size rfl (.tmp 100) (.tmp 102) 28 57 (.agg #[(.int .i64 0), (.int .i64 0)]) 16 rfl Try.underlying28 info57 rfl (by decide) (by omega) u616001 x616001_2 (⟨ji36, ji37⟩ : S57) [.int .i64 ji36, .int .i64 ji37] (fun k_ => k_ ≠ gb614) (fun _ => False) rfl rfl ?aP (fun _ hk => hk.elim) ?aF ?aO ?aB ?aS ?aL ?_; (case aP => exact k57_mkM _ _ _ (⟨ji36, ji37⟩ : S57)); (case aB => exact (by first | exact Lz HB | repeat (first | (with_reducible first | exact HB.out | apply below_alloc | apply pw_below_drewN | apply below_drew1 | refine below_set ?_ GE609.out | refine below_set ?_ GE610.out | refine below_set ?_ GE614.out | refine below_set ?_ GE615.out) | exact HB.out))); (case aF => exact (fun k_ hk => Kd.freshB (g := gb614) (o := .cells #[.int .i64 ji36, .int .i64 ji37] 57 (0, 0)) (Bz BK614) k_ hk)); (case aO => exact (Rz HO_616001)); (case aS => exact (below_size (by first | exact Lz HB | repeat (first | (with_reducible first | exact HB.out | apply below_alloc | apply pw_below_drewN | apply below_drew1 | refine below_set ?_ GE609.out | refine below_set ?_ GE610.out | refine below_set ?_ GE614.out | refine below_set ?_ GE615.out) | exact HB.out)))); (case aL => have := LMc133.out; omega); intro v628 w141 ho hb hg hat; rw [← Ny627.out] at ho; replace BK609 := Aside0.mk (blk_grown (g := gb609) (o := .cells #[.int .i64 a0_0, .slice A0_1 l0_1.length c0_1] 30 (0, 0)) (Bz BK609) hg (Kd.R_ne HO_616001.out BK609.out (by decide))); replace BK610 := Aside0.mk (blk_grown (g := gb610) (o := .cells #[.int .i64 0, .slice none 0 0] 30 (0, 0)) (Bz BK610) hg (Kd.R_ne HO_616001.out BK610.out (by decide))); replace BK614 := Aside0.mk (blk_grown (g := gb614) (o := .cells #[.int .i64 ji36, .int .i64 ji37] 57 (0, 0)) (Bz BK614) hg (Kd.R_away HO_616001.out (fun _ hk => hk))); replace BK615 := Aside0.mk (blk_grown (g := gb615) (o := .cells #[.int .i64 a0_0, u616001] 30 (0, 0)) (Bz BK615) hg (Kd.R_ne HO_616001.out BK615.out (by decide))); replace HB := Aside0.mk (hb); have HO629 := Aside0.mk (ho); clear HO_616001; clear ho hb hg hat; obtain ⟨Ao142, co142, eo142⟩ := Kd.R_slice HO629.out; subst eo142; have hcz143_0 : w141.cell? ⟨gb615, 0, none⟩ = some (.int .i64 a0_0) := (blk_cell BK615.out 0).trans rfl; have hcz143_1 : w141.cell? ⟨gb615, 1, none⟩ = some (u616001) := (blk_cell BK615.out 1).trans rfl; have hfz143_0 := blk_frozen BK615.out 0; have hfz143_1 := blk_frozen BK615.out 1; have hnb144 := NB610_609.out; have hnc144 := NB609_610.out; have hcz145_0 : w141.cell? ⟨gb610, 0, none⟩ = some (.int .i64 0) := (blk_cell BK610.out 0).trans rfl; have hcz145_1 : w141.cell? ⟨gb610, 1, none⟩ = some (.slice none 0 0) := (blk_cell BK610.out 1).trans rfl; have hfz145_0 := blk_frozen BK610.out 0; have hfz145_1 := blk_frozen BK610.out 1))
      refine bodyPost_ret (results_ct rfl _ _ gb610 30 #[.int .i64 a0_0, .slice Ao142 y627.length co142] (0, 0) _ rfl (by (with_reducible repeat (first | refine blk_drewN ?_ _ | refine blk_drew ?_ | refine blk_alloc ?_ _)); refine blk_put (cs := #[.int .i64 a0_0, .slice none 0 0]) ?_ 1 _ rfl; (with_reducible repeat (first | refine blk_drewN ?_ _ | refine blk_drew ?_ | refine blk_alloc ?_ _)); refine blk_put (cs := #[.int .i64 0, .slice none 0 0]) ?_ 0 _ rfl; (with_reducible repeat (first | refine blk_drewN ?_ _ | refine blk_drew ?_ | refine blk_alloc ?_ _)); refine blk_far ?_ NB610_615.out _; exact Bz BK610) Try.underlying30 rfl (by kernel_rfl)) rfl ?_
      exact ⟨_, by first | rfl | (simp [errW_none, errW_some] <;> rfl) | (simp only [← hji36, ← hji37]; first | rfl | (simp [errW_none, errW_some] <;> rfl)) | (simp [*, errW_none, errW_some] <;> rfl), by (with_reducible repeat (first | apply Kd.R_alloc | apply Kd.R_drewN | apply Kd.R_drew)); exact Kd.R_mono (Kd.R_far (p := ⟨gb610, 1, none⟩) (Kd.R_far (p := ⟨gb610, 0, none⟩) (Kd.R_far (p := ⟨gb615, 1, none⟩) (Kd.R_types (Kd.R_types HO629.out BK615.out (by decide)) BK610.out (by decide)) (fun _ hk => hk.1.2) (.slice Ao142 y627.length co142)) (fun _ hk => hk.2) (.int .i64 a0_0)) (fun _ hk => hk.2) (.slice Ao142 y627.length co142)) (fun _ hk => trivial), by first | exact Lz HB | repeat (first | (with_reducible first | exact HB.out | apply below_alloc | apply pw_below_drewN | apply below_drew1 | refine below_set ?_ GE609.out | refine below_set ?_ GE610.out | refine below_set ?_ GE614.out | refine below_set ?_ GE615.out) | exact HB.out)⟩
     rw [if_neg c133] at H
     exact absurd H (by simp)
end Go.Proofs.Ytplcclifmajcfaa.P
end
