/- Functions of the program as plain Lean functions, and that the machine's calls answer as they do. Written for this claim by a program of this work that drives the kit's print engine; Lean checks it. -/
import Derived.Test.YtfpcgccnhpfcnaaMFnExactFireScriptP0
namespace Go.Proofs.Ytfpcgccnhpfcnaa.P
open Go.RowKit Go.Proofs.YtfpcgccnhpfcnaaW.PrintWords Go.Proofs.YtfpcgccnhpfcnaaW.PrintLast Go.Proofs.YtfpcgccnhpfcnaaW.PrintMore
attribute [local go_sem] max2_int min2_int max_two min_two max_three min_three max_four min_four   -- for this text's walks alone
set_option linter.unusedVariables false
set_option linter.unusedSimpArgs false

/-! ### spec_l02Reach: function 98 -/
mutual
def spec_l02Reach.l0 : Nat → List Int → Int → Int → List (S68) → Option (List Int)
 | 0, _, _, _, _ => none
 | k + 1, x3, x4, x215000, x215001 => if x4 < (x3.length : Int) then (spec_l02Reach.l1 k x3 x4 x215001 (x215001.length : Int) 0 x215000 x215001) else (some x3)
def spec_l02Reach.l1 : Nat → List Int → Int → List (S68) → Int → Int → Int → List (S68) → Option (List Int)
 | 0, _, _, _, _, _, _, _ => none
 | k + 1, x3, x4, x15, x16, x17, x215000, x215001 => if x17 < x16 then (if 0 ≤ x17 then (if x17 < (x15.length : Int) then (if 0 ≤ x4 then (if x4 < (x3.length : Int) then (if ((rd_T68 x15 x17).f0) = (rd x3 x4) then ((spec_l02Has.f k x3 ((rd_T68 x15 x17).f1)).bind fun t221 => (spec_l02Reach.j2 k x3 x4 x15 x16 x17 (!t221) x215000 x215001 ((rd_T68 x15 x17).f0) ((rd_T68 x15 x17).f1))) else (spec_l02Reach.j2 k x3 x4 x15 x16 x17 false x215000 x215001 ((rd_T68 x15 x17).f0) ((rd_T68 x15 x17).f1))) else (none)) else (none)) else (none)) else (none)) else (spec_l02Reach.l0 k x3 (wrap64 (x4 + 1)) x215000 x215001)
def spec_l02Reach.j2 : Nat → List Int → Int → List (S68) → Int → Int → Bool → Int → List (S68) → Int → Int → Option (List Int)
 | 0, _, _, _, _, _, _, _, _, _, _ => none
 | k + 1, x3, x4, x15, x16, x17, x34, x215000, x215001, x220000, x220001 => if x34 = true then (if x3.length < 17592186044416 then (spec_l02Reach.j3 k (x3 ++ [x220001]) x4 x15 x16 x17 x215000 x215001 x220000 x220001) else (none)) else (spec_l02Reach.j3 k x3 x4 x15 x16 x17 x215000 x215001 x220000 x220001)
def spec_l02Reach.j3 : Nat → List Int → Int → List (S68) → Int → Int → Int → List (S68) → Int → Int → Option (List Int)
 | 0, _, _, _, _, _, _, _, _, _ => none
 | k + 1, x3, x4, x15, x16, x17, x215000, x215001, x220000, x220001 => if 0 ≤ x4 then (if x4 < (x3.length : Int) then (if x220001 = (rd x3 x4) then ((spec_l02Has.f k x3 x220000).bind fun t226 => (if t226 = true then (spec_l02Reach.l1 k x3 x4 x15 x16 (wrap64 (x17 + 1)) x215000 x215001) else (if x3.length < 17592186044416 then (spec_l02Reach.l1 k (x3 ++ [x220000]) x4 x15 x16 (wrap64 (x17 + 1)) x215000 x215001) else (none)))) else (spec_l02Reach.l1 k x3 x4 x15 x16 (wrap64 (x17 + 1)) x215000 x215001)) else (none)) else (none)
end
def spec_l02Reach.f (k : Nat) (a0_0 : Int) (l0_1 : List (S68)) : Option (List Int) := spec_l02Reach.l0 k (([0] : List Int)) 0 a0_0 l0_1
set_option maxHeartbeats 8000000 in
set_option maxRecDepth 100000 in
theorem spec_l02Reach.calls (k : Nat) (a0_0 : Int) (A0_1 : Option Addr) (c0_1 : Nat) (l0_1 : List (S68)) (r : List Int) (w : World) (hr0_1 : Kd.C k68 w A0_1 l0_1.length l0_1) (hc0_1 : l0_1.length ≤ c0_1) (h : spec_l02Reach.f k a0_0 l0_1 = some r) :
  Calls Try.prog 98 #[.agg #[.int .i64 a0_0, .slice A0_1 l0_1.length c0_1]] w fun e w' => ∃ v0_ : Value, e = .returned (v0_) ∧ Kd.R (Kd.int .i64) 3 w' w.heap.size (fun _ => True) v0_ r ∧ Below w.heap.size w w' := by
 have hu37 := Try.underlying37
 have hu68 := Try.underlying68
 have HR0_1 := Aside0.mk hr0_1
 have HC0_1 := Aside0.mk hc0_1
 clear hr0_1 hc0_1
 have HB := Aside0.mk (Below.refl w.heap.size w)
 have H : (spec_l02Reach.l0 k (([0] : List Int)) 0 a0_0 l0_1) = some r := h
 clear h
 obtain ⟨y215, hy215⟩ : ∃ y_ : List Int, y_ = (([0] : List Int)) := ⟨_, rfl⟩
 replace H : (spec_l02Reach.l0 k y215 0 a0_0 l0_1) = some r := by first | (rw [hy215]; with_reducible exact H) | (have H2_ := (Option.bind_some _ _).symm.trans H; rw [hy215]; with_reducible exact H2_) | (have H2_ := (Option.bind_some _ _).symm.trans H; with_reducible exact H2_) | with_reducible exact H | (rw [hy215]; exact H) | exact H
 have Ny215 := Aside0.mk hy215
 clear hy215
 have H' := Aside0.mk H
 clear H
 go_enter Try.func98, Try.ntmps98
 go_wp2_with (first | ((with_reducible refine gate_dst (N := 1) rfl ?_); refine box_event ?hg (N := 1) ?hd (cs := #[.int .i64 a0_0, .slice A0_1 l0_1.length c0_1]) (t := 37) ?hr ?_; (case hd => rfl); (case hg => rfl); (case hr => first | (go_simp; done) | (go_simp; rfl)); intro gb214 hg w2 hbox hb; have BK214 := Aside0.mk (hbox); have GW214 := Aside0.mk ((by rw [hg]; exact (below_size (Lz HB)) : w.heap.size ≤ gb214)); have GE214 := Aside0.mk ((by rw [hg]; exact (below_size (Lz HB)) : w.heap.size ≤ gb214)); replace HB := Aside0.mk (below_step (Lz HB) hb); clear hb hbox hg) | ((with_reducible refine gate_dst (N := 7) rfl ?_); refine Kd.R_lit (Kd.int .i64) _ 3 ?hg (N := 7) ?hd (xs := ([0] : List Int)) (inner := [.int .i64 0]) (ok := fun _ => True) (okp := fun _ => True) ?hr ?hp (fun _ hk => hk) trivial (Below.refl _ _) (Nat.le_refl _) (by simp) ?_; (case hd => rfl); (case hg => rfl); (case hr => first | (go_simp; done) | (go_simp; rfl)); (case hp => exact (Reps.one (show Kd.M (Kd.int .i64) _ _ _ 0 [.int .i64 0] from rfl) (Reps.none _ _))); intro v216 w3 ho4 hb hg_ hnew_; clear hg_ hnew_; (first | rw [← Ny215.out] at ho4 | (simp only [Int.reduceToNat] at ho4; rw [← Ny215.out] at ho4)); have HO217 := Aside0.mk (Kd.R_lower ho4 (below_size (by exact Lz1 HB GE214))); replace BK214 := Aside0.mk (blk_below (g := gb214) (o := .cells #[.int .i64 a0_0, .slice A0_1 l0_1.length c0_1] 37 (0, 0)) (Bz BK214) hb); replace HB := Aside0.mk (below_step (by exact Lz1 HB GE214) hb); clear hb ho4))
 repeat (go_quiet (first | ((with_reducible refine gate_dst (N := 1) rfl ?_); refine box_event ?hg (N := 1) ?hd (cs := #[.int .i64 a0_0, .slice A0_1 l0_1.length c0_1]) (t := 37) ?hr ?_; (case hd => rfl); (case hg => rfl); (case hr => first | (go_simp; done) | (go_simp; rfl)); intro gb214 hg w2 hbox hb; have BK214 := Aside0.mk (hbox); have GW214 := Aside0.mk ((by rw [hg]; exact (below_size (Lz HB)) : w.heap.size ≤ gb214)); have GE214 := Aside0.mk ((by rw [hg]; exact (below_size (Lz HB)) : w.heap.size ≤ gb214)); replace HB := Aside0.mk (below_step (Lz HB) hb); clear hb hbox hg) | ((with_reducible refine gate_dst (N := 7) rfl ?_); refine Kd.R_lit (Kd.int .i64) _ 3 ?hg (N := 7) ?hd (xs := ([0] : List Int)) (inner := [.int .i64 0]) (ok := fun _ => True) (okp := fun _ => True) ?hr ?hp (fun _ hk => hk) trivial (Below.refl _ _) (Nat.le_refl _) (by simp) ?_; (case hd => rfl); (case hg => rfl); (case hr => first | (go_simp; done) | (go_simp; rfl)); (case hp => exact (Reps.one (show Kd.M (Kd.int .i64) _ _ _ 0 [.int .i64 0] from rfl) (Reps.none _ _))); intro v216 w3 ho4 hb hg_ hnew_; clear hg_ hnew_; (first | rw [← Ny215.out] at ho4 | (simp only [Int.reduceToNat] at ho4; rw [← Ny215.out] at ho4)); have HO217 := Aside0.mk (Kd.R_lower ho4 (below_size (by exact Lz1 HB GE214))); replace BK214 := Aside0.mk (blk_below (g := gb214) (o := .cells #[.int .i64 a0_0, .slice A0_1 l0_1.length c0_1] 37 (0, 0)) (Bz BK214) hb); replace HB := Aside0.mk (below_step (by exact Lz1 HB GE214) hb); clear hb ho4)); try go_wp2_with (first | ((with_reducible refine gate_dst (N := 1) rfl ?_); refine box_event ?hg (N := 1) ?hd (cs := #[.int .i64 a0_0, .slice A0_1 l0_1.length c0_1]) (t := 37) ?hr ?_; (case hd => rfl); (case hg => rfl); (case hr => first | (go_simp; done) | (go_simp; rfl)); intro gb214 hg w2 hbox hb; have BK214 := Aside0.mk (hbox); have GW214 := Aside0.mk ((by rw [hg]; exact (below_size (Lz HB)) : w.heap.size ≤ gb214)); have GE214 := Aside0.mk ((by rw [hg]; exact (below_size (Lz HB)) : w.heap.size ≤ gb214)); replace HB := Aside0.mk (below_step (Lz HB) hb); clear hb hbox hg) | ((with_reducible refine gate_dst (N := 7) rfl ?_); refine Kd.R_lit (Kd.int .i64) _ 3 ?hg (N := 7) ?hd (xs := ([0] : List Int)) (inner := [.int .i64 0]) (ok := fun _ => True) (okp := fun _ => True) ?hr ?hp (fun _ hk => hk) trivial (Below.refl _ _) (Nat.le_refl _) (by simp) ?_; (case hd => rfl); (case hg => rfl); (case hr => first | (go_simp; done) | (go_simp; rfl)); (case hp => exact (Reps.one (show Kd.M (Kd.int .i64) _ _ _ 0 [.int .i64 0] from rfl) (Reps.none _ _))); intro v216 w3 ho4 hb hg_ hnew_; clear hg_ hnew_; (first | rw [← Ny215.out] at ho4 | (simp only [Int.reduceToNat] at ho4; rw [← Ny215.out] at ho4)); have HO217 := Aside0.mk (Kd.R_lower ho4 (below_size (by exact Lz1 HB GE214))); replace BK214 := Aside0.mk (blk_below (g := gb214) (o := .cells #[.int .i64 a0_0, .slice A0_1 l0_1.length c0_1] 37 (0, 0)) (Bz BK214) hb); replace HB := Aside0.mk (below_step (by exact Lz1 HB GE214) hb); clear hb ho4)))
 go_loopg [3, 4] k (fun kq v3 v4 w' => ∃ (x3_1 : List Int) (x4_1 : Int), v4 = .int .i64 x4_1 ∧ Aside0 (spec_l02Reach.l0 kq x3_1 x4_1 a0_0 l0_1 = some r) ∧ Aside0 (kq ≤ k) ∧ Aside0 (Kd.R (Kd.int .i64) 3 w' w.heap.size (fun _ => True) v3 x3_1) ∧ Aside0 (w'.heap[gb214]? = some (.cells #[.int .i64 a0_0, (.slice A0_1 l0_1.length c0_1)] 37 (0, 0))) ∧ Aside0 (Below w.heap.size w w'))
 case atStart => exact ⟨(y215), (0), (by first | rfl | (simp; done) | (simp [*]; done)), H', ⟨Nat.le_refl _⟩, ⟨by exact Rz HO217⟩, ⟨by exact Bz BK214⟩, ⟨by exact Lz1 HB GE214⟩⟩
 case round =>
  clear H'
  obtain ⟨x3_1, x4_1, rfl, HA, HK1, HO_3, BK214, HB⟩ := hrel
  cases gk with
  | zero => exact absurd HA.out (by simp [spec_l02Reach.l0])
  | succ k1 =>
   have H := HA.out
   clear HA
   simp only [spec_l02Reach.l0] at H
   by_cases c5 : x4_1 < (x3_1.length : Int)
   ·rw [if_pos c5] at H
    have c5b0 : decide (x4_1 < (x3_1.length : Int)) = true := decide_eq_true c5
    clear c5
    have H' := Aside0.mk H
    clear H
    obtain ⟨Ao6, co6, eo6⟩ := Kd.R_slice HO_3.out
    subst eo6
    have hcz7_0 : wr.cell? ⟨gb214, 0, none⟩ = some (.int .i64 a0_0) := (blk_cell BK214.out 0).trans rfl
    have hcz7_1 : wr.cell? ⟨gb214, 1, none⟩ = some (.slice A0_1 l0_1.length c0_1) := (blk_cell BK214.out 1).trans rfl
    have hfz7_0 := blk_frozen BK214.out 0
    have hfz7_1 := blk_frozen BK214.out 1
    go_wp2
    repeat (go_quiet (fail); try go_wp2)
    go_loopg [3, 17] k1 (fun kq v3 v17 w' => ∃ (x3_2 : List Int) (x17_2 : Int), v17 = .int .i64 x17_2 ∧ Aside0 (spec_l02Reach.l1 kq x3_2 x4_1 l0_1 (l0_1.length : Int) x17_2 a0_0 l0_1 = some r) ∧ Aside0 (kq ≤ k1) ∧ Aside0 (Kd.R (Kd.int .i64) 3 w' w.heap.size (fun _ => True) v3 x3_2) ∧ Aside0 (w'.heap[gb214]? = some (.cells #[.int .i64 a0_0, (.slice A0_1 l0_1.length c0_1)] 37 (0, 0))) ∧ Aside0 (Below w.heap.size w w'))
    case atStart => exact ⟨(x3_1), (0), (by first | rfl | (simp; done) | (simp [*]; done)), H', ⟨Nat.le_refl _⟩, ⟨by exact Rz HO_3⟩, ⟨by exact Bz BK214⟩, ⟨by exact Lz1 HB GE214⟩⟩
    case round =>
     clear H'
     try clear c5
     try clear c5b0
     obtain ⟨x3_2, x17_2, rfl, HA, HK2, HO_3, BK214, HB⟩ := hrel
     cases gk with
     | zero => exact absurd HA.out (by simp [spec_l02Reach.l1])
     | succ k2 =>
      have H := HA.out
      clear HA
      simp only [spec_l02Reach.l1] at H
      by_cases c8 : x17_2 < (l0_1.length : Int)
      ·rw [if_pos c8] at H
       have c8b0 : decide (x17_2 < (l0_1.length : Int)) = true := decide_eq_true c8
       clear c8
       by_cases c9 : 0 ≤ x17_2
       ·rw [if_pos c9] at H
        have c9b0 : decide (0 ≤ x17_2) = true := decide_eq_true c9
        clear c9
        by_cases c10 : x17_2 < (l0_1.length : Int)
        ·rw [if_pos c10] at H
         have c10b0 : decide (x17_2 < (l0_1.length : Int)) = true := decide_eq_true c10
         clear c10
         have HC11 := Aside0.mk H
         clear H
         have p218 : 0 ≤ (x17_2 : Int) := of_decide_eq_true (by first | (with_reducible assumption) | assumption)
         have q218 : x17_2 < (l0_1.length : Int) := of_decide_eq_true (by first | (with_reducible assumption) | assumption)
         obtain ⟨ad218, e218, hx218_0, hx218_1⟩ := at_T68 HR0_1.out x17_2 p218 q218
         cases e218
         replace hx218_0 := (HB.out.cell (World.block_lt_of_cell? w _ hx218_0)).trans hx218_0
         replace hx218_1 := (HB.out.cell (World.block_lt_of_cell? w _ hx218_1)).trans hx218_1
         replace p218 := eq_true p218
         replace q218 := eq_true q218
         go_upto_region 8 with (first | ((with_reducible refine gate_dst (N := 6) rfl ?_); refine box_event ?hg (N := 6) ?hd (cs := #[.int .i64 0, .int .i64 0]) (t := 68) ?hr ?_; (case hd => rfl); (case hg => rfl); (case hr => first | (go_simp; done) | (go_simp; rfl)); intro gb219 hg w12 hbox hb; replace HO_3 := Aside0.mk (Kd.R_below (Rz HO_3) hb); have BK219 := Aside0.mk (hbox); have GW219 := Aside0.mk ((by rw [hg]; exact (below_size (by exact Lz1 HB GE214)) : w.heap.size ≤ gb219)); have GE219 := Aside0.mk ((by rw [hg]; exact (below_size (by exact Lz1 HB GE214)) : w.heap.size ≤ gb219)); replace HB := Aside0.mk (below_step (by exact Lz1 HB GE214) hb); have NB214_219 := Aside0.mk ((by rw [hg]; exact Nat.ne_of_lt (blk_lt (g := gb214) (o := .cells #[.int .i64 a0_0, .slice (some ad218) l0_1.length c0_1] 37 (0, 0)) (Bz BK214)) : gb214 ≠ gb219)); have NB219_214 := Aside0.mk ((by rw [hg]; exact Nat.ne_of_gt (blk_lt (g := gb214) (o := .cells #[.int .i64 a0_0, .slice (some ad218) l0_1.length c0_1] 37 (0, 0)) (Bz BK214)) : gb219 ≠ gb214)); replace BK214 := Aside0.mk (blk_below (g := gb214) (o := .cells #[.int .i64 a0_0, .slice (some ad218) l0_1.length c0_1] 37 (0, 0)) (Bz BK214) hb); clear hb hbox hg; have hnb13 := NB219_214.out; have hnc13 := NB214_219.out; have hcz14_0 : w12.cell? ⟨gb219, 0, none⟩ = some (.int .i64 0) := (blk_cell BK219.out 0).trans rfl; have hcz14_1 : w12.cell? ⟨gb219, 1, none⟩ = some (.int .i64 0) := (blk_cell BK219.out 1).trans rfl; have hfz14_0 := blk_frozen BK219.out 0; have hfz14_1 := blk_frozen BK219.out 1))
         repeat (go_quiet (first | ((with_reducible refine gate_dst (N := 6) rfl ?_); refine box_event ?hg (N := 6) ?hd (cs := #[.int .i64 0, .int .i64 0]) (t := 68) ?hr ?_; (case hd => rfl); (case hg => rfl); (case hr => first | (go_simp; done) | (go_simp; rfl)); intro gb219 hg w12 hbox hb; replace HO_3 := Aside0.mk (Kd.R_below (Rz HO_3) hb); have BK219 := Aside0.mk (hbox); have GW219 := Aside0.mk ((by rw [hg]; exact (below_size (by exact Lz1 HB GE214)) : w.heap.size ≤ gb219)); have GE219 := Aside0.mk ((by rw [hg]; exact (below_size (by exact Lz1 HB GE214)) : w.heap.size ≤ gb219)); replace HB := Aside0.mk (below_step (by exact Lz1 HB GE214) hb); have NB214_219 := Aside0.mk ((by rw [hg]; exact Nat.ne_of_lt (blk_lt (g := gb214) (o := .cells #[.int .i64 a0_0, .slice (some ad218) l0_1.length c0_1] 37 (0, 0)) (Bz BK214)) : gb214 ≠ gb219)); have NB219_214 := Aside0.mk ((by rw [hg]; exact Nat.ne_of_gt (blk_lt (g := gb214) (o := .cells #[.int .i64 a0_0, .slice (some ad218) l0_1.length c0_1] 37 (0, 0)) (Bz BK214)) : gb219 ≠ gb214)); replace BK214 := Aside0.mk (blk_below (g := gb214) (o := .cells #[.int .i64 a0_0, .slice (some ad218) l0_1.length c0_1] 37 (0, 0)) (Bz BK214) hb); clear hb hbox hg; have hnb13 := NB219_214.out; have hnc13 := NB214_219.out; have hcz14_0 : w12.cell? ⟨gb219, 0, none⟩ = some (.int .i64 0) := (blk_cell BK219.out 0).trans rfl; have hcz14_1 : w12.cell? ⟨gb219, 1, none⟩ = some (.int .i64 0) := (blk_cell BK219.out 1).trans rfl; have hfz14_0 := blk_frozen BK219.out 0; have hfz14_1 := blk_frozen BK219.out 1)); go_upto_region 8 with (first | ((with_reducible refine gate_dst (N := 6) rfl ?_); refine box_event ?hg (N := 6) ?hd (cs := #[.int .i64 0, .int .i64 0]) (t := 68) ?hr ?_; (case hd => rfl); (case hg => rfl); (case hr => first | (go_simp; done) | (go_simp; rfl)); intro gb219 hg w12 hbox hb; replace HO_3 := Aside0.mk (Kd.R_below (Rz HO_3) hb); have BK219 := Aside0.mk (hbox); have GW219 := Aside0.mk ((by rw [hg]; exact (below_size (by exact Lz1 HB GE214)) : w.heap.size ≤ gb219)); have GE219 := Aside0.mk ((by rw [hg]; exact (below_size (by exact Lz1 HB GE214)) : w.heap.size ≤ gb219)); replace HB := Aside0.mk (below_step (by exact Lz1 HB GE214) hb); have NB214_219 := Aside0.mk ((by rw [hg]; exact Nat.ne_of_lt (blk_lt (g := gb214) (o := .cells #[.int .i64 a0_0, .slice (some ad218) l0_1.length c0_1] 37 (0, 0)) (Bz BK214)) : gb214 ≠ gb219)); have NB219_214 := Aside0.mk ((by rw [hg]; exact Nat.ne_of_gt (blk_lt (g := gb214) (o := .cells #[.int .i64 a0_0, .slice (some ad218) l0_1.length c0_1] 37 (0, 0)) (Bz BK214)) : gb219 ≠ gb214)); replace BK214 := Aside0.mk (blk_below (g := gb214) (o := .cells #[.int .i64 a0_0, .slice (some ad218) l0_1.length c0_1] 37 (0, 0)) (Bz BK214) hb); clear hb hbox hg; have hnb13 := NB219_214.out; have hnc13 := NB214_219.out; have hcz14_0 : w12.cell? ⟨gb219, 0, none⟩ = some (.int .i64 0) := (blk_cell BK219.out 0).trans rfl; have hcz14_1 : w12.cell? ⟨gb219, 1, none⟩ = some (.int .i64 0) := (blk_cell BK219.out 1).trans rfl; have hfz14_0 := blk_frozen BK219.out 0; have hfz14_1 := blk_frozen BK219.out 1)))
         (try simp only [Act.put, List.setIfInBounds_toArray, List.set_cons_zero, List.set_cons_succ])
         go_cut [34] (fun v34 wc => ∃ (kq : Nat) (x34_10 : Bool), v34 = .bool x34_10 ∧ Aside0 (spec_l02Reach.j2 kq x3_2 x4_1 l0_1 (l0_1.length : Int) x17_2 x34_10 a0_0 l0_1 ((rd_T68 l0_1 x17_2).f0) ((rd_T68 l0_1 x17_2).f1) = some r) ∧ Aside0 (kq ≤ k2) ∧ Aside0 (Kd.R (Kd.int .i64) 3 wc w.heap.size (fun _ => True) u3 x3_2) ∧ Aside0 (wc.heap[gb214]? = some (.cells #[.int .i64 a0_0, (.slice (some ad218) l0_1.length c0_1)] 37 (0, 0))) ∧ Aside0 (wc.heap[gb219]? = some (.cells #[.int .i64 ((rd_T68 l0_1 x17_2).f0), .int .i64 ((rd_T68 l0_1 x17_2).f1)] 68 (0, 0))) ∧ Aside0 (Below w.heap.size w wc))
         case first =>
          have H := HC11.out
          clear HC11
          by_cases c15 : 0 ≤ x4_1
          ·rw [if_pos c15] at H
           have c15b0 : decide (0 ≤ x4_1) = true := decide_eq_true c15
           clear c15
           (first | rw [c15b0] | (simp only [i64_w, i32_w]; rw [c15b0]) | skip)
           by_cases c16 : x4_1 < (x3_2.length : Int)
           ·rw [if_pos c16] at H
            have c16b0 : decide (x4_1 < (x3_2.length : Int)) = true := decide_eq_true c16
            clear c16
            by_cases c17 : ((rd_T68 l0_1 x17_2).f0) = (rd x3_2 x4_1)
            ·rw [if_pos c17] at H
             have c17b0 : (((rd_T68 l0_1 x17_2).f0) == (rd x3_2 x4_1)) = true := beq_iff_eq.mpr c17
             have c17b1 : (((rd_T68 l0_1 x17_2).f0) != (rd x3_2 x4_1)) = false := bne_eq_false_iff_eq.mpr c17
             clear c17
             replace H := Option.bind_eq_some_iff.mp H
             obtain ⟨t221, A180, H⟩ := H
             replace H : (spec_l02Reach.j2 k2 x3_2 x4_1 l0_1 (l0_1.length : Int) x17_2 (!t221) a0_0 l0_1 ((rd_T68 l0_1 x17_2).f0) ((rd_T68 l0_1 x17_2).f1)) = some r := H
             have A18 := Aside0.mk A180
             clear A180
             have H' := Aside0.mk H
             clear H
             have hnb19 := NB219_214.out
             have hnc19 := NB214_219.out
             have hcz20_0 : w12.cell? ⟨gb219, 0, none⟩ = some (.int .i64 0) := (blk_cell BK219.out 0).trans rfl
             have hcz20_1 : w12.cell? ⟨gb219, 1, none⟩ = some (.int .i64 0) := (blk_cell BK219.out 1).trans rfl
             have hfz20_0 := blk_frozen BK219.out 0
             have hfz20_1 := blk_frozen BK219.out 1
             obtain ⟨Ao21, co21, eo21⟩ := Kd.R_slice HO_3.out
             subst eo21
             have p220 : 0 ≤ (x4_1 : Int) := of_decide_eq_true (by first | (with_reducible assumption) | assumption)
             have q220 : x4_1 < (x3_2.length : Int) := of_decide_eq_true (by first | (with_reducible assumption) | assumption)
             obtain ⟨ad220, e220, hx220_0⟩ := Kd.at_int (Kd.R_reads' HO_3.out).2.2 x4_1 p220 q220
             cases e220
             have hn220_0 : ad220.block ≠ gb219 := Kd.own_blk (Kd.R_ne HO_3.out BK219.out (by decide))
             have hn220_1 : ad220.block ≠ gb219 := Kd.own_blk (Kd.R_ne HO_3.out BK219.out (by decide))
             replace hx220_0 := (cell_far (p := ⟨gb219, 0, none⟩) (by first | (rw [add_block]; exact hn220_0) | (show (Addr.add _ _).block ≠ _; rw [add_block]; exact hn220_0) | exact hn220_0) (.int .i64 ((rd_T68 l0_1 x17_2).f0))).trans hx220_0
             replace hx220_0 := (cell_far (p := ⟨gb219, 1, none⟩) (by first | (rw [add_block]; exact hn220_1) | (show (Addr.add _ _).block ≠ _; rw [add_block]; exact hn220_1) | exact hn220_1) (.int .i64 ((rd_T68 l0_1 x17_2).f1))).trans hx220_0
             (try have hy220_0 := fun (n_ : Nat) => (show ((((w12.drewN n_).setCell ⟨gb219, 0, none⟩ (.int .i64 ((rd_T68 l0_1 x17_2).f0))).setCell ⟨gb219, 1, none⟩ (.int .i64 ((rd_T68 l0_1 x17_2).f1)))).cell? _ = some _ from hx220_0))
             clear hn220_0
             clear hn220_1
             replace p220 := eq_true p220
             replace q220 := eq_true q220
             go_wp2_with (first | (go_at_call 76; (with_reducible refine (spec_l02Has.calls k2 _ _ x3_2 ((rd_T68 l0_1 x17_2).f1) t221 _ ?side1 ?side2 A18.out).mono ?_); (case side1 => refine (Kd.R_reads' (e := 3) (base := w.heap.size) (ok := fun k_ => True) (n := x3_2.length) (c := co21) ?_).2.2; exact (by (with_reducible repeat (first | apply Kd.R_alloc | apply Kd.R_drewN | apply Kd.R_drew)); exact (Kd.R_mono (Kd.R_far (p := ⟨gb219, 1, none⟩) (Kd.R_far (p := ⟨gb219, 0, none⟩) (Kd.R_types HO_3.out BK219.out (by decide)) (fun _ hk => hk.2) (.int .i64 ((rd_T68 l0_1 x17_2).f0))) (fun _ hk => hk.2) (.int .i64 ((rd_T68 l0_1 x17_2).f1))) (fun _ h_ => h_.1)))); (case side2 => exact (Kd.R_reads' HO_3.out).2.1); rintro e w' ⟨rfl, ⟨nd, rfl⟩⟩; (try first | exact ⟨rfl, _, World.drewN_drewN _ _ _⟩ | exact ⟨rfl, _, Eq.trans (World.drewN_drewN _ _ _) (congrArg (World.drewN _) (Nat.add_assoc _ _ _))⟩)))
             repeat (go_quiet (first | (go_at_call 76; (with_reducible refine (spec_l02Has.calls k2 _ _ x3_2 ((rd_T68 l0_1 x17_2).f1) t221 _ ?side1 ?side2 A18.out).mono ?_); (case side1 => refine (Kd.R_reads' (e := 3) (base := w.heap.size) (ok := fun k_ => True) (n := x3_2.length) (c := co21) ?_).2.2; exact (by (with_reducible repeat (first | apply Kd.R_alloc | apply Kd.R_drewN | apply Kd.R_drew)); exact (Kd.R_mono (Kd.R_far (p := ⟨gb219, 1, none⟩) (Kd.R_far (p := ⟨gb219, 0, none⟩) (Kd.R_types HO_3.out BK219.out (by decide)) (fun _ hk => hk.2) (.int .i64 ((rd_T68 l0_1 x17_2).f0))) (fun _ hk => hk.2) (.int .i64 ((rd_T68 l0_1 x17_2).f1))) (fun _ h_ => h_.1)))); (case side2 => exact (Kd.R_reads' HO_3.out).2.1); rintro e w' ⟨rfl, ⟨nd, rfl⟩⟩; (try first | exact ⟨rfl, _, World.drewN_drewN _ _ _⟩ | exact ⟨rfl, _, Eq.trans (World.drewN_drewN _ _ _) (congrArg (World.drewN _) (Nat.add_assoc _ _ _))⟩))); try go_wp2_with (first | (go_at_call 76; (with_reducible refine (spec_l02Has.calls k2 _ _ x3_2 ((rd_T68 l0_1 x17_2).f1) t221 _ ?side1 ?side2 A18.out).mono ?_); (case side1 => refine (Kd.R_reads' (e := 3) (base := w.heap.size) (ok := fun k_ => True) (n := x3_2.length) (c := co21) ?_).2.2; exact (by (with_reducible repeat (first | apply Kd.R_alloc | apply Kd.R_drewN | apply Kd.R_drew)); exact (Kd.R_mono (Kd.R_far (p := ⟨gb219, 1, none⟩) (Kd.R_far (p := ⟨gb219, 0, none⟩) (Kd.R_types HO_3.out BK219.out (by decide)) (fun _ hk => hk.2) (.int .i64 ((rd_T68 l0_1 x17_2).f0))) (fun _ hk => hk.2) (.int .i64 ((rd_T68 l0_1 x17_2).f1))) (fun _ h_ => h_.1)))); (case side2 => exact (Kd.R_reads' HO_3.out).2.1); rintro e w' ⟨rfl, ⟨nd, rfl⟩⟩; (try first | exact ⟨rfl, _, World.drewN_drewN _ _ _⟩ | exact ⟨rfl, _, Eq.trans (World.drewN_drewN _ _ _) (congrArg (World.drewN _) (Nat.add_assoc _ _ _))⟩))))
             go_meet
             case rel => exact ⟨_, (!t221), (by first | rfl | (simp; done) | (simp [*]; done)), H', ⟨by have := HK1.out; have := HK2.out; first | omega | exact Nat.le_refl _⟩, ⟨by (with_reducible repeat (first | apply Kd.R_alloc | apply Kd.R_drewN | apply Kd.R_drew)); exact Kd.R_mono (Kd.R_far (p := ⟨gb219, 1, none⟩) (Kd.R_far (p := ⟨gb219, 0, none⟩) (Kd.R_types HO_3.out BK219.out (by decide)) (fun _ hk => hk.2) (.int .i64 ((rd_T68 l0_1 x17_2).f0))) (fun _ hk => hk.2) (.int .i64 ((rd_T68 l0_1 x17_2).f1))) (fun _ hk => trivial)⟩, ⟨by (with_reducible repeat (first | refine blk_drewN ?_ _ | refine blk_drew ?_ | refine blk_alloc ?_ _)); refine blk_far ?_ NB214_219.out _; (with_reducible repeat (first | refine blk_drewN ?_ _ | refine blk_drew ?_ | refine blk_alloc ?_ _)); refine blk_far ?_ NB214_219.out _; exact Bz BK214⟩, ⟨by (with_reducible repeat (first | refine blk_drewN ?_ _ | refine blk_drew ?_ | refine blk_alloc ?_ _)); refine blk_put (cs := #[.int .i64 ((rd_T68 l0_1 x17_2).f0), .int .i64 0]) ?_ 1 _ rfl; (with_reducible repeat (first | refine blk_drewN ?_ _ | refine blk_drew ?_ | refine blk_alloc ?_ _)); refine blk_put (cs := #[.int .i64 0, .int .i64 0]) ?_ 0 _ rfl; exact Bz BK219⟩, ⟨by exact Lz2 HB GE214 GE219⟩⟩
            rw [if_neg c17] at H
            have c17b0 : (((rd_T68 l0_1 x17_2).f0) == (rd x3_2 x4_1)) = false := beq_eq_false_iff_ne.mpr c17
            have c17b1 : (((rd_T68 l0_1 x17_2).f0) != (rd x3_2 x4_1)) = true := bne_iff_ne.mpr c17
            have H' := Aside0.mk H
            clear H
            have hnb22 := NB219_214.out
            have hnc22 := NB214_219.out
            have hcz23_0 : w12.cell? ⟨gb219, 0, none⟩ = some (.int .i64 0) := (blk_cell BK219.out 0).trans rfl
            have hcz23_1 : w12.cell? ⟨gb219, 1, none⟩ = some (.int .i64 0) := (blk_cell BK219.out 1).trans rfl
            have hfz23_0 := blk_frozen BK219.out 0
            have hfz23_1 := blk_frozen BK219.out 1
            obtain ⟨Ao24, co24, eo24⟩ := Kd.R_slice HO_3.out
            subst eo24
            have p220 : 0 ≤ (x4_1 : Int) := of_decide_eq_true (by first | (with_reducible assumption) | assumption)
            have q220 : x4_1 < (x3_2.length : Int) := of_decide_eq_true (by first | (with_reducible assumption) | assumption)
            obtain ⟨ad220, e220, hx220_0⟩ := Kd.at_int (Kd.R_reads' HO_3.out).2.2 x4_1 p220 q220
            cases e220
            have hn220_0 : ad220.block ≠ gb219 := Kd.own_blk (Kd.R_ne HO_3.out BK219.out (by decide))
            have hn220_1 : ad220.block ≠ gb219 := Kd.own_blk (Kd.R_ne HO_3.out BK219.out (by decide))
            replace hx220_0 := (cell_far (p := ⟨gb219, 0, none⟩) (by first | (rw [add_block]; exact hn220_0) | (show (Addr.add _ _).block ≠ _; rw [add_block]; exact hn220_0) | exact hn220_0) (.int .i64 ((rd_T68 l0_1 x17_2).f0))).trans hx220_0
            replace hx220_0 := (cell_far (p := ⟨gb219, 1, none⟩) (by first | (rw [add_block]; exact hn220_1) | (show (Addr.add _ _).block ≠ _; rw [add_block]; exact hn220_1) | exact hn220_1) (.int .i64 ((rd_T68 l0_1 x17_2).f1))).trans hx220_0
            (try have hy220_0 := fun (n_ : Nat) => (show ((((w12.drewN n_).setCell ⟨gb219, 0, none⟩ (.int .i64 ((rd_T68 l0_1 x17_2).f0))).setCell ⟨gb219, 1, none⟩ (.int .i64 ((rd_T68 l0_1 x17_2).f1)))).cell? _ = some _ from hx220_0))
            clear hn220_0
            clear hn220_1
            replace p220 := eq_true p220
            replace q220 := eq_true q220
            go_wp2
            repeat (go_quiet (fail); try go_wp2)
            go_meet
            case rel => exact ⟨_, (false), (by first | rfl | (simp; done) | (simp [*]; done)), H', ⟨by have := HK1.out; have := HK2.out; first | omega | exact Nat.le_refl _⟩, ⟨by (with_reducible repeat (first | apply Kd.R_alloc | apply Kd.R_drewN | apply Kd.R_drew)); exact Kd.R_mono (Kd.R_far (p := ⟨gb219, 1, none⟩) (Kd.R_far (p := ⟨gb219, 0, none⟩) (Kd.R_types HO_3.out BK219.out (by decide)) (fun _ hk => hk.2) (.int .i64 ((rd_T68 l0_1 x17_2).f0))) (fun _ hk => hk.2) (.int .i64 ((rd_T68 l0_1 x17_2).f1))) (fun _ hk => trivial)⟩, ⟨by (with_reducible repeat (first | refine blk_drewN ?_ _ | refine blk_drew ?_ | refine blk_alloc ?_ _)); refine blk_far ?_ NB214_219.out _; (with_reducible repeat (first | refine blk_drewN ?_ _ | refine blk_drew ?_ | refine blk_alloc ?_ _)); refine blk_far ?_ NB214_219.out _; exact Bz BK214⟩, ⟨by (with_reducible repeat (first | refine blk_drewN ?_ _ | refine blk_drew ?_ | refine blk_alloc ?_ _)); refine blk_put (cs := #[.int .i64 ((rd_T68 l0_1 x17_2).f0), .int .i64 0]) ?_ 1 _ rfl; (with_reducible repeat (first | refine blk_drewN ?_ _ | refine blk_drew ?_ | refine blk_alloc ?_ _)); refine blk_put (cs := #[.int .i64 0, .int .i64 0]) ?_ 0 _ rfl; exact Bz BK219⟩, ⟨by exact Lz2 HB GE214 GE219⟩⟩
           rw [if_neg c16] at H
           exact absurd H (by simp)
          rw [if_neg c15] at H
          exact absurd H (by simp)
         case rest =>
          clear HC11
          try clear c5
          try clear c5b0
          try clear c8
          try clear c8b0
          try clear c9
          try clear c9b0
          try clear c10
          try clear c10b0
          try clear c15
          try clear c15b0
          try clear c16
          try clear c16b0
          try clear c17
          try clear c17b0
          try clear c17b1
          try clear p218
          try clear p220
          try clear q218
          try clear q220
          obtain ⟨kq, x34_10, rfl, HA, HJ10, HO_3, BK214, BK219, HB⟩ := hcut
          cases kq with
          | zero => exact absurd HA.out (by simp [spec_l02Reach.j2])
          | succ kj10 =>
           have H := HA.out
           clear HA
           simp only [spec_l02Reach.j2] at H
           have HC25 := Aside0.mk H
           clear H
           go_upto_if 34 with (fail)
           repeat (go_quiet (fail); go_upto_if 34 with (fail))
           go_cut [3] (fun v3 wc => ∃ (kq : Nat) (x3_24 : List Int), Aside0 (spec_l02Reach.j3 kq x3_24 x4_1 l0_1 (l0_1.length : Int) x17_2 a0_0 l0_1 ((rd_T68 l0_1 x17_2).f0) ((rd_T68 l0_1 x17_2).f1) = some r) ∧ Aside0 (kq ≤ kj10) ∧ Aside0 (Kd.R (Kd.int .i64) 3 wc w.heap.size (fun _ => True) v3 x3_24) ∧ Aside0 (wc.heap[gb214]? = some (.cells #[.int .i64 a0_0, (.slice (some ad218) l0_1.length c0_1)] 37 (0, 0))) ∧ Aside0 (wc.heap[gb219]? = some (.cells #[.int .i64 ((rd_T68 l0_1 x17_2).f0), .int .i64 ((rd_T68 l0_1 x17_2).f1)] 68 (0, 0))) ∧ Aside0 (Below w.heap.size w wc))
           case first =>
            have H := HC25.out
            clear HC25
            by_cases c26 : x34_10 = true
            ·subst c26
             have H1 : (if x3_2.length < 17592186044416 then (spec_l02Reach.j3 kj10 (x3_2 ++ [((rd_T68 l0_1 x17_2).f1)]) x4_1 l0_1 (l0_1.length : Int) x17_2 a0_0 l0_1 ((rd_T68 l0_1 x17_2).f0) ((rd_T68 l0_1 x17_2).f1)) else (none)) = some r := by rw [if_pos rfl] at H; exact H
             clear H
             have H := H1
             clear H1
             by_cases c27 : x3_2.length < 17592186044416
             ·rw [if_pos c27] at H
              have LMc27 := Aside0.mk c27
              clear c27
              obtain ⟨y222, hy222⟩ : ∃ y_ : List Int, y_ = (x3_2 ++ [((rd_T68 l0_1 x17_2).f1)]) := ⟨_, rfl⟩
              replace H : (spec_l02Reach.j3 kj10 y222 x4_1 l0_1 (l0_1.length : Int) x17_2 a0_0 l0_1 ((rd_T68 l0_1 x17_2).f0) ((rd_T68 l0_1 x17_2).f1)) = some r := by first | (rw [hy222]; with_reducible exact H) | (have H2_ := (Option.bind_some _ _).symm.trans H; rw [hy222]; with_reducible exact H2_) | (have H2_ := (Option.bind_some _ _).symm.trans H; with_reducible exact H2_) | with_reducible exact H | (rw [hy222]; exact H) | exact H
              have Ny222 := Aside0.mk hy222
              clear hy222
              have H' := Aside0.mk H
              clear H
              have hnb28 := NB219_214.out
              have hnc28 := NB214_219.out
              have hcz29_0 : wc.cell? ⟨gb219, 0, none⟩ = some (.int .i64 ((rd_T68 l0_1 x17_2).f0)) := (blk_cell BK219.out 0).trans rfl
              have hcz29_1 : wc.cell? ⟨gb219, 1, none⟩ = some (.int .i64 ((rd_T68 l0_1 x17_2).f1)) := (blk_cell BK219.out 1).trans rfl
              have hfz29_0 := blk_frozen BK219.out 0
              have hfz29_1 := blk_frozen BK219.out 1
              go_wp2_with (first | ((with_reducible refine gate_builtin (b := .append) (xs := #[.tmp 35, .tmp 38]) rfl ?_); at_builtin; refine Kd.R_append (Kd.int .i64) (w0 := w) w.heap.size rfl (.tmp 35) (.tmp 38) 24 3 (.int .i64 0) 8 rfl Try.underlying24 info3 rfl (by decide) (by omega) u3 x3_2 ((rd_T68 l0_1 x17_2).f1) [.int .i64 ((rd_T68 l0_1 x17_2).f1)] (fun _ => True) (fun _ => False) rfl rfl ?aP (fun _ hk => hk.elim) ?aF ?aO ?aB ?aS ?aL ?_; (case aP => exact rfl); (case aB => exact (by exact Lz2 HB GE214 GE219)); (case aF => exact (fun _ _ => trivial)); (case aO => exact (Rz HO_3)); (case aS => exact (below_size (by exact Lz2 HB GE214 GE219))); (case aL => have := LMc27.out; omega); intro v223 w30 ho hb hg hat; rw [← Ny222.out] at ho; replace BK214 := Aside0.mk (blk_grown (g := gb214) (o := .cells #[.int .i64 a0_0, .slice (some ad218) l0_1.length c0_1] 37 (0, 0)) (Bz BK214) hg (Kd.R_ne HO_3.out BK214.out (by decide))); replace BK219 := Aside0.mk (blk_grown (g := gb219) (o := .cells #[.int .i64 ((rd_T68 l0_1 x17_2).f0), .int .i64 ((rd_T68 l0_1 x17_2).f1)] 68 (0, 0)) (Bz BK219) hg (Kd.R_ne HO_3.out BK219.out (by decide))); replace HB := Aside0.mk (hb); have HO224 := Aside0.mk (ho); clear HO_3; clear ho hb hg hat))
              repeat (go_quiet (first | ((with_reducible refine gate_builtin (b := .append) (xs := #[.tmp 35, .tmp 38]) rfl ?_); at_builtin; refine Kd.R_append (Kd.int .i64) (w0 := w) w.heap.size rfl (.tmp 35) (.tmp 38) 24 3 (.int .i64 0) 8 rfl Try.underlying24 info3 rfl (by decide) (by omega) u3 x3_2 ((rd_T68 l0_1 x17_2).f1) [.int .i64 ((rd_T68 l0_1 x17_2).f1)] (fun _ => True) (fun _ => False) rfl rfl ?aP (fun _ hk => hk.elim) ?aF ?aO ?aB ?aS ?aL ?_; (case aP => exact rfl); (case aB => exact (by exact Lz2 HB GE214 GE219)); (case aF => exact (fun _ _ => trivial)); (case aO => exact (Rz HO_3)); (case aS => exact (below_size (by exact Lz2 HB GE214 GE219))); (case aL => have := LMc27.out; omega); intro v223 w30 ho hb hg hat; rw [← Ny222.out] at ho; replace BK214 := Aside0.mk (blk_grown (g := gb214) (o := .cells #[.int .i64 a0_0, .slice (some ad218) l0_1.length c0_1] 37 (0, 0)) (Bz BK214) hg (Kd.R_ne HO_3.out BK214.out (by decide))); replace BK219 := Aside0.mk (blk_grown (g := gb219) (o := .cells #[.int .i64 ((rd_T68 l0_1 x17_2).f0), .int .i64 ((rd_T68 l0_1 x17_2).f1)] 68 (0, 0)) (Bz BK219) hg (Kd.R_ne HO_3.out BK219.out (by decide))); replace HB := Aside0.mk (hb); have HO224 := Aside0.mk (ho); clear HO_3; clear ho hb hg hat)); try go_wp2_with (first | ((with_reducible refine gate_builtin (b := .append) (xs := #[.tmp 35, .tmp 38]) rfl ?_); at_builtin; refine Kd.R_append (Kd.int .i64) (w0 := w) w.heap.size rfl (.tmp 35) (.tmp 38) 24 3 (.int .i64 0) 8 rfl Try.underlying24 info3 rfl (by decide) (by omega) u3 x3_2 ((rd_T68 l0_1 x17_2).f1) [.int .i64 ((rd_T68 l0_1 x17_2).f1)] (fun _ => True) (fun _ => False) rfl rfl ?aP (fun _ hk => hk.elim) ?aF ?aO ?aB ?aS ?aL ?_; (case aP => exact rfl); (case aB => exact (by exact Lz2 HB GE214 GE219)); (case aF => exact (fun _ _ => trivial)); (case aO => exact (Rz HO_3)); (case aS => exact (below_size (by exact Lz2 HB GE214 GE219))); (case aL => have := LMc27.out; omega); intro v223 w30 ho hb hg hat; rw [← Ny222.out] at ho; replace BK214 := Aside0.mk (blk_grown (g := gb214) (o := .cells #[.int .i64 a0_0, .slice (some ad218) l0_1.length c0_1] 37 (0, 0)) (Bz BK214) hg (Kd.R_ne HO_3.out BK214.out (by decide))); replace BK219 := Aside0.mk (blk_grown (g := gb219) (o := .cells #[.int .i64 ((rd_T68 l0_1 x17_2).f0), .int .i64 ((rd_T68 l0_1 x17_2).f1)] 68 (0, 0)) (Bz BK219) hg (Kd.R_ne HO_3.out BK219.out (by decide))); replace HB := Aside0.mk (hb); have HO224 := Aside0.mk (ho); clear HO_3; clear ho hb hg hat)))
              go_meet
              case rel => exact ⟨_, (y222), H', ⟨by have := HK1.out; have := HK2.out; have := HJ10.out; first | omega | exact Nat.le_refl _⟩, ⟨by exact Rz HO224⟩, ⟨by exact Bz BK214⟩, ⟨by exact Bz BK219⟩, ⟨by exact Lz2 HB GE214 GE219⟩⟩
             rw [if_neg c27] at H
             exact absurd H (by simp)
            replace c26 := Bool.eq_false_iff.mpr c26
            subst c26
            have H1 : (spec_l02Reach.j3 kj10 x3_2 x4_1 l0_1 (l0_1.length : Int) x17_2 a0_0 l0_1 ((rd_T68 l0_1 x17_2).f0) ((rd_T68 l0_1 x17_2).f1)) = some r := by rw [if_neg (show ¬ (false = true) by decide)] at H; exact H
            clear H
            have H := H1
            clear H1
            have H' := Aside0.mk H
            clear H
            go_wp2
            repeat (go_quiet (fail); try go_wp2)
            go_meet
            case rel => exact ⟨_, (x3_2), H', ⟨by have := HK1.out; have := HK2.out; have := HJ10.out; first | omega | exact Nat.le_refl _⟩, ⟨by exact Rz HO_3⟩, ⟨by exact Bz BK214⟩, ⟨by exact Bz BK219⟩, ⟨by exact Lz2 HB GE214 GE219⟩⟩
           case rest =>
            clear HC25
            try clear c5
            try clear c5b0
            try clear c8
            try clear c8b0
            try clear c9
            try clear c9b0
            try clear c10
            try clear c10b0
            try clear c15
            try clear c15b0
            try clear c16
            try clear c16b0
            try clear c17
            try clear c17b0
            try clear c17b1
            try clear c26
            try clear c27
            try clear p218
            try clear p220
            try clear q218
            try clear q220
            obtain ⟨kq, x3_24, HA, HJ24, HO_3, BK214, BK219, HB⟩ := hcut
            cases kq with
            | zero => exact absurd HA.out (by simp [spec_l02Reach.j3])
            | succ kj24 =>
             have H := HA.out
             clear HA
             simp only [spec_l02Reach.j3] at H
             by_cases c31 : 0 ≤ x4_1
             ·rw [if_pos c31] at H
              have c31b0 : decide (0 ≤ x4_1) = true := decide_eq_true c31
              clear c31
              by_cases c32 : x4_1 < (x3_24.length : Int)
              ·rw [if_pos c32] at H
               have c32b0 : decide (x4_1 < (x3_24.length : Int)) = true := decide_eq_true c32
               clear c32
               by_cases c33 : ((rd_T68 l0_1 x17_2).f1) = (rd x3_24 x4_1)
               ·rw [if_pos c33] at H
                have c33b0 : (((rd_T68 l0_1 x17_2).f1) == (rd x3_24 x4_1)) = true := beq_iff_eq.mpr c33
                have c33b1 : (((rd_T68 l0_1 x17_2).f1) != (rd x3_24 x4_1)) = false := bne_eq_false_iff_eq.mpr c33
                clear c33
                replace H := Option.bind_eq_some_iff.mp H
                obtain ⟨t226, A340, H⟩ := H
                replace H : (if t226 = true then (spec_l02Reach.l1 kj24 x3_24 x4_1 l0_1 (l0_1.length : Int) (wrap64 (x17_2 + 1)) a0_0 l0_1) else (if x3_24.length < 17592186044416 then (spec_l02Reach.l1 kj24 (x3_24 ++ [((rd_T68 l0_1 x17_2).f0)]) x4_1 l0_1 (l0_1.length : Int) (wrap64 (x17_2 + 1)) a0_0 l0_1) else (none))) = some r := H
                have A34 := Aside0.mk A340
                clear A340
                by_cases c35 : t226 = true
                ·subst c35
                 have H1 : (spec_l02Reach.l1 kj24 x3_24 x4_1 l0_1 (l0_1.length : Int) (wrap64 (x17_2 + 1)) a0_0 l0_1) = some r := by rw [if_pos rfl] at H; exact H
                 clear H
                 have H := H1
                 clear H1
                 have H' := Aside0.mk H
                 clear H
                 have hnb36 := NB219_214.out
                 have hnc36 := NB214_219.out
                 have hcz37_0 : wc.cell? ⟨gb219, 0, none⟩ = some (.int .i64 ((rd_T68 l0_1 x17_2).f0)) := (blk_cell BK219.out 0).trans rfl
                 have hcz37_1 : wc.cell? ⟨gb219, 1, none⟩ = some (.int .i64 ((rd_T68 l0_1 x17_2).f1)) := (blk_cell BK219.out 1).trans rfl
                 have hfz37_0 := blk_frozen BK219.out 0
                 have hfz37_1 := blk_frozen BK219.out 1
                 obtain ⟨Ao38, co38, eo38⟩ := Kd.R_slice HO_3.out
                 subst eo38
                 have p225 : 0 ≤ (x4_1 : Int) := of_decide_eq_true (by first | (with_reducible assumption) | assumption)
                 have q225 : x4_1 < (x3_24.length : Int) := of_decide_eq_true (by first | (with_reducible assumption) | assumption)
                 obtain ⟨ad225, e225, hx225_0⟩ := Kd.at_int (Kd.R_reads' HO_3.out).2.2 x4_1 p225 q225
                 cases e225
                 replace p225 := eq_true p225
                 replace q225 := eq_true q225
                 go_wp2_with (first | (go_at_call 76; (with_reducible refine (spec_l02Has.calls kj24 _ _ x3_24 ((rd_T68 l0_1 x17_2).f0) true _ ?side1 ?side2 A34.out).mono ?_); (case side1 => exact Cz ((Kd.R_reads' HO_3.out).2.2)); (case side2 => exact (Kd.R_reads' HO_3.out).2.1); rintro e w' ⟨rfl, ⟨nd, rfl⟩⟩; (try first | exact ⟨rfl, _, World.drewN_drewN _ _ _⟩ | exact ⟨rfl, _, Eq.trans (World.drewN_drewN _ _ _) (congrArg (World.drewN _) (Nat.add_assoc _ _ _))⟩)))
                 repeat (go_quiet (first | (go_at_call 76; (with_reducible refine (spec_l02Has.calls kj24 _ _ x3_24 ((rd_T68 l0_1 x17_2).f0) true _ ?side1 ?side2 A34.out).mono ?_); (case side1 => exact Cz ((Kd.R_reads' HO_3.out).2.2)); (case side2 => exact (Kd.R_reads' HO_3.out).2.1); rintro e w' ⟨rfl, ⟨nd, rfl⟩⟩; (try first | exact ⟨rfl, _, World.drewN_drewN _ _ _⟩ | exact ⟨rfl, _, Eq.trans (World.drewN_drewN _ _ _) (congrArg (World.drewN _) (Nat.add_assoc _ _ _))⟩))); try go_wp2_with (first | (go_at_call 76; (with_reducible refine (spec_l02Has.calls kj24 _ _ x3_24 ((rd_T68 l0_1 x17_2).f0) true _ ?side1 ?side2 A34.out).mono ?_); (case side1 => exact Cz ((Kd.R_reads' HO_3.out).2.2)); (case side2 => exact (Kd.R_reads' HO_3.out).2.1); rintro e w' ⟨rfl, ⟨nd, rfl⟩⟩; (try first | exact ⟨rfl, _, World.drewN_drewN _ _ _⟩ | exact ⟨rfl, _, Eq.trans (World.drewN_drewN _ _ _) (congrArg (World.drewN _) (Nat.add_assoc _ _ _))⟩))))
                 go_roundg kj24
                 case measure => have := HK1.out; have := HK2.out; have := HJ10.out; have := HJ24.out; omega
                 case rel => exact ⟨(x3_24), (wrap64 (x17_2 + 1)), (by first | rfl | (simp; done) | (simp [*]; done)), H', ⟨by have := HK1.out; have := HK2.out; have := HJ10.out; have := HJ24.out; omega⟩, ⟨by exact Rz HO_3⟩, ⟨by exact Bz BK214⟩, ⟨by exact Lz2 HB GE214 GE219⟩⟩
                replace c35 := Bool.eq_false_iff.mpr c35
                subst c35
                have H1 : (if x3_24.length < 17592186044416 then (spec_l02Reach.l1 kj24 (x3_24 ++ [((rd_T68 l0_1 x17_2).f0)]) x4_1 l0_1 (l0_1.length : Int) (wrap64 (x17_2 + 1)) a0_0 l0_1) else (none)) = some r := by rw [if_neg (show ¬ (false = true) by decide)] at H; exact H
                clear H
                have H := H1
                clear H1
                by_cases c39 : x3_24.length < 17592186044416
                ·rw [if_pos c39] at H
                 have LMc39 := Aside0.mk c39
                 clear c39
                 obtain ⟨y227, hy227⟩ : ∃ y_ : List Int, y_ = (x3_24 ++ [((rd_T68 l0_1 x17_2).f0)]) := ⟨_, rfl⟩
                 replace H : (spec_l02Reach.l1 kj24 y227 x4_1 l0_1 (l0_1.length : Int) (wrap64 (x17_2 + 1)) a0_0 l0_1) = some r := by first | (rw [hy227]; with_reducible exact H) | (have H2_ := (Option.bind_some _ _).symm.trans H; rw [hy227]; with_reducible exact H2_) | (have H2_ := (Option.bind_some _ _).symm.trans H; with_reducible exact H2_) | with_reducible exact H | (rw [hy227]; exact H) | exact H
                 have Ny227 := Aside0.mk hy227
                 clear hy227
                 have H' := Aside0.mk H
                 clear H
                 have hnb40 := NB219_214.out
                 have hnc40 := NB214_219.out
                 have hcz41_0 : wc.cell? ⟨gb219, 0, none⟩ = some (.int .i64 ((rd_T68 l0_1 x17_2).f0)) := (blk_cell BK219.out 0).trans rfl
                 have hcz41_1 : wc.cell? ⟨gb219, 1, none⟩ = some (.int .i64 ((rd_T68 l0_1 x17_2).f1)) := (blk_cell BK219.out 1).trans rfl
                 have hfz41_0 := blk_frozen BK219.out 0
                 have hfz41_1 := blk_frozen BK219.out 1
                 obtain ⟨Ao42, co42, eo42⟩ := Kd.R_slice HO_3.out
                 subst eo42
                 have p225 : 0 ≤ (x4_1 : Int) := of_decide_eq_true (by first | (with_reducible assumption) | assumption)
                 have q225 : x4_1 < (x3_24.length : Int) := of_decide_eq_true (by first | (with_reducible assumption) | assumption)
                 obtain ⟨ad225, e225, hx225_0⟩ := Kd.at_int (Kd.R_reads' HO_3.out).2.2 x4_1 p225 q225
                 cases e225
                 replace p225 := eq_true p225
                 replace q225 := eq_true q225
                 go_wp2_with (first | (go_at_call 76; (with_reducible refine (spec_l02Has.calls kj24 _ _ x3_24 ((rd_T68 l0_1 x17_2).f0) false _ ?side1 ?side2 A34.out).mono ?_); (case side1 => exact Cz ((Kd.R_reads' HO_3.out).2.2)); (case side2 => exact (Kd.R_reads' HO_3.out).2.1); rintro e w' ⟨rfl, ⟨nd, rfl⟩⟩; (try first | exact ⟨rfl, _, World.drewN_drewN _ _ _⟩ | exact ⟨rfl, _, Eq.trans (World.drewN_drewN _ _ _) (congrArg (World.drewN _) (Nat.add_assoc _ _ _))⟩)) | ((with_reducible refine gate_builtin (b := .append) (xs := #[.tmp 54, .tmp 57]) rfl ?_); at_builtin; refine Kd.R_append (Kd.int .i64) (w0 := w) w.heap.size rfl (.tmp 54) (.tmp 57) 24 3 (.int .i64 0) 8 rfl Try.underlying24 info3 rfl (by decide) (by omega) (.slice (some ad225) x3_24.length co42) x3_24 ((rd_T68 l0_1 x17_2).f0) [.int .i64 ((rd_T68 l0_1 x17_2).f0)] (fun _ => True) (fun _ => False) rfl rfl ?aP (fun _ hk => hk.elim) ?aF ?aO ?aB ?aS ?aL ?_; (case aP => exact rfl); (case aB => exact (by exact Lz2 HB GE214 GE219)); (case aF => exact (fun _ _ => trivial)); (case aO => exact (Rz HO_3)); (case aS => exact (below_size (by exact Lz2 HB GE214 GE219))); (case aL => have := LMc39.out; omega); intro v228 w43 ho hb hg hat; rw [← Ny227.out] at ho; replace BK214 := Aside0.mk (blk_grown (g := gb214) (o := .cells #[.int .i64 a0_0, .slice (some ad218) l0_1.length c0_1] 37 (0, 0)) (Bz BK214) hg (Kd.R_ne HO_3.out BK214.out (by decide))); replace BK219 := Aside0.mk (blk_grown (g := gb219) (o := .cells #[.int .i64 ((rd_T68 l0_1 x17_2).f0), .int .i64 ((rd_T68 l0_1 x17_2).f1)] 68 (0, 0)) (Bz BK219) hg (Kd.R_ne HO_3.out BK219.out (by decide))); replace HB := Aside0.mk (hb); have HO229 := Aside0.mk (ho); clear HO_3; clear ho hb hg hat))
                 repeat (go_quiet (first | (go_at_call 76; (with_reducible refine (spec_l02Has.calls kj24 _ _ x3_24 ((rd_T68 l0_1 x17_2).f0) false _ ?side1 ?side2 A34.out).mono ?_); (case side1 => exact Cz ((Kd.R_reads' HO_3.out).2.2)); (case side2 => exact (Kd.R_reads' HO_3.out).2.1); rintro e w' ⟨rfl, ⟨nd, rfl⟩⟩; (try first | exact ⟨rfl, _, World.drewN_drewN _ _ _⟩ | exact ⟨rfl, _, Eq.trans (World.drewN_drewN _ _ _) (congrArg (World.drewN _) (Nat.add_assoc _ _ _))⟩)) | ((with_reducible refine gate_builtin (b := .append) (xs := #[.tmp 54, .tmp 57]) rfl ?_); at_builtin; refine Kd.R_append (Kd.int .i64) (w0 := w) w.heap.size rfl (.tmp 54) (.tmp 57) 24 3 (.int .i64 0) 8 rfl Try.underlying24 info3 rfl (by decide) (by omega) (.slice (some ad225) x3_24.length co42) x3_24 ((rd_T68 l0_1 x17_2).f0) [.int .i64 ((rd_T68 l0_1 x17_2).f0)] (fun _ => True) (fun _ => False) rfl rfl ?aP (fun _ hk => hk.elim) ?aF ?aO ?aB ?aS ?aL ?_; (case aP => exact rfl); (case aB => exact (by exact Lz2 HB GE214 GE219)); (case aF => exact (fun _ _ => trivial)); (case aO => exact (Rz HO_3)); (case aS => exact (below_size (by exact Lz2 HB GE214 GE219))); (case aL => have := LMc39.out; omega); intro v228 w43 ho hb hg hat; rw [← Ny227.out] at ho; replace BK214 := Aside0.mk (blk_grown (g := gb214) (o := .cells #[.int .i64 a0_0, .slice (some ad218) l0_1.length c0_1] 37 (0, 0)) (Bz BK214) hg (Kd.R_ne HO_3.out BK214.out (by decide))); replace BK219 := Aside0.mk (blk_grown (g := gb219) (o := .cells #[.int .i64 ((rd_T68 l0_1 x17_2).f0), .int .i64 ((rd_T68 l0_1 x17_2).f1)] 68 (0, 0)) (Bz BK219) hg (Kd.R_ne HO_3.out BK219.out (by decide))); replace HB := Aside0.mk (hb); have HO229 := Aside0.mk (ho); clear HO_3; clear ho hb hg hat)); try go_wp2_with (first | (go_at_call 76; (with_reducible refine (spec_l02Has.calls kj24 _ _ x3_24 ((rd_T68 l0_1 x17_2).f0) false _ ?side1 ?side2 A34.out).mono ?_); (case side1 => exact Cz ((Kd.R_reads' HO_3.out).2.2)); (case side2 => exact (Kd.R_reads' HO_3.out).2.1); rintro e w' ⟨rfl, ⟨nd, rfl⟩⟩; (try first | exact ⟨rfl, _, World.drewN_drewN _ _ _⟩ | exact ⟨rfl, _, Eq.trans (World.drewN_drewN _ _ _) (congrArg (World.drewN _) (Nat.add_assoc _ _ _))⟩)) | ((with_reducible refine gate_builtin (b := .append) (xs := #[.tmp 54, .tmp 57]) rfl ?_); at_builtin; refine Kd.R_append (Kd.int .i64) (w0 := w) w.heap.size rfl (.tmp 54) (.tmp 57) 24 3 (.int .i64 0) 8 rfl Try.underlying24 info3 rfl (by decide) (by omega) (.slice (some ad225) x3_24.length co42) x3_24 ((rd_T68 l0_1 x17_2).f0) [.int .i64 ((rd_T68 l0_1 x17_2).f0)] (fun _ => True) (fun _ => False) rfl rfl ?aP (fun _ hk => hk.elim) ?aF ?aO ?aB ?aS ?aL ?_; (case aP => exact rfl); (case aB => exact (by exact Lz2 HB GE214 GE219)); (case aF => exact (fun _ _ => trivial)); (case aO => exact (Rz HO_3)); (case aS => exact (below_size (by exact Lz2 HB GE214 GE219))); (case aL => have := LMc39.out; omega); intro v228 w43 ho hb hg hat; rw [← Ny227.out] at ho; replace BK214 := Aside0.mk (blk_grown (g := gb214) (o := .cells #[.int .i64 a0_0, .slice (some ad218) l0_1.length c0_1] 37 (0, 0)) (Bz BK214) hg (Kd.R_ne HO_3.out BK214.out (by decide))); replace BK219 := Aside0.mk (blk_grown (g := gb219) (o := .cells #[.int .i64 ((rd_T68 l0_1 x17_2).f0), .int .i64 ((rd_T68 l0_1 x17_2).f1)] 68 (0, 0)) (Bz BK219) hg (Kd.R_ne HO_3.out BK219.out (by decide))); replace HB := Aside0.mk (hb); have HO229 := Aside0.mk (ho); clear HO_3; clear ho hb hg hat)))
                 go_roundg kj24
                 case measure => have := HK1.out; have := HK2.out; have := HJ10.out; have := HJ24.out; omega
                 case rel => exact ⟨(y227), (wrap64 (x17_2 + 1)), (by first | rfl | (simp; done) | (simp [*]; done)), H', ⟨by have := HK1.out; have := HK2.out; have := HJ10.out; have := HJ24.out; omega⟩, ⟨by exact Rz HO229⟩, ⟨by exact Bz BK214⟩, ⟨by exact Lz2 HB GE214 GE219⟩⟩
                rw [if_neg c39] at H
                exact absurd H (by simp)
               rw [if_neg c33] at H
               have c33b0 : (((rd_T68 l0_1 x17_2).f1) == (rd x3_24 x4_1)) = false := beq_eq_false_iff_ne.mpr c33
               have c33b1 : (((rd_T68 l0_1 x17_2).f1) != (rd x3_24 x4_1)) = true := bne_iff_ne.mpr c33
               have H' := Aside0.mk H
               clear H
               have hnb44 := NB219_214.out
               have hnc44 := NB214_219.out
               have hcz45_0 : wc.cell? ⟨gb219, 0, none⟩ = some (.int .i64 ((rd_T68 l0_1 x17_2).f0)) := (blk_cell BK219.out 0).trans rfl
               have hcz45_1 : wc.cell? ⟨gb219, 1, none⟩ = some (.int .i64 ((rd_T68 l0_1 x17_2).f1)) := (blk_cell BK219.out 1).trans rfl
               have hfz45_0 := blk_frozen BK219.out 0
               have hfz45_1 := blk_frozen BK219.out 1
               obtain ⟨Ao46, co46, eo46⟩ := Kd.R_slice HO_3.out
               subst eo46
               have p225 : 0 ≤ (x4_1 : Int) := of_decide_eq_true (by first | (with_reducible assumption) | assumption)
               have q225 : x4_1 < (x3_24.length : Int) := of_decide_eq_true (by first | (with_reducible assumption) | assumption)
               obtain ⟨ad225, e225, hx225_0⟩ := Kd.at_int (Kd.R_reads' HO_3.out).2.2 x4_1 p225 q225
               cases e225
               replace p225 := eq_true p225
               replace q225 := eq_true q225
               go_wp2
               repeat (go_quiet (fail); try go_wp2)
               go_roundg kj24
               case measure => have := HK1.out; have := HK2.out; have := HJ10.out; have := HJ24.out; omega
               case rel => exact ⟨(x3_24), (wrap64 (x17_2 + 1)), (by first | rfl | (simp; done) | (simp [*]; done)), H', ⟨by have := HK1.out; have := HK2.out; have := HJ10.out; have := HJ24.out; omega⟩, ⟨by exact Rz HO_3⟩, ⟨by exact Bz BK214⟩, ⟨by exact Lz2 HB GE214 GE219⟩⟩
              rw [if_neg c32] at H
              exact absurd H (by simp)
             rw [if_neg c31] at H
             exact absurd H (by simp)
        rw [if_neg c10] at H
        exact absurd H (by simp)
       rw [if_neg c9] at H
       exact absurd H (by simp)
      rw [if_neg c8] at H
      have c8b0 : decide (x17_2 < (l0_1.length : Int)) = false := decide_eq_false c8
      clear c8
      have H' := Aside0.mk H
      clear H
      go_wp2
      repeat (go_quiet (fail); try go_wp2)
      go_roundg k2
      case measure => have := HK1.out; have := HK2.out; omega
      case rel => exact ⟨(x3_2), (wrap64 (x4_1 + 1)), (by first | rfl | (simp; done) | (simp [*]; done)), H', ⟨by have := HK1.out; have := HK2.out; omega⟩, ⟨by exact Rz HO_3⟩, ⟨by exact Bz BK214⟩, ⟨by exact Lz1 HB GE214⟩⟩
   rw [if_neg c5] at H
   have c5b0 : decide (x4_1 < (x3_1.length : Int)) = false := decide_eq_false c5
   clear c5
   obtain rfl := Option.some.inj H
   obtain ⟨Ao47, co47, eo47⟩ := Kd.R_slice HO_3.out
   subst eo47
   go_wp2
   repeat (go_quiet (fail); try go_wp2)
   go_ret
   exact ⟨_, by first | rfl | (simp [errW_none, errW_some] <;> rfl) | (simp [*, errW_none, errW_some] <;> rfl), by exact Rz HO_3, by exact Lz1 HB GE214⟩

/-! ### spec_GraphOk: function 63 -/
mutual
def spec_GraphOk.l0 : Nat → List (S68) → Int → Int → Int → List (S68) → Option (Bool)
 | 0, _, _, _, _, _ => none
 | k + 1, x9, x10, x11, x231000, x231001 => if x11 < x10 then (if 0 ≤ x11 then (if x11 < (x9.length : Int) then (if x11 > 0 then (if 0 ≤ (wrap64 (x11 - 1)) then (if (wrap64 (x11 - 1)) < (x231001.length : Int) then (if ((rd_T68 x9 x11).f0) < ((rd_T68 x231001 (wrap64 (x11 - 1))).f0) then (spec_GraphOk.j1 k x9 x10 x11 true x231000 x231001) else (if ((rd_T68 x9 x11).f0) = ((rd_T68 x231001 (wrap64 (x11 - 1))).f0) then (spec_GraphOk.j1 k x9 x10 x11 (decide (((rd_T68 x9 x11).f1) < ((rd_T68 x231001 (wrap64 (x11 - 1))).f1))) x231000 x231001) else (spec_GraphOk.j1 k x9 x10 x11 false x231000 x231001))) else (none)) else (none)) else (spec_GraphOk.j1 k x9 x10 x11 false x231000 x231001)) else (none)) else (none)) else ((spec_l02Reach.f k x231000 x231001).bind fun t232 => (some ((t232.length : Int) == x231000)))
def spec_GraphOk.j1 : Nat → List (S68) → Int → Int → Bool → Int → List (S68) → Option (Bool)
 | 0, _, _, _, _, _, _ => none
 | k + 1, x9, x10, x11, x53, x231000, x231001 => if x53 = true then (some false) else (spec_GraphOk.l0 k x9 x10 (wrap64 (x11 + 1)) x231000 x231001)
end
def spec_GraphOk.f (k : Nat) (a0_0 : Int) (l0_1 : List (S68)) : Option (Bool) := (spec_EdgesOk.f k a0_0 l0_1).bind fun t231 => (if t231 = true then (spec_GraphOk.l0 k l0_1 (l0_1.length : Int) 0 a0_0 l0_1) else (some false))
def spec_GraphOk.T6 : Bool × List (List Nat × List Nat) := (true, [([], []), ([0], [0]), ([1], [1]), ([2], [2]), ([3, 2], [2, 3]), ([2], [2]), ([5, 2], [2, 5]), ([2], [2]), ([7, 2], [2, 7]), ([6, 8, 2], [2, 6, 8]), ([9, 2], [2, 9]), ([10, 2], [2, 10]), ([4, 11, 2], [2, 4, 11]), ([12, 2, 2], [2, 12]), ([13], [13]), ([14, 13], [13, 14]), ([13], [13]), ([16, 13], [13, 16]), ([13], [13]), ([18, 13], [13, 18]), ([17, 19, 13], [13, 17, 19]), ([20, 13], [13, 20]), ([21, 13], [13, 21]), ([15, 22, 13], [13, 15, 22]), ([23, 13, 13], [13, 23]), ([24], [24]), ([25, 24], [24, 25]), ([24], [24]), ([27, 24], [24, 27]), ([24], [24]), ([29, 24], [24, 29]), ([28, 30, 24], [24, 28, 30]), ([31, 24], [24, 31]), ([32, 24], [24, 32]), ([26, 33, 24], [24, 26, 33]), ([24, 34, 13], [13, 24, 34]), ([13, 35, 2], [2, 13, 35]), ([2, 36], [2, 36])])
def spec_GraphOk.B6 : List Nat := [0, 1, 3, 7, 15, 7, 39, 7, 135, 487, 999, 2023, 4095, 8191, 16383, 32767, 16383, 81919, 16383, 278527, 999423, 2047999, 4145151, 8388607, 16777215, 33554431, 67108863, 33554431, 167772159, 33554431, 570425343, 2046820351, 4194303999, 8489271295, 17179869183, 34359738367, 68719476735, 137438953471]
theorem spec_GraphOk.tab6 : rtab .any (opsOf Try.f63 6) = spec_GraphOk.T6 := by kernel_rfl
theorem spec_GraphOk.bits6 : waitsOk spec_GraphOk.T6.2 spec_GraphOk.B6 = true := by kernel_rfl
set_option maxHeartbeats 8000000 in
set_option maxRecDepth 100000 in
theorem spec_GraphOk.calls (k : Nat) (a0_0 : Int) (A0_1 : Option Addr) (c0_1 : Nat) (l0_1 : List (S68)) (r : Bool) (w : World) (hr0_1 : Kd.C k68 w A0_1 l0_1.length l0_1) (hc0_1 : l0_1.length ≤ c0_1) (h : spec_GraphOk.f k a0_0 l0_1 = some r) :
  Calls Try.prog 63 #[.agg #[.int .i64 a0_0, .slice A0_1 l0_1.length c0_1]] w fun e w' => e = .returned (.bool r) ∧ Below w.heap.size w w' := by
 have hu37 := Try.underlying37
 have hu68 := Try.underlying68
 have HR0_1 := Aside0.mk hr0_1
 have HC0_1 := Aside0.mk hc0_1
 clear hr0_1 hc0_1
 have HB := Aside0.mk (Below.refl w.heap.size w)
 have H : ((spec_EdgesOk.f k a0_0 l0_1).bind fun t231 => (if t231 = true then (spec_GraphOk.l0 k l0_1 (l0_1.length : Int) 0 a0_0 l0_1) else (some false))) = some r := h
 clear h
 replace H := Option.bind_eq_some_iff.mp H
 obtain ⟨t231, A20, H⟩ := H
 replace H : (if t231 = true then (spec_GraphOk.l0 k l0_1 (l0_1.length : Int) 0 a0_0 l0_1) else (some false)) = some r := H
 have A2 := Aside0.mk A20
 clear A20
 by_cases c3 : t231 = true
 ·subst c3
  have H1 : (spec_GraphOk.l0 k l0_1 (l0_1.length : Int) 0 a0_0 l0_1) = some r := by rw [if_pos rfl] at H; exact H
  clear H
  have H := H1
  clear H1
  have H' := Aside0.mk H
  clear H
  go_enter Try.func63, Try.ntmps63
  go_wp2_with (first | ((with_reducible refine gate_dst (N := 1) rfl ?_); refine box_event ?hg (N := 1) ?hd (cs := #[.int .i64 a0_0, .slice A0_1 l0_1.length c0_1]) (t := 37) ?hr ?_; (case hd => rfl); (case hg => rfl); (case hr => first | (go_simp; done) | (go_simp; rfl)); intro gb230 hg w4 hbox hb; have BK230 := Aside0.mk (hbox); have GW230 := Aside0.mk ((by rw [hg]; exact (below_size (Lz HB)) : w.heap.size ≤ gb230)); have GE230 := Aside0.mk ((by rw [hg]; exact (below_size (Lz HB)) : w.heap.size ≤ gb230)); replace HB := Aside0.mk (below_step (Lz HB) hb); clear hb hbox hg; have hcz5_0 : w4.cell? ⟨gb230, 0, none⟩ = some (.int .i64 a0_0) := (blk_cell BK230.out 0).trans rfl; have hcz5_1 : w4.cell? ⟨gb230, 1, none⟩ = some (.slice A0_1 l0_1.length c0_1) := (blk_cell BK230.out 1).trans rfl; have hfz5_0 := blk_frozen BK230.out 0; have hfz5_1 := blk_frozen BK230.out 1) | ((with_reducible refine gate_callee (f := 97) rfl ?_); refine goesM_ (some 6) rfl rfl Try.func97 (by kernel_rfl) rfl #[.agg #[.int .i64 a0_0, .slice A0_1 l0_1.length c0_1]] rfl ?_; (with_reducible refine (spec_EdgesOk.calls k a0_0 _ _ l0_1 true _ ?side1 ?side2 A2.out).mono ?_); (case side1 => exact Cz ((Kd.C_below HR0_1.out HB.out))); (case side2 => exact HC0_1.out); rintro e w6 ⟨rfl, hb⟩; refine ⟨_, rfl, ?_⟩; replace BK230 := Aside0.mk (blk_below (g := gb230) (o := .cells #[.int .i64 a0_0, .slice A0_1 l0_1.length c0_1] 37 (0, 0)) (Bz BK230) hb); replace HB := Aside0.mk (below_step (by exact Lz1 HB GE230) hb); (try clear hb); (try clear hb2); (try clear hk); (try clear hi); have hcz7_0 : w6.cell? ⟨gb230, 0, none⟩ = some (.int .i64 a0_0) := (blk_cell BK230.out 0).trans rfl; have hcz7_1 : w6.cell? ⟨gb230, 1, none⟩ = some (.slice A0_1 l0_1.length c0_1) := (blk_cell BK230.out 1).trans rfl; have hfz7_0 := blk_frozen BK230.out 0; have hfz7_1 := blk_frozen BK230.out 1))
  go_loopg [11] k (fun kq v11 w' => ∃ (x11_1 : Int), v11 = .int .i64 x11_1 ∧ Aside0 (spec_GraphOk.l0 kq l0_1 (l0_1.length : Int) x11_1 a0_0 l0_1 = some r) ∧ Aside0 (kq ≤ k) ∧ Aside0 (w'.heap[gb230]? = some (.cells #[.int .i64 a0_0, (.slice A0_1 l0_1.length c0_1)] 37 (0, 0))) ∧ Aside0 (Below w.heap.size w w'))
  case atStart => exact ⟨(0), (by first | rfl | (simp; done) | (simp [*]; done)), H', ⟨Nat.le_refl _⟩, ⟨by exact Bz BK230⟩, ⟨by exact Lz1 HB GE230⟩⟩
  case round =>
   clear H'
   try clear c3
   obtain ⟨x11_1, rfl, HA, HK1, BK230, HB⟩ := hrel
   cases gk with
   | zero => exact absurd HA.out (by simp [spec_GraphOk.l0])
   | succ k1 =>
    have H := HA.out
    clear HA
    simp only [spec_GraphOk.l0] at H
    by_cases c8 : x11_1 < (l0_1.length : Int)
    ·rw [if_pos c8] at H
     have c8b0 : decide (x11_1 < (l0_1.length : Int)) = true := decide_eq_true c8
     clear c8
     by_cases c9 : 0 ≤ x11_1
     ·rw [if_pos c9] at H
      have c9b0 : decide (0 ≤ x11_1) = true := decide_eq_true c9
      clear c9
      by_cases c10 : x11_1 < (l0_1.length : Int)
      ·rw [if_pos c10] at H
       have c10b0 : decide (x11_1 < (l0_1.length : Int)) = true := decide_eq_true c10
       clear c10
       have HC11 := Aside0.mk H
       clear H
       have p235 : 0 ≤ (x11_1 : Int) := of_decide_eq_true (by first | (with_reducible assumption) | assumption)
       have q235 : x11_1 < (l0_1.length : Int) := of_decide_eq_true (by first | (with_reducible assumption) | assumption)
       obtain ⟨ad235, e235, hx235_0, hx235_1⟩ := at_T68 HR0_1.out x11_1 p235 q235
       cases e235
       replace hx235_0 := (HB.out.cell (World.block_lt_of_cell? w _ hx235_0)).trans hx235_0
       replace hx235_1 := (HB.out.cell (World.block_lt_of_cell? w _ hx235_1)).trans hx235_1
       replace p235 := eq_true p235
       replace q235 := eq_true q235
       go_upto_region 6 with (first | ((with_reducible refine gate_dst (N := 4) rfl ?_); refine box_event ?hg (N := 4) ?hd (cs := #[.int .i64 0, .int .i64 0]) (t := 68) ?hr ?_; (case hd => rfl); (case hg => rfl); (case hr => first | (go_simp; done) | (go_simp; rfl)); intro gb236 hg w12 hbox hb; have BK236 := Aside0.mk (hbox); have GW236 := Aside0.mk ((by rw [hg]; exact (below_size (by exact Lz1 HB GE230)) : w.heap.size ≤ gb236)); have GE236 := Aside0.mk ((by rw [hg]; exact (below_size (by exact Lz1 HB GE230)) : w.heap.size ≤ gb236)); replace HB := Aside0.mk (below_step (by exact Lz1 HB GE230) hb); have NB230_236 := Aside0.mk ((by rw [hg]; exact Nat.ne_of_lt (blk_lt (g := gb230) (o := .cells #[.int .i64 a0_0, .slice (some ad235) l0_1.length c0_1] 37 (0, 0)) (Bz BK230)) : gb230 ≠ gb236)); have NB236_230 := Aside0.mk ((by rw [hg]; exact Nat.ne_of_gt (blk_lt (g := gb230) (o := .cells #[.int .i64 a0_0, .slice (some ad235) l0_1.length c0_1] 37 (0, 0)) (Bz BK230)) : gb236 ≠ gb230)); replace BK230 := Aside0.mk (blk_below (g := gb230) (o := .cells #[.int .i64 a0_0, .slice (some ad235) l0_1.length c0_1] 37 (0, 0)) (Bz BK230) hb); clear hb hbox hg; have hnb13 := NB236_230.out; have hnc13 := NB230_236.out; have hcz14_0 : w12.cell? ⟨gb236, 0, none⟩ = some (.int .i64 0) := (blk_cell BK236.out 0).trans rfl; have hcz14_1 : w12.cell? ⟨gb236, 1, none⟩ = some (.int .i64 0) := (blk_cell BK236.out 1).trans rfl; have hfz14_0 := blk_frozen BK236.out 0; have hfz14_1 := blk_frozen BK236.out 1))
       (try simp only [Act.put, List.setIfInBounds_toArray, List.set_cons_zero, List.set_cons_succ])
       go_cut [53] (fun v53 wc => ∃ (kq : Nat) (x53_10 : Bool), v53 = .bool x53_10 ∧ Aside0 (spec_GraphOk.j1 kq l0_1 (l0_1.length : Int) x11_1 x53_10 a0_0 l0_1 = some r) ∧ Aside0 (kq ≤ k1) ∧ Aside0 (wc.heap[gb230]? = some (.cells #[.int .i64 a0_0, (.slice (some ad235) l0_1.length c0_1)] 37 (0, 0))) ∧ Aside0 (wc.heap[gb236]? = some (.cells #[.int .i64 ((rd_T68 l0_1 x11_1).f0), .int .i64 ((rd_T68 l0_1 x11_1).f1)] 68 (0, 0))) ∧ Aside0 (Below w.heap.size w wc))
       case first =>
        have H := HC11.out
        clear HC11
        by_cases c15 : x11_1 > 0
        ·rw [if_pos c15] at H
         have c15b0 : decide (0 < x11_1) = true := decide_eq_true c15
         clear c15
         (first | rw [c15b0] | (simp only [i64_w, i32_w]; rw [c15b0]) | skip)
         obtain ⟨ji16, hji16⟩ : ∃ j_ : Int, (wrap64 (x11_1 - 1)) = j_ := ⟨_, rfl⟩
         replace H : (if 0 ≤ (ji16) then (if (ji16) < (l0_1.length : Int) then (if ((rd_T68 l0_1 x11_1).f0) < ((rd_T68 l0_1 (ji16)).f0) then (spec_GraphOk.j1 k1 l0_1 (l0_1.length : Int) x11_1 true a0_0 l0_1) else (if ((rd_T68 l0_1 x11_1).f0) = ((rd_T68 l0_1 (ji16)).f0) then (spec_GraphOk.j1 k1 l0_1 (l0_1.length : Int) x11_1 (decide (((rd_T68 l0_1 x11_1).f1) < ((rd_T68 l0_1 (ji16)).f1))) a0_0 l0_1) else (spec_GraphOk.j1 k1 l0_1 (l0_1.length : Int) x11_1 false a0_0 l0_1))) else (none)) else (none)) = some r := by first | (rw [hji16] at H; exact H) | (simp only [hji16] at H ⊢; exact H)
         have hji16w : (IntKind.i64.wrap (x11_1 - 1)) = ji16 := (i64_w _).trans hji16
         by_cases c17 : 0 ≤ (ji16)
         ·rw [if_pos c17] at H
          have c17b0 : decide (0 ≤ (ji16)) = true := decide_eq_true c17
          clear c17
          by_cases c18 : (ji16) < (l0_1.length : Int)
          ·rw [if_pos c18] at H
           have c18b0 : decide ((ji16) < (l0_1.length : Int)) = true := decide_eq_true c18
           clear c18
           by_cases c19 : ((rd_T68 l0_1 x11_1).f0) < ((rd_T68 l0_1 (ji16)).f0)
           ·rw [if_pos c19] at H
            have c19b0 : decide (((rd_T68 l0_1 x11_1).f0) < ((rd_T68 l0_1 (ji16)).f0)) = true := decide_eq_true c19
            clear c19
            have H' := Aside0.mk H
            clear H
            try go_wp2
            have n0_ : Aside0 (((w12.setCell ⟨gb236, 0, none⟩ (.int .i64 ((rd_T68 l0_1 x11_1).f0))).setCell ⟨gb236, 1, none⟩ (.int .i64 ((rd_T68 l0_1 x11_1).f1))).heap[gb230]? = some (.cells #[.int .i64 a0_0, .slice (some ad235) l0_1.length c0_1] 37 (0, 0))) := ⟨by (with_reducible repeat (first | refine blk_drewN ?_ _ | refine blk_drew ?_ | refine blk_alloc ?_ _)); refine blk_far ?_ NB230_236.out _; (with_reducible repeat (first | refine blk_drewN ?_ _ | refine blk_drew ?_ | refine blk_alloc ?_ _)); refine blk_far ?_ NB230_236.out _; exact Bz BK230⟩
            have n1_ : Aside0 (((w12.setCell ⟨gb236, 0, none⟩ (.int .i64 ((rd_T68 l0_1 x11_1).f0))).setCell ⟨gb236, 1, none⟩ (.int .i64 ((rd_T68 l0_1 x11_1).f1))).heap[gb236]? = some (.cells #[.int .i64 ((rd_T68 l0_1 x11_1).f0), .int .i64 ((rd_T68 l0_1 x11_1).f1)] 68 (0, 0))) := ⟨by (with_reducible repeat (first | refine blk_drewN ?_ _ | refine blk_drew ?_ | refine blk_alloc ?_ _)); refine blk_put (cs := #[.int .i64 ((rd_T68 l0_1 x11_1).f0), .int .i64 0]) ?_ 1 _ rfl; (with_reducible repeat (first | refine blk_drewN ?_ _ | refine blk_drew ?_ | refine blk_alloc ?_ _)); refine blk_put (cs := #[.int .i64 0, .int .i64 0]) ?_ 0 _ rfl; exact Bz BK236⟩
            have n2_ : Aside0 (Below w.heap.size w ((w12.setCell ⟨gb236, 0, none⟩ (.int .i64 ((rd_T68 l0_1 x11_1).f0))).setCell ⟨gb236, 1, none⟩ (.int .i64 ((rd_T68 l0_1 x11_1).f1)))) := ⟨by exact Lz2 HB GE230 GE236⟩
            (try clear BK230)
            (try clear BK236)
            (try clear HB)
            generalize ((w12.setCell ⟨gb236, 0, none⟩ (.int .i64 ((rd_T68 l0_1 x11_1).f0))).setCell ⟨gb236, 1, none⟩ (.int .i64 ((rd_T68 l0_1 x11_1).f1))) = w20 at n0_ n1_ n2_ ⊢
            have BK230 := n0_
            have BK236 := n1_
            have HB := n2_
            clear n0_ n1_ n2_
            replace BK230 := Aside0.mk (blk_drew BK230.out)
            replace BK236 := Aside0.mk (blk_drew BK236.out)
            replace HB := Aside0.mk (below_drew1 HB.out)
            have p237 : 0 ≤ ((ji16) : Int) := of_decide_eq_true (by first | (with_reducible assumption) | assumption)
            have q237 : (ji16) < (l0_1.length : Int) := of_decide_eq_true (by first | (with_reducible assumption) | assumption)
            obtain ⟨ad237, e237, hx237_0, hx237_1⟩ := at_T68 HR0_1.out (ji16) p237 q237
            have hw237_1 := hx237_1
            have hw237_0 := hx237_0
            obtain rfl : ad235 = ad237 := (by injection e237)
            replace hx237_0 := (HB.out.cell (World.block_lt_of_cell? w _ hx237_0)).trans hx237_0
            replace hx237_1 := (HB.out.cell (World.block_lt_of_cell? w _ hx237_1)).trans hx237_1
            replace p237 := eq_true p237
            replace q237 := eq_true q237
            refine start_ (n := 38) (S := fun w' => w'.cell? ⟨gb236, 0, none⟩ = some (.int .i64 ((rd_T68 l0_1 x11_1).f0)) ∧ w'.cell? ⟨gb236, 1, none⟩ = some (.int .i64 ((rd_T68 l0_1 x11_1).f1)) ∧ w'.cell? ⟨gb230, 0, none⟩ = some (.int .i64 a0_0) ∧ w'.cell? ⟨gb230, 1, none⟩ = some (.slice (some ad235) l0_1.length c0_1) ∧ w'.cell? (ad235.add (((ji16)).toNat * 2)) = some (.int .i64 ((rd_T68 l0_1 (ji16)).f0)) ∧ w'.cell? ⟨(ad235.add (((ji16)).toNat * 2)).block, (ad235.add (((ji16)).toNat * 2)).off + 1, none⟩ = some (.int .i64 ((rd_T68 l0_1 (ji16)).f1))) (ds := []) #[false, false, false, false, false, false, false, false, false, false, false, false, false, false, false, false, false, false, false, false, false, false, false, false, false, false, false, false, false, false, false, false, false, false, false, false, false, false] (by kernel_rfl) rfl rfl ⟨(blk_cell BK236.out 0).trans rfl, (blk_cell BK236.out 1).trans rfl, (blk_cell BK230.out 0).trans rfl, (blk_cell BK230.out 1).trans rfl, ((HB.out.cell (World.block_lt_of_cell? w _ hw237_0)).trans hw237_0), ((HB.out.cell (World.block_lt_of_cell? w _ hw237_1)).trans hw237_1)⟩ (fun hHeld => ?_); refine with_tabW spec_GraphOk.tab6 spec_GraphOk.bits6 (fun HT_ HW_ => ?_)
            generalize w20.drew = w21 at BK230 BK236 HB hx237_0 hx237_1 hHeld ⊢
            refine pureT_ 0 16 HT_ ?_
            refine pureT_ 1 17 HT_ ?_
            refine pureT_ 2 18 HT_ ?_
            refine pureT_ 3 19 HT_ ?_
            refine pureT_ 5 21 HT_ ?_
            refine pureT_ 7 23 HT_ ?_
            refine pureT_ 8 24 HT_ ?_
            refine takeT_ 4 20 HT_ HW_ hHeld rfl (by rintro w' ⟨s0, s1, s2, s3, s4, s5⟩; go_simp; with_reducible rfl) ?_
            refine takeT_ 6 22 HT_ HW_ hHeld rfl (by rintro w' ⟨s0, s1, s2, s3, s4, s5⟩; go_simp; with_reducible rfl) ?_
            refine pureT_ 9 25 HT_ ?_
            refine pureT_ 10 26 HT_ ?_
            refine takeT_ 11 27 HT_ HW_ hHeld rfl (by rintro w' ⟨s0, s1, s2, s3, s4, s5⟩; go_simp; with_reducible rfl) ?_
            refine pureT_ 12 28 HT_ ?_
            refine pureT_ 13 29 HT_ ?_
            refine pureU_ 14 30 HT_ ?_
            refine pureU_ 15 31 HT_ ?_
            refine pureU_ 16 32 HT_ ?_
            refine pureU_ 17 33 HT_ ?_
            refine pureU_ 18 34 HT_ ?_
            refine pureU_ 19 35 HT_ ?_
            refine pureU_ 20 36 HT_ ?_
            refine pureU_ 21 37 HT_ ?_
            refine pureU_ 22 38 HT_ ?_
            refine pureU_ 23 39 HT_ ?_
            refine pureU_ 24 40 HT_ ?_
            refine pureU_ 25 41 HT_ ?_
            refine pureU_ 26 42 HT_ ?_
            refine pureU_ 27 43 HT_ ?_
            refine pureU_ 28 44 HT_ ?_
            refine pureU_ 29 45 HT_ ?_
            refine pureU_ 30 46 HT_ ?_
            refine pureU_ 31 47 HT_ ?_
            refine pureU_ 32 48 HT_ ?_
            refine pureU_ 33 49 HT_ ?_
            refine pureU_ 34 50 HT_ ?_
            refine pureU_ 35 51 HT_ ?_
            refine pureT_ 36 52 HT_ ?_
            refine pureT_ 37 53 HT_ ?_
            refine done_ (done_of HT_.out (by kernel_rfl)) ?_
            try go_wp2
            go_meet
            case rel => exact ⟨_, (true), (by first | rfl | (simp; done) | (simp [*]; done)), H', ⟨by have := HK1.out; first | omega | exact Nat.le_refl _⟩, ⟨by exact Bz BK230⟩, ⟨by exact Bz BK236⟩, ⟨by exact Lz2 HB GE230 GE236⟩⟩
           rw [if_neg c19] at H
           have c19b0 : decide (((rd_T68 l0_1 x11_1).f0) < ((rd_T68 l0_1 (ji16)).f0)) = false := decide_eq_false c19
           clear c19
           by_cases c22 : ((rd_T68 l0_1 x11_1).f0) = ((rd_T68 l0_1 (ji16)).f0)
           ·rw [if_pos c22] at H
            have c22b0 : (((rd_T68 l0_1 x11_1).f0) == ((rd_T68 l0_1 (ji16)).f0)) = true := beq_iff_eq.mpr c22
            have c22b1 : (((rd_T68 l0_1 x11_1).f0) != ((rd_T68 l0_1 (ji16)).f0)) = false := bne_eq_false_iff_eq.mpr c22
            clear c22
            have H' := Aside0.mk H
            clear H
            try go_wp2
            have n0_ : Aside0 (((w12.setCell ⟨gb236, 0, none⟩ (.int .i64 ((rd_T68 l0_1 x11_1).f0))).setCell ⟨gb236, 1, none⟩ (.int .i64 ((rd_T68 l0_1 x11_1).f1))).heap[gb230]? = some (.cells #[.int .i64 a0_0, .slice (some ad235) l0_1.length c0_1] 37 (0, 0))) := ⟨by (with_reducible repeat (first | refine blk_drewN ?_ _ | refine blk_drew ?_ | refine blk_alloc ?_ _)); refine blk_far ?_ NB230_236.out _; (with_reducible repeat (first | refine blk_drewN ?_ _ | refine blk_drew ?_ | refine blk_alloc ?_ _)); refine blk_far ?_ NB230_236.out _; exact Bz BK230⟩
            have n1_ : Aside0 (((w12.setCell ⟨gb236, 0, none⟩ (.int .i64 ((rd_T68 l0_1 x11_1).f0))).setCell ⟨gb236, 1, none⟩ (.int .i64 ((rd_T68 l0_1 x11_1).f1))).heap[gb236]? = some (.cells #[.int .i64 ((rd_T68 l0_1 x11_1).f0), .int .i64 ((rd_T68 l0_1 x11_1).f1)] 68 (0, 0))) := ⟨by (with_reducible repeat (first | refine blk_drewN ?_ _ | refine blk_drew ?_ | refine blk_alloc ?_ _)); refine blk_put (cs := #[.int .i64 ((rd_T68 l0_1 x11_1).f0), .int .i64 0]) ?_ 1 _ rfl; (with_reducible repeat (first | refine blk_drewN ?_ _ | refine blk_drew ?_ | refine blk_alloc ?_ _)); refine blk_put (cs := #[.int .i64 0, .int .i64 0]) ?_ 0 _ rfl; exact Bz BK236⟩
            have n2_ : Aside0 (Below w.heap.size w ((w12.setCell ⟨gb236, 0, none⟩ (.int .i64 ((rd_T68 l0_1 x11_1).f0))).setCell ⟨gb236, 1, none⟩ (.int .i64 ((rd_T68 l0_1 x11_1).f1)))) := ⟨by exact Lz2 HB GE230 GE236⟩
            (try clear BK230)
            (try clear BK236)
            (try clear HB)
            generalize ((w12.setCell ⟨gb236, 0, none⟩ (.int .i64 ((rd_T68 l0_1 x11_1).f0))).setCell ⟨gb236, 1, none⟩ (.int .i64 ((rd_T68 l0_1 x11_1).f1))) = w23 at n0_ n1_ n2_ ⊢
            have BK230 := n0_
            have BK236 := n1_
            have HB := n2_
            clear n0_ n1_ n2_
            replace BK230 := Aside0.mk (blk_drew BK230.out)
            replace BK236 := Aside0.mk (blk_drew BK236.out)
            replace HB := Aside0.mk (below_drew1 HB.out)
            have p237 : 0 ≤ ((ji16) : Int) := of_decide_eq_true (by first | (with_reducible assumption) | assumption)
            have q237 : (ji16) < (l0_1.length : Int) := of_decide_eq_true (by first | (with_reducible assumption) | assumption)
            obtain ⟨ad237, e237, hx237_0, hx237_1⟩ := at_T68 HR0_1.out (ji16) p237 q237
            have hw237_1 := hx237_1
            have hw237_0 := hx237_0
            obtain rfl : ad235 = ad237 := (by injection e237)
            replace hx237_0 := (HB.out.cell (World.block_lt_of_cell? w _ hx237_0)).trans hx237_0
            replace hx237_1 := (HB.out.cell (World.block_lt_of_cell? w _ hx237_1)).trans hx237_1
            replace p237 := eq_true p237
            replace q237 := eq_true q237
            have p238 : 0 ≤ ((ji16) : Int) := of_decide_eq_true (by first | (with_reducible assumption) | assumption)
            have q238 : (ji16) < (l0_1.length : Int) := of_decide_eq_true (by first | (with_reducible assumption) | assumption)
            obtain ⟨ad238, e238, hx238_0, hx238_1⟩ := at_T68 HR0_1.out (ji16) p238 q238
            have hw238_1 := hx238_1
            have hw238_0 := hx238_0
            obtain rfl : ad235 = ad238 := (by injection e238)
            replace hx238_0 := (HB.out.cell (World.block_lt_of_cell? w _ hx238_0)).trans hx238_0
            replace hx238_1 := (HB.out.cell (World.block_lt_of_cell? w _ hx238_1)).trans hx238_1
            replace p238 := eq_true p238
            replace q238 := eq_true q238
            have p239 : 0 ≤ ((ji16) : Int) := of_decide_eq_true (by first | (with_reducible assumption) | assumption)
            have q239 : (ji16) < (l0_1.length : Int) := of_decide_eq_true (by first | (with_reducible assumption) | assumption)
            obtain ⟨ad239, e239, hx239_0, hx239_1⟩ := at_T68 HR0_1.out (ji16) p239 q239
            have hw239_1 := hx239_1
            have hw239_0 := hx239_0
            obtain rfl : ad235 = ad239 := (by injection e239)
            replace hx239_0 := (HB.out.cell (World.block_lt_of_cell? w _ hx239_0)).trans hx239_0
            replace hx239_1 := (HB.out.cell (World.block_lt_of_cell? w _ hx239_1)).trans hx239_1
            replace p239 := eq_true p239
            replace q239 := eq_true q239
            refine start_ (n := 38) (S := fun w' => w'.cell? ⟨gb236, 0, none⟩ = some (.int .i64 ((rd_T68 l0_1 x11_1).f0)) ∧ w'.cell? ⟨gb236, 1, none⟩ = some (.int .i64 ((rd_T68 l0_1 x11_1).f1)) ∧ w'.cell? ⟨gb230, 0, none⟩ = some (.int .i64 a0_0) ∧ w'.cell? ⟨gb230, 1, none⟩ = some (.slice (some ad235) l0_1.length c0_1) ∧ w'.cell? (ad235.add (((ji16)).toNat * 2)) = some (.int .i64 ((rd_T68 l0_1 (ji16)).f0)) ∧ w'.cell? ⟨(ad235.add (((ji16)).toNat * 2)).block, (ad235.add (((ji16)).toNat * 2)).off + 1, none⟩ = some (.int .i64 ((rd_T68 l0_1 (ji16)).f1)) ∧ w'.cell? (ad235.add (((ji16)).toNat * 2)) = some (.int .i64 ((rd_T68 l0_1 (ji16)).f0)) ∧ w'.cell? ⟨(ad235.add (((ji16)).toNat * 2)).block, (ad235.add (((ji16)).toNat * 2)).off + 1, none⟩ = some (.int .i64 ((rd_T68 l0_1 (ji16)).f1)) ∧ w'.cell? (ad235.add (((ji16)).toNat * 2)) = some (.int .i64 ((rd_T68 l0_1 (ji16)).f0)) ∧ w'.cell? ⟨(ad235.add (((ji16)).toNat * 2)).block, (ad235.add (((ji16)).toNat * 2)).off + 1, none⟩ = some (.int .i64 ((rd_T68 l0_1 (ji16)).f1))) (ds := []) #[false, false, false, false, false, false, false, false, false, false, false, false, false, false, false, false, false, false, false, false, false, false, false, false, false, false, false, false, false, false, false, false, false, false, false, false, false, false] (by kernel_rfl) rfl rfl ⟨(blk_cell BK236.out 0).trans rfl, (blk_cell BK236.out 1).trans rfl, (blk_cell BK230.out 0).trans rfl, (blk_cell BK230.out 1).trans rfl, ((HB.out.cell (World.block_lt_of_cell? w _ hw237_0)).trans hw237_0), ((HB.out.cell (World.block_lt_of_cell? w _ hw237_1)).trans hw237_1), ((HB.out.cell (World.block_lt_of_cell? w _ hw238_0)).trans hw238_0), ((HB.out.cell (World.block_lt_of_cell? w _ hw238_1)).trans hw238_1), ((HB.out.cell (World.block_lt_of_cell? w _ hw239_0)).trans hw239_0), ((HB.out.cell (World.block_lt_of_cell? w _ hw239_1)).trans hw239_1)⟩ (fun hHeld => ?_); refine with_tabW spec_GraphOk.tab6 spec_GraphOk.bits6 (fun HT_ HW_ => ?_)
            generalize w23.drew = w24 at BK230 BK236 HB hx237_0 hx237_1 hx238_0 hx238_1 hx239_0 hx239_1 hHeld ⊢
            refine pureT_ 0 16 HT_ ?_
            refine pureT_ 1 17 HT_ ?_
            refine pureT_ 2 18 HT_ ?_
            refine pureT_ 3 19 HT_ ?_
            refine pureT_ 5 21 HT_ ?_
            refine pureT_ 7 23 HT_ ?_
            refine pureT_ 8 24 HT_ ?_
            refine takeT_ 4 20 HT_ HW_ hHeld rfl (by rintro w' ⟨s0, s1, s2, s3, s4, s5, s6, s7, s8, s9⟩; go_simp; with_reducible rfl) ?_
            refine takeT_ 6 22 HT_ HW_ hHeld rfl (by rintro w' ⟨s0, s1, s2, s3, s4, s5, s6, s7, s8, s9⟩; go_simp; with_reducible rfl) ?_
            refine pureT_ 9 25 HT_ ?_
            refine pureT_ 10 26 HT_ ?_
            refine takeT_ 11 27 HT_ HW_ hHeld rfl (by rintro w' ⟨s0, s1, s2, s3, s4, s5, s6, s7, s8, s9⟩; go_simp; with_reducible rfl) ?_
            refine pureT_ 12 28 HT_ ?_
            refine pureT_ 13 29 HT_ ?_
            refine pureT_ 14 30 HT_ ?_
            refine pureT_ 16 32 HT_ ?_
            refine pureT_ 18 34 HT_ ?_
            refine pureT_ 19 35 HT_ ?_
            refine takeT_ 15 31 HT_ HW_ hHeld rfl (by rintro w' ⟨s0, s1, s2, s3, s4, s5, s6, s7, s8, s9⟩; go_simp; with_reducible rfl) ?_
            refine takeT_ 17 33 HT_ HW_ hHeld rfl (by rintro w' ⟨s0, s1, s2, s3, s4, s5, s6, s7, s8, s9⟩; go_simp; with_reducible rfl) ?_
            refine pureT_ 20 36 HT_ ?_
            refine pureT_ 21 37 HT_ ?_
            refine takeT_ 22 38 HT_ HW_ hHeld rfl (by rintro w' ⟨s0, s1, s2, s3, s4, s5, s6, s7, s8, s9⟩; go_simp; with_reducible rfl) ?_
            refine pureT_ 23 39 HT_ ?_
            refine pureT_ 24 40 HT_ ?_
            refine pureT_ 25 41 HT_ ?_
            refine pureT_ 27 43 HT_ ?_
            refine pureT_ 29 45 HT_ ?_
            refine pureT_ 30 46 HT_ ?_
            refine takeT_ 26 42 HT_ HW_ hHeld rfl (by rintro w' ⟨s0, s1, s2, s3, s4, s5, s6, s7, s8, s9⟩; go_simp; with_reducible rfl) ?_
            refine takeT_ 28 44 HT_ HW_ hHeld rfl (by rintro w' ⟨s0, s1, s2, s3, s4, s5, s6, s7, s8, s9⟩; go_simp; with_reducible rfl) ?_
            refine pureT_ 31 47 HT_ ?_
            refine pureT_ 32 48 HT_ ?_
            refine takeT_ 33 49 HT_ HW_ hHeld rfl (by rintro w' ⟨s0, s1, s2, s3, s4, s5, s6, s7, s8, s9⟩; go_simp; with_reducible rfl) ?_
            refine pureT_ 34 50 HT_ ?_
            refine pureT_ 35 51 HT_ ?_
            refine pureT_ 36 52 HT_ ?_
            refine pureT_ 37 53 HT_ ?_
            refine done_ (done_of HT_.out (by kernel_rfl)) ?_
            try go_wp2
            go_meet
            case rel => exact ⟨_, (decide (((rd_T68 l0_1 x11_1).f1) < ((rd_T68 l0_1 (ji16)).f1))), (by first | rfl | (simp; done) | (simp only [← hji16] <;> (first | rfl | simp)) | (simp [*]; done)), H', ⟨by have := HK1.out; first | omega | exact Nat.le_refl _⟩, ⟨by exact Bz BK230⟩, ⟨by exact Bz BK236⟩, ⟨by exact Lz2 HB GE230 GE236⟩⟩
           rw [if_neg c22] at H
           have c22b0 : (((rd_T68 l0_1 x11_1).f0) == ((rd_T68 l0_1 (ji16)).f0)) = false := beq_eq_false_iff_ne.mpr c22
           have c22b1 : (((rd_T68 l0_1 x11_1).f0) != ((rd_T68 l0_1 (ji16)).f0)) = true := bne_iff_ne.mpr c22
           have H' := Aside0.mk H
           clear H
           try go_wp2
           have n0_ : Aside0 (((w12.setCell ⟨gb236, 0, none⟩ (.int .i64 ((rd_T68 l0_1 x11_1).f0))).setCell ⟨gb236, 1, none⟩ (.int .i64 ((rd_T68 l0_1 x11_1).f1))).heap[gb230]? = some (.cells #[.int .i64 a0_0, .slice (some ad235) l0_1.length c0_1] 37 (0, 0))) := ⟨by (with_reducible repeat (first | refine blk_drewN ?_ _ | refine blk_drew ?_ | refine blk_alloc ?_ _)); refine blk_far ?_ NB230_236.out _; (with_reducible repeat (first | refine blk_drewN ?_ _ | refine blk_drew ?_ | refine blk_alloc ?_ _)); refine blk_far ?_ NB230_236.out _; exact Bz BK230⟩
           have n1_ : Aside0 (((w12.setCell ⟨gb236, 0, none⟩ (.int .i64 ((rd_T68 l0_1 x11_1).f0))).setCell ⟨gb236, 1, none⟩ (.int .i64 ((rd_T68 l0_1 x11_1).f1))).heap[gb236]? = some (.cells #[.int .i64 ((rd_T68 l0_1 x11_1).f0), .int .i64 ((rd_T68 l0_1 x11_1).f1)] 68 (0, 0))) := ⟨by (with_reducible repeat (first | refine blk_drewN ?_ _ | refine blk_drew ?_ | refine blk_alloc ?_ _)); refine blk_put (cs := #[.int .i64 ((rd_T68 l0_1 x11_1).f0), .int .i64 0]) ?_ 1 _ rfl; (with_reducible repeat (first | refine blk_drewN ?_ _ | refine blk_drew ?_ | refine blk_alloc ?_ _)); refine blk_put (cs := #[.int .i64 0, .int .i64 0]) ?_ 0 _ rfl; exact Bz BK236⟩
           have n2_ : Aside0 (Below w.heap.size w ((w12.setCell ⟨gb236, 0, none⟩ (.int .i64 ((rd_T68 l0_1 x11_1).f0))).setCell ⟨gb236, 1, none⟩ (.int .i64 ((rd_T68 l0_1 x11_1).f1)))) := ⟨by exact Lz2 HB GE230 GE236⟩
           (try clear BK230)
           (try clear BK236)
           (try clear HB)
           generalize ((w12.setCell ⟨gb236, 0, none⟩ (.int .i64 ((rd_T68 l0_1 x11_1).f0))).setCell ⟨gb236, 1, none⟩ (.int .i64 ((rd_T68 l0_1 x11_1).f1))) = w25 at n0_ n1_ n2_ ⊢
           have BK230 := n0_
           have BK236 := n1_
           have HB := n2_
           clear n0_ n1_ n2_
           replace BK230 := Aside0.mk (blk_drew BK230.out)
           replace BK236 := Aside0.mk (blk_drew BK236.out)
           replace HB := Aside0.mk (below_drew1 HB.out)
           have p237 : 0 ≤ ((ji16) : Int) := of_decide_eq_true (by first | (with_reducible assumption) | assumption)
           have q237 : (ji16) < (l0_1.length : Int) := of_decide_eq_true (by first | (with_reducible assumption) | assumption)
           obtain ⟨ad237, e237, hx237_0, hx237_1⟩ := at_T68 HR0_1.out (ji16) p237 q237
           have hw237_1 := hx237_1
           have hw237_0 := hx237_0
           obtain rfl : ad235 = ad237 := (by injection e237)
           replace hx237_0 := (HB.out.cell (World.block_lt_of_cell? w _ hx237_0)).trans hx237_0
           replace hx237_1 := (HB.out.cell (World.block_lt_of_cell? w _ hx237_1)).trans hx237_1
           replace p237 := eq_true p237
           replace q237 := eq_true q237
           have p238 : 0 ≤ ((ji16) : Int) := of_decide_eq_true (by first | (with_reducible assumption) | assumption)
           have q238 : (ji16) < (l0_1.length : Int) := of_decide_eq_true (by first | (with_reducible assumption) | assumption)
           obtain ⟨ad238, e238, hx238_0, hx238_1⟩ := at_T68 HR0_1.out (ji16) p238 q238
           have hw238_1 := hx238_1
           have hw238_0 := hx238_0
           obtain rfl : ad235 = ad238 := (by injection e238)
           replace hx238_0 := (HB.out.cell (World.block_lt_of_cell? w _ hx238_0)).trans hx238_0
           replace hx238_1 := (HB.out.cell (World.block_lt_of_cell? w _ hx238_1)).trans hx238_1
           replace p238 := eq_true p238
           replace q238 := eq_true q238
           refine start_ (n := 38) (S := fun w' => w'.cell? ⟨gb236, 0, none⟩ = some (.int .i64 ((rd_T68 l0_1 x11_1).f0)) ∧ w'.cell? ⟨gb236, 1, none⟩ = some (.int .i64 ((rd_T68 l0_1 x11_1).f1)) ∧ w'.cell? ⟨gb230, 0, none⟩ = some (.int .i64 a0_0) ∧ w'.cell? ⟨gb230, 1, none⟩ = some (.slice (some ad235) l0_1.length c0_1) ∧ w'.cell? (ad235.add (((ji16)).toNat * 2)) = some (.int .i64 ((rd_T68 l0_1 (ji16)).f0)) ∧ w'.cell? ⟨(ad235.add (((ji16)).toNat * 2)).block, (ad235.add (((ji16)).toNat * 2)).off + 1, none⟩ = some (.int .i64 ((rd_T68 l0_1 (ji16)).f1)) ∧ w'.cell? (ad235.add (((ji16)).toNat * 2)) = some (.int .i64 ((rd_T68 l0_1 (ji16)).f0)) ∧ w'.cell? ⟨(ad235.add (((ji16)).toNat * 2)).block, (ad235.add (((ji16)).toNat * 2)).off + 1, none⟩ = some (.int .i64 ((rd_T68 l0_1 (ji16)).f1))) (ds := []) #[false, false, false, false, false, false, false, false, false, false, false, false, false, false, false, false, false, false, false, false, false, false, false, false, false, false, false, false, false, false, false, false, false, false, false, false, false, false] (by kernel_rfl) rfl rfl ⟨(blk_cell BK236.out 0).trans rfl, (blk_cell BK236.out 1).trans rfl, (blk_cell BK230.out 0).trans rfl, (blk_cell BK230.out 1).trans rfl, ((HB.out.cell (World.block_lt_of_cell? w _ hw237_0)).trans hw237_0), ((HB.out.cell (World.block_lt_of_cell? w _ hw237_1)).trans hw237_1), ((HB.out.cell (World.block_lt_of_cell? w _ hw238_0)).trans hw238_0), ((HB.out.cell (World.block_lt_of_cell? w _ hw238_1)).trans hw238_1)⟩ (fun hHeld => ?_); refine with_tabW spec_GraphOk.tab6 spec_GraphOk.bits6 (fun HT_ HW_ => ?_)
           generalize w25.drew = w26 at BK230 BK236 HB hx237_0 hx237_1 hx238_0 hx238_1 hHeld ⊢
           refine pureT_ 0 16 HT_ ?_
           refine pureT_ 1 17 HT_ ?_
           refine pureT_ 2 18 HT_ ?_
           refine pureT_ 3 19 HT_ ?_
           refine pureT_ 5 21 HT_ ?_
           refine pureT_ 7 23 HT_ ?_
           refine pureT_ 8 24 HT_ ?_
           refine takeT_ 4 20 HT_ HW_ hHeld rfl (by rintro w' ⟨s0, s1, s2, s3, s4, s5, s6, s7⟩; go_simp; with_reducible rfl) ?_
           refine takeT_ 6 22 HT_ HW_ hHeld rfl (by rintro w' ⟨s0, s1, s2, s3, s4, s5, s6, s7⟩; go_simp; with_reducible rfl) ?_
           refine pureT_ 9 25 HT_ ?_
           refine pureT_ 10 26 HT_ ?_
           refine takeT_ 11 27 HT_ HW_ hHeld rfl (by rintro w' ⟨s0, s1, s2, s3, s4, s5, s6, s7⟩; go_simp; with_reducible rfl) ?_
           refine pureT_ 12 28 HT_ ?_
           refine pureT_ 13 29 HT_ ?_
           refine pureT_ 14 30 HT_ ?_
           refine pureT_ 16 32 HT_ ?_
           refine pureT_ 18 34 HT_ ?_
           refine pureT_ 19 35 HT_ ?_
           refine takeT_ 15 31 HT_ HW_ hHeld rfl (by rintro w' ⟨s0, s1, s2, s3, s4, s5, s6, s7⟩; go_simp; with_reducible rfl) ?_
           refine takeT_ 17 33 HT_ HW_ hHeld rfl (by rintro w' ⟨s0, s1, s2, s3, s4, s5, s6, s7⟩; go_simp; with_reducible rfl) ?_
           refine pureT_ 20 36 HT_ ?_
           refine pureT_ 21 37 HT_ ?_
           refine takeT_ 22 38 HT_ HW_ hHeld rfl (by rintro w' ⟨s0, s1, s2, s3, s4, s5, s6, s7⟩; go_simp; with_reducible rfl) ?_
           refine pureT_ 23 39 HT_ ?_
           refine pureT_ 24 40 HT_ ?_
           refine pureU_ 25 41 HT_ ?_
           refine pureU_ 26 42 HT_ ?_
           refine pureU_ 27 43 HT_ ?_
           refine pureU_ 28 44 HT_ ?_
           refine pureU_ 29 45 HT_ ?_
           refine pureU_ 30 46 HT_ ?_
           refine pureU_ 31 47 HT_ ?_
           refine pureU_ 32 48 HT_ ?_
           refine pureU_ 33 49 HT_ ?_
           refine pureU_ 34 50 HT_ ?_
           refine pureT_ 35 51 HT_ ?_
           refine pureT_ 36 52 HT_ ?_
           refine pureT_ 37 53 HT_ ?_
           refine done_ (done_of HT_.out (by kernel_rfl)) ?_
           try go_wp2
           go_meet
           case rel => exact ⟨_, (false), (by first | rfl | (simp; done) | (simp [*]; done)), H', ⟨by have := HK1.out; first | omega | exact Nat.le_refl _⟩, ⟨by exact Bz BK230⟩, ⟨by exact Bz BK236⟩, ⟨by exact Lz2 HB GE230 GE236⟩⟩
          rw [if_neg c18] at H
          exact absurd H (by simp)
         rw [if_neg c17] at H
         exact absurd H (by simp)
        rw [if_neg c15] at H
        have c15b0 : decide (0 < x11_1) = false := decide_eq_false c15
        clear c15
        (first | rw [c15b0] | (simp only [i64_w, i32_w]; rw [c15b0]) | skip)
        have H' := Aside0.mk H
        clear H
        try go_wp2
        have n0_ : Aside0 (((w12.setCell ⟨gb236, 0, none⟩ (.int .i64 ((rd_T68 l0_1 x11_1).f0))).setCell ⟨gb236, 1, none⟩ (.int .i64 ((rd_T68 l0_1 x11_1).f1))).heap[gb230]? = some (.cells #[.int .i64 a0_0, .slice (some ad235) l0_1.length c0_1] 37 (0, 0))) := ⟨by (with_reducible repeat (first | refine blk_drewN ?_ _ | refine blk_drew ?_ | refine blk_alloc ?_ _)); refine blk_far ?_ NB230_236.out _; (with_reducible repeat (first | refine blk_drewN ?_ _ | refine blk_drew ?_ | refine blk_alloc ?_ _)); refine blk_far ?_ NB230_236.out _; exact Bz BK230⟩
        have n1_ : Aside0 (((w12.setCell ⟨gb236, 0, none⟩ (.int .i64 ((rd_T68 l0_1 x11_1).f0))).setCell ⟨gb236, 1, none⟩ (.int .i64 ((rd_T68 l0_1 x11_1).f1))).heap[gb236]? = some (.cells #[.int .i64 ((rd_T68 l0_1 x11_1).f0), .int .i64 ((rd_T68 l0_1 x11_1).f1)] 68 (0, 0))) := ⟨by (with_reducible repeat (first | refine blk_drewN ?_ _ | refine blk_drew ?_ | refine blk_alloc ?_ _)); refine blk_put (cs := #[.int .i64 ((rd_T68 l0_1 x11_1).f0), .int .i64 0]) ?_ 1 _ rfl; (with_reducible repeat (first | refine blk_drewN ?_ _ | refine blk_drew ?_ | refine blk_alloc ?_ _)); refine blk_put (cs := #[.int .i64 0, .int .i64 0]) ?_ 0 _ rfl; exact Bz BK236⟩
        have n2_ : Aside0 (Below w.heap.size w ((w12.setCell ⟨gb236, 0, none⟩ (.int .i64 ((rd_T68 l0_1 x11_1).f0))).setCell ⟨gb236, 1, none⟩ (.int .i64 ((rd_T68 l0_1 x11_1).f1)))) := ⟨by exact Lz2 HB GE230 GE236⟩
        (try clear BK230)
        (try clear BK236)
        (try clear HB)
        generalize ((w12.setCell ⟨gb236, 0, none⟩ (.int .i64 ((rd_T68 l0_1 x11_1).f0))).setCell ⟨gb236, 1, none⟩ (.int .i64 ((rd_T68 l0_1 x11_1).f1))) = w27 at n0_ n1_ n2_ ⊢
        have BK230 := n0_
        have BK236 := n1_
        have HB := n2_
        clear n0_ n1_ n2_
        replace BK230 := Aside0.mk (blk_drew BK230.out)
        replace BK236 := Aside0.mk (blk_drew BK236.out)
        replace HB := Aside0.mk (below_drew1 HB.out)
        refine start_ (n := 38) (S := fun w' => True) (ds := []) #[false, false, false, false, false, false, false, false, false, false, false, false, false, false, false, false, false, false, false, false, false, false, false, false, false, false, false, false, false, false, false, false, false, false, false, false, false, false] (by kernel_rfl) rfl rfl trivial (fun hHeld => ?_); refine with_tabW spec_GraphOk.tab6 spec_GraphOk.bits6 (fun HT_ HW_ => ?_)
        generalize w27.drew = w28 at BK230 BK236 HB hHeld ⊢
        refine pureT_ 0 16 HT_ ?_
        refine pureT_ 1 17 HT_ ?_
        refine pureT_ 2 18 HT_ ?_
        refine pureU_ 3 19 HT_ ?_
        refine pureU_ 4 20 HT_ ?_
        refine pureU_ 5 21 HT_ ?_
        refine pureU_ 6 22 HT_ ?_
        refine pureU_ 7 23 HT_ ?_
        refine pureU_ 8 24 HT_ ?_
        refine pureU_ 9 25 HT_ ?_
        refine pureU_ 10 26 HT_ ?_
        refine pureU_ 11 27 HT_ ?_
        refine pureU_ 12 28 HT_ ?_
        refine pureU_ 13 29 HT_ ?_
        refine pureU_ 14 30 HT_ ?_
        refine pureU_ 15 31 HT_ ?_
        refine pureU_ 16 32 HT_ ?_
        refine pureU_ 17 33 HT_ ?_
        refine pureU_ 18 34 HT_ ?_
        refine pureU_ 19 35 HT_ ?_
        refine pureU_ 20 36 HT_ ?_
        refine pureU_ 21 37 HT_ ?_
        refine pureU_ 22 38 HT_ ?_
        refine pureU_ 23 39 HT_ ?_
        refine pureU_ 24 40 HT_ ?_
        refine pureU_ 25 41 HT_ ?_
        refine pureU_ 26 42 HT_ ?_
        refine pureU_ 27 43 HT_ ?_
        refine pureU_ 28 44 HT_ ?_
        refine pureU_ 29 45 HT_ ?_
        refine pureU_ 30 46 HT_ ?_
        refine pureU_ 31 47 HT_ ?_
        refine pureU_ 32 48 HT_ ?_
        refine pureU_ 33 49 HT_ ?_
        refine pureU_ 34 50 HT_ ?_
        refine pureU_ 35 51 HT_ ?_
        refine pureU_ 36 52 HT_ ?_
        refine pureT_ 37 53 HT_ ?_
        refine done_ (done_of HT_.out (by kernel_rfl)) ?_
        try go_wp2
        go_meet
        case rel => exact ⟨_, (false), (by first | rfl | (simp; done) | (simp [*]; done)), H', ⟨by have := HK1.out; first | omega | exact Nat.le_refl _⟩, ⟨by exact Bz BK230⟩, ⟨by exact Bz BK236⟩, ⟨by exact Lz2 HB GE230 GE236⟩⟩
       case rest =>
        clear HC11
        try clear c15
        try clear c15b0
        try clear c17
        try clear c18
        try clear c22
        try clear c22b0
        try clear c22b1
        try clear p237
        try clear p238
        try clear q237
        try clear q238
        obtain ⟨kq, x53_10, rfl, HA, HJ10, BK230, BK236, HB⟩ := hcut
        cases kq with
        | zero => exact absurd HA.out (by simp [spec_GraphOk.j1])
        | succ kj10 =>
         have H := HA.out
         clear HA
         simp only [spec_GraphOk.j1] at H
         by_cases c29 : x53_10 = true
         ·subst c29
          have H1 : (some false) = some r := by rw [if_pos rfl] at H; exact H
          clear H
          have H := H1
          clear H1
          obtain rfl := Option.some.inj H
          go_wp2
          go_ret
          exact ⟨by first | rfl | (simp [errW_none, errW_some] <;> rfl) | (simp [*, errW_none, errW_some] <;> rfl), by exact Lz2 HB GE230 GE236⟩
         replace c29 := Bool.eq_false_iff.mpr c29
         subst c29
         have H1 : (spec_GraphOk.l0 kj10 l0_1 (l0_1.length : Int) (wrap64 (x11_1 + 1)) a0_0 l0_1) = some r := by rw [if_neg (show ¬ (false = true) by decide)] at H; exact H
         clear H
         have H := H1
         clear H1
         have H' := Aside0.mk H
         clear H
         go_wp2
         go_roundg kj10
         case measure => have := HK1.out; have := HJ10.out; omega
         case rel => exact ⟨(wrap64 (x11_1 + 1)), (by first | rfl | (simp; done) | (simp [*]; done)), H', ⟨by have := HK1.out; have := HJ10.out; omega⟩, ⟨by exact Bz BK230⟩, ⟨by exact Lz2 HB GE230 GE236⟩⟩
      rw [if_neg c10] at H
      exact absurd H (by simp)
     rw [if_neg c9] at H
     exact absurd H (by simp)
    rw [if_neg c8] at H
    have c8b0 : decide (x11_1 < (l0_1.length : Int)) = false := decide_eq_false c8
    clear c8
    replace H := Option.bind_eq_some_iff.mp H
    obtain ⟨t232, A300, H⟩ := H
    replace H : (some ((t232.length : Int) == a0_0)) = some r := H
    have A30 := Aside0.mk A300
    clear A300
    obtain rfl := Option.some.inj H
    try go_wp2
    replace BK230 := Aside0.mk (blk_drew BK230.out)
    replace HB := Aside0.mk (below_drew1 HB.out)
    refine start_ (n := 7) (S := fun w' => w'.cell? ⟨gb230, 0, none⟩ = some (.int .i64 a0_0) ∧ w'.cell? ⟨gb230, 1, none⟩ = some (.slice A0_1 l0_1.length c0_1)) (ds := []) #[false, false, false, false, false, false, false] (by kernel_rfl) rfl rfl ⟨(blk_cell BK230.out 0).trans rfl, (blk_cell BK230.out 1).trans rfl⟩ (fun hHeld => ?_)
    generalize wr.drew = w31 at BK230 HB hHeld ⊢
    refine pure_ (i := 3) (N := some 58) (v := ?_) (a' := ?_) #[false, false, false, true, false, false, false] rfl rfl (by kernel_rfl) (fun _ _ _ h => h) (Or.inl ⟨by rfl, ?_⟩) ?_ ?_
    rotate_left
    ·intro w'
     go_simp
     with_reducible rfl
    rotate_left
    ·simp only [Act.put, List.setIfInBounds_toArray, List.set_cons_zero, List.set_cons_succ, i64_w, i32_w]
     rfl
    refine take_ (i := 0) (N := some 55) (v := ?_) (a' := ?_) #[true, false, false, true, false, false, false] rfl rfl (by kernel_rfl) (fun _ _ _ h => h) (Or.inl ⟨by rfl, ?_⟩) hHeld ?_ ?_
    rotate_left
    ·rintro w' ⟨s0, s1⟩
     go_simp
     with_reducible rfl
    rotate_left
    ·simp only [Act.put, List.setIfInBounds_toArray, List.set_cons_zero, List.set_cons_succ, i64_w, i32_w]
     rfl
    refine take_ (i := 4) (N := some 59) (v := ?_) (a' := ?_) #[true, false, false, true, true, false, false] rfl rfl (by kernel_rfl) (fun _ _ _ h => h) (Or.inl ⟨by rfl, ?_⟩) hHeld ?_ ?_
    rotate_left
    ·rintro w' ⟨s0, s1⟩
     go_simp
     with_reducible rfl
    rotate_left
    ·simp only [Act.put, List.setIfInBounds_toArray, List.set_cons_zero, List.set_cons_succ, i64_w, i32_w]
     rfl
    refine one_ (i := 1) (N := some 56) #[true, true, false, true, true, false, false] rfl rfl (by kernel_rfl) (by decide) (fun K hK => ?_)
    refine goes_ Try.func98 (by kernel_rfl) rfl #[.agg #[.int .i64 a0_0, .slice A0_1 l0_1.length c0_1]] (by rfl) rfl rfl (by (try simp only [List.map_toArray, List.map_cons, List.map_nil]); first | done | rfl | (simp only [List.length_drop, List.length_take]; rfl)) ?_
    with_reducible refine (spec_l02Reach.calls k1 a0_0 _ _ l0_1 t232 _ ?side1 ?side2 A30.out).mono ?_
    (case side1 => exact Cz ((Kd.C_below HR0_1.out HB.out)))
    (case side2 => exact HC0_1.out)
    rintro e w32 ⟨v233, rfl, ho0, hb⟩
    refine ⟨_, rfl, ?_⟩
    have HO234 := Aside0.mk (Kd.R_lower ho0 (below_size (by exact Lz1 HB GE230)))
    replace BK230 := Aside0.mk (blk_below (g := gb230) (o := .cells #[.int .i64 a0_0, .slice A0_1 l0_1.length c0_1] 37 (0, 0)) (Bz BK230) hb)
    replace HB := Aside0.mk (below_step (by exact Lz1 HB GE230) hb)
    (try clear hb)
    (try clear hb2)
    (try clear hk)
    (try clear hi)
    (try clear ho0)
    obtain ⟨Ao33, co33, eo33⟩ := Kd.R_slice HO234.out
    (first | subst eo33 | (injection eo33 with f1_ f2_ f3_; have f4_ := f1_.symm; have f5_ := f3_.symm; clear f1_ f2_ f3_; subst f4_; subst f5_))
    refine hK.out _ _ ⟨(blk_cell BK230.out 0).trans rfl, (blk_cell BK230.out 1).trans rfl⟩ (fun hHeld => ?_)
    clear hK K
    refine norm_ (a' := ?_) ?_ ?_
    rotate_left
    ·show Act.put _ (some 56) _ = _
     simp only [Act.put, List.setIfInBounds_toArray, List.set_cons_zero, List.set_cons_succ, i64_w, i32_w]
     rfl
    refine pure_ (i := 2) (N := some 57) (v := ?_) (a' := ?_) #[true, true, true, true, true, false, false] rfl rfl (by kernel_rfl) (fun _ _ _ h => h) (Or.inl ⟨by rfl, ?_⟩) ?_ ?_
    rotate_left
    ·intro w'
     go_simp
     with_reducible rfl
    rotate_left
    ·simp only [Act.put, List.setIfInBounds_toArray, List.set_cons_zero, List.set_cons_succ, i64_w, i32_w]
     rfl
    refine pure_ (i := 5) (N := some 60) (v := ?_) (a' := ?_) #[true, true, true, true, true, true, false] rfl rfl (by kernel_rfl) (fun _ _ _ h => h) (Or.inl ⟨by rfl, ?_⟩) ?_ ?_
    rotate_left
    ·intro w'
     go_simp
     with_reducible rfl
    rotate_left
    ·simp only [Act.put, List.setIfInBounds_toArray, List.set_cons_zero, List.set_cons_succ, i64_w, i32_w]
     rfl
    refine pure_ (i := 6) (N := some 2) (v := ?_) (a' := ?_) #[true, true, true, true, true, true, true] rfl rfl (by kernel_rfl) (fun _ _ _ h => h) (Or.inl ⟨by rfl, ?_⟩) ?_ ?_
    rotate_left
    ·intro w'
     go_simp
     with_reducible rfl
    rotate_left
    ·simp only [Act.put, List.setIfInBounds_toArray, List.set_cons_zero, List.set_cons_succ, i64_w, i32_w]
     rfl
    refine done_ (by kernel_rfl) ?_
    try go_wp2
    go_ret
    exact ⟨by first | rfl | (simp [errW_none, errW_some] <;> rfl) | (simp [*, errW_none, errW_some] <;> rfl), by exact Lz1 HB GE230⟩
 replace c3 := Bool.eq_false_iff.mpr c3
 subst c3
 have H1 : (some false) = some r := by rw [if_neg (show ¬ (false = true) by decide)] at H; exact H
 clear H
 have H := H1
 clear H1
 obtain rfl := Option.some.inj H
 go_enter Try.func63, Try.ntmps63
 go_wp2_with (first | ((with_reducible refine gate_dst (N := 1) rfl ?_); refine box_event ?hg (N := 1) ?hd (cs := #[.int .i64 a0_0, .slice A0_1 l0_1.length c0_1]) (t := 37) ?hr ?_; (case hd => rfl); (case hg => rfl); (case hr => first | (go_simp; done) | (go_simp; rfl)); intro gb230 hg w34 hbox hb; have BK230 := Aside0.mk (hbox); have GW230 := Aside0.mk ((by rw [hg]; exact (below_size (Lz HB)) : w.heap.size ≤ gb230)); have GE230 := Aside0.mk ((by rw [hg]; exact (below_size (Lz HB)) : w.heap.size ≤ gb230)); replace HB := Aside0.mk (below_step (Lz HB) hb); clear hb hbox hg; have hcz35_0 : w34.cell? ⟨gb230, 0, none⟩ = some (.int .i64 a0_0) := (blk_cell BK230.out 0).trans rfl; have hcz35_1 : w34.cell? ⟨gb230, 1, none⟩ = some (.slice A0_1 l0_1.length c0_1) := (blk_cell BK230.out 1).trans rfl; have hfz35_0 := blk_frozen BK230.out 0; have hfz35_1 := blk_frozen BK230.out 1) | ((with_reducible refine gate_callee (f := 97) rfl ?_); refine goesM_ (some 6) rfl rfl Try.func97 (by kernel_rfl) rfl #[.agg #[.int .i64 a0_0, .slice A0_1 l0_1.length c0_1]] rfl ?_; (with_reducible refine (spec_EdgesOk.calls k a0_0 _ _ l0_1 false _ ?side1 ?side2 A2.out).mono ?_); (case side1 => exact Cz ((Kd.C_below HR0_1.out HB.out))); (case side2 => exact HC0_1.out); rintro e w36 ⟨rfl, hb⟩; refine ⟨_, rfl, ?_⟩; replace BK230 := Aside0.mk (blk_below (g := gb230) (o := .cells #[.int .i64 a0_0, .slice A0_1 l0_1.length c0_1] 37 (0, 0)) (Bz BK230) hb); replace HB := Aside0.mk (below_step (by exact Lz1 HB GE230) hb); (try clear hb); (try clear hb2); (try clear hk); (try clear hi)))
 go_ret
 exact ⟨by first | rfl | (simp [errW_none, errW_some] <;> rfl) | (simp [*, errW_none, errW_some] <;> rfl), by exact Lz1 HB GE230⟩

/-! ### spec_DivisorOk: function 78 -/
mutual
def spec_DivisorOk.j0 : Nat → List Int → Bool → Option (Bool)
 | 0, _, _ => none
 | k + 1, x1, x16 => if x16 = true then (some false) else (spec_DivisorOk.l0 k x1 (x1.length : Int) 0)
def spec_DivisorOk.l0 : Nat → List Int → Int → Int → Option (Bool)
 | 0, _, _, _ => none
 | k + 1, x17, x18, x19 => if x19 < x18 then (if 0 ≤ x19 then (if x19 < (x17.length : Int) then ((spec_l01In.f (rd x17 x19) (-60) 60).bind fun t476 => (if t476 = true then (spec_DivisorOk.l0 k x17 x18 (wrap64 (x19 + 1))) else (some false))) else (none)) else (none)) else (some true)
end
def spec_DivisorOk.f (k : Nat) (a0_0 : Int) (l0_1 : List (S68)) (l1 : List Int) : Option (Bool) := (spec_GraphOk.f k a0_0 l0_1).bind fun t474 => (if t474 = true then (spec_DivisorOk.j0 k l1 ((l1.length : Int) != a0_0)) else (spec_DivisorOk.j0 k l1 true))
set_option maxHeartbeats 8000000 in
set_option maxRecDepth 100000 in
theorem spec_DivisorOk.calls (k : Nat) (a0_0 : Int) (A0_1 : Option Addr) (c0_1 : Nat) (l0_1 : List (S68)) (A1 : Option Addr) (c1 : Nat) (l1 : List Int) (r : Bool) (w : World) (hr0_1 : Kd.C k68 w A0_1 l0_1.length l0_1) (hc0_1 : l0_1.length ≤ c0_1) (hr1 : Kd.C (Kd.int .i64) w A1 l1.length l1) (hc1 : l1.length ≤ c1) (h : spec_DivisorOk.f k a0_0 l0_1 l1 = some r) :
  Calls Try.prog 78 #[.agg #[.int .i64 a0_0, .slice A0_1 l0_1.length c0_1], .slice A1 l1.length c1] w fun e w' => e = .returned (.bool r) ∧ Below w.heap.size w w' := by
 have hu37 := Try.underlying37
 have HR0_1 := Aside0.mk hr0_1
 have HC0_1 := Aside0.mk hc0_1
 clear hr0_1 hc0_1
 have HR1 := Aside0.mk hr1
 have HC1 := Aside0.mk hc1
 clear hr1 hc1
 have HB := Aside0.mk (Below.refl w.heap.size w)
 have H : ((spec_GraphOk.f k a0_0 l0_1).bind fun t474 => (if t474 = true then (spec_DivisorOk.j0 k l1 ((l1.length : Int) != a0_0)) else (spec_DivisorOk.j0 k l1 true))) = some r := h
 clear h
 have HC3 := Aside0.mk H
 clear H
 go_enter Try.func78, Try.ntmps78
 go_upto_region 1 with (first | ((with_reducible refine gate_dst (N := 2) rfl ?_); (try (refine gate_guard (by rfl) ?_; dsimp only)); refine box_event ?hg (N := 2) ?hd (cs := #[.int .i64 a0_0, .slice A0_1 l0_1.length c0_1]) (t := 37) ?hr ?_; (case hd => rfl); (case hg => rfl); (case hr => first | (go_simp; done) | (go_simp; rfl)); intro gb473 hg w4 hbox hb; have BK473 := Aside0.mk (hbox); have GW473 := Aside0.mk ((by rw [hg]; exact (below_size (Lz HB)) : w.heap.size ≤ gb473)); have GE473 := Aside0.mk ((by rw [hg]; exact (below_size (Lz HB)) : w.heap.size ≤ gb473)); replace HB := Aside0.mk (below_step (Lz HB) hb); clear hb hbox hg))
 (try simp only [Act.put, List.setIfInBounds_toArray, List.set_cons_zero, List.set_cons_succ])
 go_cut [16] (fun v16 wc => ∃ (kq : Nat) (x16_2 : Bool), v16 = .bool x16_2 ∧ Aside0 (spec_DivisorOk.j0 kq l1 x16_2 = some r) ∧ Aside0 (kq ≤ k) ∧ Aside0 (wc.heap[gb473]? = some (.cells #[.int .i64 a0_0, (.slice A0_1 l0_1.length c0_1)] 37 (0, 0))) ∧ Aside0 (Below w.heap.size w wc))
 case first =>
  have H := HC3.out
  clear HC3
  replace H := Option.bind_eq_some_iff.mp H
  obtain ⟨t474, A50, H⟩ := H
  replace H : (if t474 = true then (spec_DivisorOk.j0 k l1 ((l1.length : Int) != a0_0)) else (spec_DivisorOk.j0 k l1 true)) = some r := H
  have A5 := Aside0.mk A50
  clear A50
  by_cases c6 : t474 = true
  ·subst c6
   have H1 : (spec_DivisorOk.j0 k l1 ((l1.length : Int) != a0_0)) = some r := by rw [if_pos rfl] at H; exact H
   clear H
   have H := H1
   clear H1
   have H' := Aside0.mk H
   clear H
   have hcz7_0 : w4.cell? ⟨gb473, 0, none⟩ = some (.int .i64 a0_0) := (blk_cell BK473.out 0).trans rfl
   have hcz7_1 : w4.cell? ⟨gb473, 1, none⟩ = some (.slice A0_1 l0_1.length c0_1) := (blk_cell BK473.out 1).trans rfl
   have hfz7_0 := blk_frozen BK473.out 0
   have hfz7_1 := blk_frozen BK473.out 1
   go_wp2_with (first | ((with_reducible refine gate_callee (f := 63) rfl ?_); refine goesM_ (some 8) rfl rfl Try.func63 (by kernel_rfl) rfl #[.agg #[.int .i64 a0_0, .slice A0_1 l0_1.length c0_1]] rfl ?_; (with_reducible refine (spec_GraphOk.calls k a0_0 _ _ l0_1 true _ ?side1 ?side2 A5.out).mono ?_); (case side1 => exact Cz ((Kd.C_below HR0_1.out HB.out))); (case side2 => exact HC0_1.out); rintro e w8 ⟨rfl, hb⟩; refine ⟨_, rfl, ?_⟩; replace BK473 := Aside0.mk (blk_below (g := gb473) (o := .cells #[.int .i64 a0_0, .slice A0_1 l0_1.length c0_1] 37 (0, 0)) (Bz BK473) hb); replace HB := Aside0.mk (below_step (by exact Lz1 HB GE473) hb); (try clear hb); (try clear hb2); (try clear hk); (try clear hi); have hcz9_0 : w8.cell? ⟨gb473, 0, none⟩ = some (.int .i64 a0_0) := (blk_cell BK473.out 0).trans rfl; have hcz9_1 : w8.cell? ⟨gb473, 1, none⟩ = some (.slice A0_1 l0_1.length c0_1) := (blk_cell BK473.out 1).trans rfl; have hfz9_0 := blk_frozen BK473.out 0; have hfz9_1 := blk_frozen BK473.out 1))
   go_meet
   case rel => exact ⟨_, (((l1.length : Int) != a0_0)), (by first | rfl | (simp; done) | (simp [*]; done)), H', ⟨by first | omega | exact Nat.le_refl _⟩, ⟨by exact Bz BK473⟩, ⟨by exact Lz1 HB GE473⟩⟩
  replace c6 := Bool.eq_false_iff.mpr c6
  subst c6
  have H1 : (spec_DivisorOk.j0 k l1 true) = some r := by rw [if_neg (show ¬ (false = true) by decide)] at H; exact H
  clear H
  have H := H1
  clear H1
  have H' := Aside0.mk H
  clear H
  have hcz10_0 : w4.cell? ⟨gb473, 0, none⟩ = some (.int .i64 a0_0) := (blk_cell BK473.out 0).trans rfl
  have hcz10_1 : w4.cell? ⟨gb473, 1, none⟩ = some (.slice A0_1 l0_1.length c0_1) := (blk_cell BK473.out 1).trans rfl
  have hfz10_0 := blk_frozen BK473.out 0
  have hfz10_1 := blk_frozen BK473.out 1
  go_wp2_with (first | ((with_reducible refine gate_callee (f := 63) rfl ?_); refine goesM_ (some 8) rfl rfl Try.func63 (by kernel_rfl) rfl #[.agg #[.int .i64 a0_0, .slice A0_1 l0_1.length c0_1]] rfl ?_; (with_reducible refine (spec_GraphOk.calls k a0_0 _ _ l0_1 false _ ?side1 ?side2 A5.out).mono ?_); (case side1 => exact Cz ((Kd.C_below HR0_1.out HB.out))); (case side2 => exact HC0_1.out); rintro e w11 ⟨rfl, hb⟩; refine ⟨_, rfl, ?_⟩; replace BK473 := Aside0.mk (blk_below (g := gb473) (o := .cells #[.int .i64 a0_0, .slice A0_1 l0_1.length c0_1] 37 (0, 0)) (Bz BK473) hb); replace HB := Aside0.mk (below_step (by exact Lz1 HB GE473) hb); (try clear hb); (try clear hb2); (try clear hk); (try clear hi)))
  go_meet
  case rel => exact ⟨_, (true), (by first | rfl | (simp; done) | (simp [*]; done)), H', ⟨by first | omega | exact Nat.le_refl _⟩, ⟨by exact Bz BK473⟩, ⟨by exact Lz1 HB GE473⟩⟩
 case rest =>
  clear HC3
  try clear c1
  try clear c6
  obtain ⟨kq, x16_2, rfl, HA, HJ2, BK473, HB⟩ := hcut
  cases kq with
  | zero => exact absurd HA.out (by simp [spec_DivisorOk.j0])
  | succ kj2 =>
   have H := HA.out
   clear HA
   simp only [spec_DivisorOk.j0] at H
   by_cases c12 : x16_2 = true
   ·subst c12
    have H1 : (some false) = some r := by rw [if_pos rfl] at H; exact H
    clear H
    have H := H1
    clear H1
    obtain rfl := Option.some.inj H
    go_wp2
    go_ret
    exact ⟨by first | rfl | (simp [errW_none, errW_some] <;> rfl) | (simp [*, errW_none, errW_some] <;> rfl), by exact Lz1 HB GE473⟩
   replace c12 := Bool.eq_false_iff.mpr c12
   subst c12
   have H1 : (spec_DivisorOk.l0 kj2 l1 (l1.length : Int) 0) = some r := by rw [if_neg (show ¬ (false = true) by decide)] at H; exact H
   clear H
   have H := H1
   clear H1
   have H' := Aside0.mk H
   clear H
   go_wp2
   go_loopg [19] kj2 (fun kq v19 w' => ∃ (x19_2 : Int), v19 = .int .i64 x19_2 ∧ Aside0 (spec_DivisorOk.l0 kq l1 (l1.length : Int) x19_2 = some r) ∧ Aside0 (kq ≤ kj2) ∧ Aside0 (w'.heap[gb473]? = some (.cells #[.int .i64 a0_0, (.slice A0_1 l0_1.length c0_1)] 37 (0, 0))) ∧ Aside0 (Below w.heap.size w w'))
   case atStart => exact ⟨(0), (by first | rfl | (simp; done) | (simp [*]; done)), H', ⟨Nat.le_refl _⟩, ⟨by exact Bz BK473⟩, ⟨by exact Lz1 HB GE473⟩⟩
   case round =>
    clear H'
    try clear c1
    try clear c6
    try clear c12
    obtain ⟨x19_2, rfl, HA, HK2, BK473, HB⟩ := hrel
    cases gk with
    | zero => exact absurd HA.out (by simp [spec_DivisorOk.l0])
    | succ k2 =>
     have H := HA.out
     clear HA
     simp only [spec_DivisorOk.l0] at H
     by_cases c13 : x19_2 < (l1.length : Int)
     ·rw [if_pos c13] at H
      have c13b0 : decide (x19_2 < (l1.length : Int)) = true := decide_eq_true c13
      clear c13
      by_cases c14 : 0 ≤ x19_2
      ·rw [if_pos c14] at H
       have c14b0 : decide (0 ≤ x19_2) = true := decide_eq_true c14
       clear c14
       by_cases c15 : x19_2 < (l1.length : Int)
       ·rw [if_pos c15] at H
        have c15b0 : decide (x19_2 < (l1.length : Int)) = true := decide_eq_true c15
        clear c15
        replace H := Option.bind_eq_some_iff.mp H
        obtain ⟨t476, A160, H⟩ := H
        replace H : (if t476 = true then (spec_DivisorOk.l0 k2 l1 (l1.length : Int) (wrap64 (x19_2 + 1))) else (some false)) = some r := H
        have A16 := Aside0.mk A160
        clear A160
        by_cases c17 : t476 = true
        ·subst c17
         have H1 : (spec_DivisorOk.l0 k2 l1 (l1.length : Int) (wrap64 (x19_2 + 1))) = some r := by rw [if_pos rfl] at H; exact H
         clear H
         have H := H1
         clear H1
         have H' := Aside0.mk H
         clear H
         have p475 : 0 ≤ (x19_2 : Int) := of_decide_eq_true (by first | (with_reducible assumption) | assumption)
         have q475 : x19_2 < (l1.length : Int) := of_decide_eq_true (by first | (with_reducible assumption) | assumption)
         obtain ⟨ad475, e475, hx475_0⟩ := Kd.at_int HR1.out x19_2 p475 q475
         cases e475
         replace hx475_0 := (HB.out.cell (World.block_lt_of_cell? w _ hx475_0)).trans hx475_0
         replace p475 := eq_true p475
         replace q475 := eq_true q475
         go_wp2_with (first | ((with_reducible refine gate_callee (f := 64) rfl ?_); refine goesM_ (some 24) rfl rfl Try.func64 (by kernel_rfl) rfl #[.int .i64 (rd l1 x19_2), .int .i64 (-60), .int .i64 60] rfl ?_; (with_reducible refine (spec_l01In.calls (rd l1 x19_2) (-60) 60 true _ A16.out).mono ?_); rintro e w' ⟨rfl, ⟨nd, rfl⟩⟩; refine ⟨_, rfl, ?_⟩))
         go_roundg k2
         case measure => have := HJ2.out; have := HK2.out; omega
         case rel => exact ⟨(wrap64 (x19_2 + 1)), (by first | rfl | (simp; done) | (simp [*]; done)), H', ⟨by have := HJ2.out; have := HK2.out; omega⟩, ⟨by exact Bz BK473⟩, ⟨by exact Lz1 HB GE473⟩⟩
        replace c17 := Bool.eq_false_iff.mpr c17
        subst c17
        have H1 : (some false) = some r := by rw [if_neg (show ¬ (false = true) by decide)] at H; exact H
        clear H
        have H := H1
        clear H1
        obtain rfl := Option.some.inj H
        have p475 : 0 ≤ (x19_2 : Int) := of_decide_eq_true (by first | (with_reducible assumption) | assumption)
        have q475 : x19_2 < (l1.length : Int) := of_decide_eq_true (by first | (with_reducible assumption) | assumption)
        obtain ⟨ad475, e475, hx475_0⟩ := Kd.at_int HR1.out x19_2 p475 q475
        cases e475
        replace hx475_0 := (HB.out.cell (World.block_lt_of_cell? w _ hx475_0)).trans hx475_0
        replace p475 := eq_true p475
        replace q475 := eq_true q475
        go_wp2_with (first | ((with_reducible refine gate_callee (f := 64) rfl ?_); refine goesM_ (some 24) rfl rfl Try.func64 (by kernel_rfl) rfl #[.int .i64 (rd l1 x19_2), .int .i64 (-60), .int .i64 60] rfl ?_; (with_reducible refine (spec_l01In.calls (rd l1 x19_2) (-60) 60 false _ A16.out).mono ?_); rintro e w' ⟨rfl, ⟨nd, rfl⟩⟩; refine ⟨_, rfl, ?_⟩))
        go_ret
        exact ⟨by first | rfl | (simp [errW_none, errW_some] <;> rfl) | (simp [*, errW_none, errW_some] <;> rfl), by exact Lz1 HB GE473⟩
       rw [if_neg c15] at H
       exact absurd H (by simp)
      rw [if_neg c14] at H
      exact absurd H (by simp)
     rw [if_neg c13] at H
     have c13b0 : decide (x19_2 < (l1.length : Int)) = false := decide_eq_false c13
     clear c13
     obtain rfl := Option.some.inj H
     go_wp2
     go_ret
     exact ⟨by first | rfl | (simp [errW_none, errW_some] <;> rfl) | (simp [*, errW_none, errW_some] <;> rfl), by exact Lz1 HB GE473⟩

/-! ### spec_ScriptOk: function 79 -/
mutual
def spec_ScriptOk.j0 : Nat → List Int → Bool → Option (Bool)
 | 0, _, _ => none
 | k + 1, x1, x16 => if x16 = true then (some false) else (spec_ScriptOk.l0 k x1 (x1.length : Int) 0)
def spec_ScriptOk.l0 : Nat → List Int → Int → Int → Option (Bool)
 | 0, _, _, _ => none
 | k + 1, x17, x18, x19 => if x19 < x18 then (if 0 ≤ x19 then (if x19 < (x17.length : Int) then ((spec_l01In.f (rd x17 x19) (-100000) 100000).bind fun t480 => (if t480 = true then (spec_ScriptOk.l0 k x17 x18 (wrap64 (x19 + 1))) else (some false))) else (none)) else (none)) else (some true)
end
def spec_ScriptOk.f (k : Nat) (a0_0 : Int) (l0_1 : List (S68)) (l1 : List Int) : Option (Bool) := (spec_GraphOk.f k a0_0 l0_1).bind fun t478 => (if t478 = true then (spec_ScriptOk.j0 k l1 ((l1.length : Int) != a0_0)) else (spec_ScriptOk.j0 k l1 true))
set_option maxHeartbeats 8000000 in
set_option maxRecDepth 100000 in
theorem spec_ScriptOk.calls (k : Nat) (a0_0 : Int) (A0_1 : Option Addr) (c0_1 : Nat) (l0_1 : List (S68)) (A1 : Option Addr) (c1 : Nat) (l1 : List Int) (r : Bool) (w : World) (hr0_1 : Kd.C k68 w A0_1 l0_1.length l0_1) (hc0_1 : l0_1.length ≤ c0_1) (hr1 : Kd.C (Kd.int .i64) w A1 l1.length l1) (hc1 : l1.length ≤ c1) (h : spec_ScriptOk.f k a0_0 l0_1 l1 = some r) :
  Calls Try.prog 79 #[.agg #[.int .i64 a0_0, .slice A0_1 l0_1.length c0_1], .slice A1 l1.length c1] w fun e w' => e = .returned (.bool r) ∧ Below w.heap.size w w' := by
 have hu37 := Try.underlying37
 have HR0_1 := Aside0.mk hr0_1
 have HC0_1 := Aside0.mk hc0_1
 clear hr0_1 hc0_1
 have HR1 := Aside0.mk hr1
 have HC1 := Aside0.mk hc1
 clear hr1 hc1
 have HB := Aside0.mk (Below.refl w.heap.size w)
 have H : ((spec_GraphOk.f k a0_0 l0_1).bind fun t478 => (if t478 = true then (spec_ScriptOk.j0 k l1 ((l1.length : Int) != a0_0)) else (spec_ScriptOk.j0 k l1 true))) = some r := h
 clear h
 have HC3 := Aside0.mk H
 clear H
 go_enter Try.func79, Try.ntmps79
 go_upto_region 1 with (first | ((with_reducible refine gate_dst (N := 2) rfl ?_); (try (refine gate_guard (by rfl) ?_; dsimp only)); refine box_event ?hg (N := 2) ?hd (cs := #[.int .i64 a0_0, .slice A0_1 l0_1.length c0_1]) (t := 37) ?hr ?_; (case hd => rfl); (case hg => rfl); (case hr => first | (go_simp; done) | (go_simp; rfl)); intro gb477 hg w4 hbox hb; have BK477 := Aside0.mk (hbox); have GW477 := Aside0.mk ((by rw [hg]; exact (below_size (Lz HB)) : w.heap.size ≤ gb477)); have GE477 := Aside0.mk ((by rw [hg]; exact (below_size (Lz HB)) : w.heap.size ≤ gb477)); replace HB := Aside0.mk (below_step (Lz HB) hb); clear hb hbox hg))
 (try simp only [Act.put, List.setIfInBounds_toArray, List.set_cons_zero, List.set_cons_succ])
 go_cut [16] (fun v16 wc => ∃ (kq : Nat) (x16_2 : Bool), v16 = .bool x16_2 ∧ Aside0 (spec_ScriptOk.j0 kq l1 x16_2 = some r) ∧ Aside0 (kq ≤ k) ∧ Aside0 (wc.heap[gb477]? = some (.cells #[.int .i64 a0_0, (.slice A0_1 l0_1.length c0_1)] 37 (0, 0))) ∧ Aside0 (Below w.heap.size w wc))
 case first =>
  have H := HC3.out
  clear HC3
  replace H := Option.bind_eq_some_iff.mp H
  obtain ⟨t478, A50, H⟩ := H
  replace H : (if t478 = true then (spec_ScriptOk.j0 k l1 ((l1.length : Int) != a0_0)) else (spec_ScriptOk.j0 k l1 true)) = some r := H
  have A5 := Aside0.mk A50
  clear A50
  by_cases c6 : t478 = true
  ·subst c6
   have H1 : (spec_ScriptOk.j0 k l1 ((l1.length : Int) != a0_0)) = some r := by rw [if_pos rfl] at H; exact H
   clear H
   have H := H1
   clear H1
   have H' := Aside0.mk H
   clear H
   have hcz7_0 : w4.cell? ⟨gb477, 0, none⟩ = some (.int .i64 a0_0) := (blk_cell BK477.out 0).trans rfl
   have hcz7_1 : w4.cell? ⟨gb477, 1, none⟩ = some (.slice A0_1 l0_1.length c0_1) := (blk_cell BK477.out 1).trans rfl
   have hfz7_0 := blk_frozen BK477.out 0
   have hfz7_1 := blk_frozen BK477.out 1
   go_wp2_with (first | ((with_reducible refine gate_callee (f := 63) rfl ?_); refine goesM_ (some 8) rfl rfl Try.func63 (by kernel_rfl) rfl #[.agg #[.int .i64 a0_0, .slice A0_1 l0_1.length c0_1]] rfl ?_; (with_reducible refine (spec_GraphOk.calls k a0_0 _ _ l0_1 true _ ?side1 ?side2 A5.out).mono ?_); (case side1 => exact Cz ((Kd.C_below HR0_1.out HB.out))); (case side2 => exact HC0_1.out); rintro e w8 ⟨rfl, hb⟩; refine ⟨_, rfl, ?_⟩; replace BK477 := Aside0.mk (blk_below (g := gb477) (o := .cells #[.int .i64 a0_0, .slice A0_1 l0_1.length c0_1] 37 (0, 0)) (Bz BK477) hb); replace HB := Aside0.mk (below_step (by exact Lz1 HB GE477) hb); (try clear hb); (try clear hb2); (try clear hk); (try clear hi); have hcz9_0 : w8.cell? ⟨gb477, 0, none⟩ = some (.int .i64 a0_0) := (blk_cell BK477.out 0).trans rfl; have hcz9_1 : w8.cell? ⟨gb477, 1, none⟩ = some (.slice A0_1 l0_1.length c0_1) := (blk_cell BK477.out 1).trans rfl; have hfz9_0 := blk_frozen BK477.out 0; have hfz9_1 := blk_frozen BK477.out 1))
   go_meet
   case rel => exact ⟨_, (((l1.length : Int) != a0_0)), (by first | rfl | (simp; done) | (simp [*]; done)), H', ⟨by first | omega | exact Nat.le_refl _⟩, ⟨by exact Bz BK477⟩, ⟨by exact Lz1 HB GE477⟩⟩
  replace c6 := Bool.eq_false_iff.mpr c6
  subst c6
  have H1 : (spec_ScriptOk.j0 k l1 true) = some r := by rw [if_neg (show ¬ (false = true) by decide)] at H; exact H
  clear H
  have H := H1
  clear H1
  have H' := Aside0.mk H
  clear H
  have hcz10_0 : w4.cell? ⟨gb477, 0, none⟩ = some (.int .i64 a0_0) := (blk_cell BK477.out 0).trans rfl
  have hcz10_1 : w4.cell? ⟨gb477, 1, none⟩ = some (.slice A0_1 l0_1.length c0_1) := (blk_cell BK477.out 1).trans rfl
  have hfz10_0 := blk_frozen BK477.out 0
  have hfz10_1 := blk_frozen BK477.out 1
  go_wp2_with (first | ((with_reducible refine gate_callee (f := 63) rfl ?_); refine goesM_ (some 8) rfl rfl Try.func63 (by kernel_rfl) rfl #[.agg #[.int .i64 a0_0, .slice A0_1 l0_1.length c0_1]] rfl ?_; (with_reducible refine (spec_GraphOk.calls k a0_0 _ _ l0_1 false _ ?side1 ?side2 A5.out).mono ?_); (case side1 => exact Cz ((Kd.C_below HR0_1.out HB.out))); (case side2 => exact HC0_1.out); rintro e w11 ⟨rfl, hb⟩; refine ⟨_, rfl, ?_⟩; replace BK477 := Aside0.mk (blk_below (g := gb477) (o := .cells #[.int .i64 a0_0, .slice A0_1 l0_1.length c0_1] 37 (0, 0)) (Bz BK477) hb); replace HB := Aside0.mk (below_step (by exact Lz1 HB GE477) hb); (try clear hb); (try clear hb2); (try clear hk); (try clear hi)))
  go_meet
  case rel => exact ⟨_, (true), (by first | rfl | (simp; done) | (simp [*]; done)), H', ⟨by first | omega | exact Nat.le_refl _⟩, ⟨by exact Bz BK477⟩, ⟨by exact Lz1 HB GE477⟩⟩
 case rest =>
  clear HC3
  try clear c1
  try clear c6
  obtain ⟨kq, x16_2, rfl, HA, HJ2, BK477, HB⟩ := hcut
  cases kq with
  | zero => exact absurd HA.out (by simp [spec_ScriptOk.j0])
  | succ kj2 =>
   have H := HA.out
   clear HA
   simp only [spec_ScriptOk.j0] at H
   by_cases c12 : x16_2 = true
   ·subst c12
    have H1 : (some false) = some r := by rw [if_pos rfl] at H; exact H
    clear H
    have H := H1
    clear H1
    obtain rfl := Option.some.inj H
    go_wp2
    go_ret
    exact ⟨by first | rfl | (simp [errW_none, errW_some] <;> rfl) | (simp [*, errW_none, errW_some] <;> rfl), by exact Lz1 HB GE477⟩
   replace c12 := Bool.eq_false_iff.mpr c12
   subst c12
   have H1 : (spec_ScriptOk.l0 kj2 l1 (l1.length : Int) 0) = some r := by rw [if_neg (show ¬ (false = true) by decide)] at H; exact H
   clear H
   have H := H1
   clear H1
   have H' := Aside0.mk H
   clear H
   go_wp2
   go_loopg [19] kj2 (fun kq v19 w' => ∃ (x19_2 : Int), v19 = .int .i64 x19_2 ∧ Aside0 (spec_ScriptOk.l0 kq l1 (l1.length : Int) x19_2 = some r) ∧ Aside0 (kq ≤ kj2) ∧ Aside0 (w'.heap[gb477]? = some (.cells #[.int .i64 a0_0, (.slice A0_1 l0_1.length c0_1)] 37 (0, 0))) ∧ Aside0 (Below w.heap.size w w'))
   case atStart => exact ⟨(0), (by first | rfl | (simp; done) | (simp [*]; done)), H', ⟨Nat.le_refl _⟩, ⟨by exact Bz BK477⟩, ⟨by exact Lz1 HB GE477⟩⟩
   case round =>
    clear H'
    try clear c1
    try clear c6
    try clear c12
    obtain ⟨x19_2, rfl, HA, HK2, BK477, HB⟩ := hrel
    cases gk with
    | zero => exact absurd HA.out (by simp [spec_ScriptOk.l0])
    | succ k2 =>
     have H := HA.out
     clear HA
     simp only [spec_ScriptOk.l0] at H
     by_cases c13 : x19_2 < (l1.length : Int)
     ·rw [if_pos c13] at H
      have c13b0 : decide (x19_2 < (l1.length : Int)) = true := decide_eq_true c13
      clear c13
      by_cases c14 : 0 ≤ x19_2
      ·rw [if_pos c14] at H
       have c14b0 : decide (0 ≤ x19_2) = true := decide_eq_true c14
       clear c14
       by_cases c15 : x19_2 < (l1.length : Int)
       ·rw [if_pos c15] at H
        have c15b0 : decide (x19_2 < (l1.length : Int)) = true := decide_eq_true c15
        clear c15
        replace H := Option.bind_eq_some_iff.mp H
        obtain ⟨t480, A160, H⟩ := H
        replace H : (if t480 = true then (spec_ScriptOk.l0 k2 l1 (l1.length : Int) (wrap64 (x19_2 + 1))) else (some false)) = some r := H
        have A16 := Aside0.mk A160
        clear A160
        by_cases c17 : t480 = true
        ·subst c17
         have H1 : (spec_ScriptOk.l0 k2 l1 (l1.length : Int) (wrap64 (x19_2 + 1))) = some r := by rw [if_pos rfl] at H; exact H
         clear H
         have H := H1
         clear H1
         have H' := Aside0.mk H
         clear H
         have p479 : 0 ≤ (x19_2 : Int) := of_decide_eq_true (by first | (with_reducible assumption) | assumption)
         have q479 : x19_2 < (l1.length : Int) := of_decide_eq_true (by first | (with_reducible assumption) | assumption)
         obtain ⟨ad479, e479, hx479_0⟩ := Kd.at_int HR1.out x19_2 p479 q479
         cases e479
         replace hx479_0 := (HB.out.cell (World.block_lt_of_cell? w _ hx479_0)).trans hx479_0
         replace p479 := eq_true p479
         replace q479 := eq_true q479
         go_wp2_with (first | ((with_reducible refine gate_callee (f := 64) rfl ?_); refine goesM_ (some 24) rfl rfl Try.func64 (by kernel_rfl) rfl #[.int .i64 (rd l1 x19_2), .int .i64 (-100000), .int .i64 100000] rfl ?_; (with_reducible refine (spec_l01In.calls (rd l1 x19_2) (-100000) 100000 true _ A16.out).mono ?_); rintro e w' ⟨rfl, ⟨nd, rfl⟩⟩; refine ⟨_, rfl, ?_⟩))
         go_roundg k2
         case measure => have := HJ2.out; have := HK2.out; omega
         case rel => exact ⟨(wrap64 (x19_2 + 1)), (by first | rfl | (simp; done) | (simp [*]; done)), H', ⟨by have := HJ2.out; have := HK2.out; omega⟩, ⟨by exact Bz BK477⟩, ⟨by exact Lz1 HB GE477⟩⟩
        replace c17 := Bool.eq_false_iff.mpr c17
        subst c17
        have H1 : (some false) = some r := by rw [if_neg (show ¬ (false = true) by decide)] at H; exact H
        clear H
        have H := H1
        clear H1
        obtain rfl := Option.some.inj H
        have p479 : 0 ≤ (x19_2 : Int) := of_decide_eq_true (by first | (with_reducible assumption) | assumption)
        have q479 : x19_2 < (l1.length : Int) := of_decide_eq_true (by first | (with_reducible assumption) | assumption)
        obtain ⟨ad479, e479, hx479_0⟩ := Kd.at_int HR1.out x19_2 p479 q479
        cases e479
        replace hx479_0 := (HB.out.cell (World.block_lt_of_cell? w _ hx479_0)).trans hx479_0
        replace p479 := eq_true p479
        replace q479 := eq_true q479
        go_wp2_with (first | ((with_reducible refine gate_callee (f := 64) rfl ?_); refine goesM_ (some 24) rfl rfl Try.func64 (by kernel_rfl) rfl #[.int .i64 (rd l1 x19_2), .int .i64 (-100000), .int .i64 100000] rfl ?_; (with_reducible refine (spec_l01In.calls (rd l1 x19_2) (-100000) 100000 false _ A16.out).mono ?_); rintro e w' ⟨rfl, ⟨nd, rfl⟩⟩; refine ⟨_, rfl, ?_⟩))
        go_ret
        exact ⟨by first | rfl | (simp [errW_none, errW_some] <;> rfl) | (simp [*, errW_none, errW_some] <;> rfl), by exact Lz1 HB GE477⟩
       rw [if_neg c15] at H
       exact absurd H (by simp)
      rw [if_neg c14] at H
      exact absurd H (by simp)
     rw [if_neg c13] at H
     have c13b0 : decide (x19_2 < (l1.length : Int)) = false := decide_eq_false c13
     clear c13
     obtain rfl := Option.some.inj H
     go_wp2
     go_ret
     exact ⟨by first | rfl | (simp [errW_none, errW_some] <;> rfl) | (simp [*, errW_none, errW_some] <;> rfl), by exact Lz1 HB GE477⟩

/-! ### spec_l04Fire: function 80 -/
def spec_l04Fire.l0 : Nat → List Int → List Int → List (S68) → Int → Int → Option (List Int)
 | 0, _, _, _, _, _ => none
 | k + 1, x2, x7, x14, x15, x16 => if x16 < x15 then (if 0 ≤ x16 then (if x16 < (x14.length : Int) then (if 0 ≤ ((rd_T68 x14 x16).f0) then (if ((rd_T68 x14 x16).f0) < (x7.length : Int) then (if ((rd_T68 x14 x16).f0) < (x2.length : Int) then (if 0 ≤ ((rd_T68 x14 x16).f1) then (if ((rd_T68 x14 x16).f1) < (x2.length : Int) then ((some (x7.set (((rd_T68 x14 x16).f0) : Int).toNat (wrap64 ((wrap64 ((rd x7 ((rd_T68 x14 x16).f0)) - (rd x2 ((rd_T68 x14 x16).f0)))) + (rd x2 ((rd_T68 x14 x16).f1)))) : List Int)).bind fun y493 => (if ((rd_T68 x14 x16).f1) < (x7.length : Int) then (spec_l04Fire.l0 k x2 (y493.set (((rd_T68 x14 x16).f1) : Int).toNat (wrap64 ((wrap64 ((rd y493 ((rd_T68 x14 x16).f1)) - (rd x2 ((rd_T68 x14 x16).f1)))) + (rd x2 ((rd_T68 x14 x16).f0))))) x14 x15 (wrap64 (x16 + 1))) else (none))) else (none)) else (none)) else (none)) else (none)) else (none)) else (none)) else (none)) else (some x7)
def spec_l04Fire.f (k : Nat) (a0_0 : Int) (l0_1 : List (S68)) (l1 : List Int) (l2 : List Int) : Option (List Int) := (some (([] : List Int) : List Int)).bind fun y482 => (if y482.length + l1.length < 17592186044416 then (spec_l04Fire.l0 k l2 (y482 ++ l1) l0_1 (l0_1.length : Int) 0) else (none))
def spec_l04Fire.T5 : Bool × List (List Nat × List Nat) := (true, [([], []), ([], []), ([1], [1]), ([], []), ([], []), ([4], [4]), ([3, 5], [3, 5]), ([6], [6]), ([], []), ([], []), ([9], [9]), ([8, 10], [8, 10]), ([11], [11]), ([7, 12], [7, 12]), ([], []), ([], []), ([15], [15]), ([14, 16], [14, 16]), ([17], [17]), ([13, 18], [13, 18]), ([0, 2, 0, 1, 2, 3, 4, 5, 6, 7, 8, 9, 10, 11, 12, 13, 14, 15, 16, 17, 18, 19], [0, 2]), ([20, 19, 0, 1, 2, 3, 4, 5, 6, 7, 8, 9, 10, 11, 12, 13, 14, 15, 16, 17, 18, 19], [19, 20])])
def spec_l04Fire.B5 : List Nat := [0, 0, 2, 0, 0, 16, 56, 120, 0, 0, 512, 1792, 3840, 8184, 0, 0, 32768, 114688, 245760, 524280, 1048575, 2097151]
theorem spec_l04Fire.tab5 : rtab .any (opsOf Try.f80 5) = spec_l04Fire.T5 := by kernel_rfl
theorem spec_l04Fire.bits5 : waitsOk spec_l04Fire.T5.2 spec_l04Fire.B5 = true := by kernel_rfl
def spec_l04Fire.T6 : Bool × List (List Nat × List Nat) := (true, [([], []), ([], []), ([1], [1]), ([], []), ([], []), ([4], [4]), ([3, 5], [3, 5]), ([6], [6]), ([], []), ([], []), ([9], [9]), ([8, 10], [8, 10]), ([11], [11]), ([7, 12], [7, 12]), ([], []), ([], []), ([15], [15]), ([14, 16], [14, 16]), ([17], [17]), ([13, 18], [13, 18]), ([0, 2, 0, 1, 2, 3, 4, 5, 6, 7, 8, 9, 10, 11, 12, 13, 14, 15, 16, 17, 18, 19], [0, 2]), ([20, 19, 0, 1, 2, 3, 4, 5, 6, 7, 8, 9, 10, 11, 12, 13, 14, 15, 16, 17, 18, 19], [19, 20])])
def spec_l04Fire.B6 : List Nat := [0, 0, 2, 0, 0, 16, 56, 120, 0, 0, 512, 1792, 3840, 8184, 0, 0, 32768, 114688, 245760, 524280, 1048575, 2097151]
theorem spec_l04Fire.tab6 : rtab .any (opsOf Try.f80 6) = spec_l04Fire.T6 := by kernel_rfl
theorem spec_l04Fire.bits6 : waitsOk spec_l04Fire.T6.2 spec_l04Fire.B6 = true := by kernel_rfl
set_option maxHeartbeats 8000000 in
set_option maxRecDepth 100000 in
theorem spec_l04Fire.calls (k : Nat) (a0_0 : Int) (A0_1 : Option Addr) (c0_1 : Nat) (l0_1 : List (S68)) (A1 : Option Addr) (c1 : Nat) (l1 : List Int) (A2 : Option Addr) (c2 : Nat) (l2 : List Int) (r : List Int) (w : World) (hr0_1 : Kd.C k68 w A0_1 l0_1.length l0_1) (hc0_1 : l0_1.length ≤ c0_1) (hr1 : Kd.C (Kd.int .i64) w A1 l1.length l1) (hc1 : l1.length ≤ c1) (hr2 : Kd.C (Kd.int .i64) w A2 l2.length l2) (hc2 : l2.length ≤ c2) (h : spec_l04Fire.f k a0_0 l0_1 l1 l2 = some r) :
  Calls Try.prog 80 #[.agg #[.int .i64 a0_0, .slice A0_1 l0_1.length c0_1], .slice A1 l1.length c1, .slice A2 l2.length c2] w fun e w' => ∃ v0_ : Value, e = .returned (v0_) ∧ Kd.R (Kd.int .i64) 3 w' w.heap.size (fun _ => True) v0_ r ∧ Below w.heap.size w w' := by
 have hu37 := Try.underlying37
 have hu68 := Try.underlying68
 have HR0_1 := Aside0.mk hr0_1
 have HC0_1 := Aside0.mk hc0_1
 clear hr0_1 hc0_1
 have HR1 := Aside0.mk hr1
 have HC1 := Aside0.mk hc1
 clear hr1 hc1
 have HR2 := Aside0.mk hr2
 have HC2 := Aside0.mk hc2
 clear hr2 hc2
 have HB := Aside0.mk (Below.refl w.heap.size w)
 have H : ((some (([] : List Int) : List Int)).bind fun y482 => (if y482.length + l1.length < 17592186044416 then (spec_l04Fire.l0 k l2 (y482 ++ l1) l0_1 (l0_1.length : Int) 0) else (none))) = some r := h
 clear h
 obtain ⟨y482, hy482⟩ : ∃ y_ : List Int, y_ = (([] : List Int)) := ⟨_, rfl⟩
 replace H : (if y482.length + l1.length < 17592186044416 then (spec_l04Fire.l0 k l2 (y482 ++ l1) l0_1 (l0_1.length : Int) 0) else (none)) = some r := by first | (rw [hy482]; with_reducible exact H) | (have H2_ := (Option.bind_some _ _).symm.trans H; rw [hy482]; with_reducible exact H2_) | (have H2_ := (Option.bind_some _ _).symm.trans H; with_reducible exact H2_) | with_reducible exact H | (rw [hy482]; exact H) | exact H
 have Ny482 := Aside0.mk hy482
 clear hy482
 by_cases c4 : y482.length + l1.length < 17592186044416
 ·rw [if_pos c4] at H
  have LMc4 := Aside0.mk c4
  clear c4
  obtain ⟨y485, hy485⟩ : ∃ y_ : List Int, y_ = (y482 ++ l1) := ⟨_, rfl⟩
  replace H : (spec_l04Fire.l0 k l2 y485 l0_1 (l0_1.length : Int) 0) = some r := by first | (rw [hy485]; with_reducible exact H) | (have H2_ := (Option.bind_some _ _).symm.trans H; rw [hy485]; with_reducible exact H2_) | (have H2_ := (Option.bind_some _ _).symm.trans H; with_reducible exact H2_) | with_reducible exact H | (rw [hy485]; exact H) | exact H
  have Ny485 := Aside0.mk hy485
  clear hy485
  have H' := Aside0.mk H
  clear H
  go_enter Try.func80, Try.ntmps80
  go_wp2_with (first | ((with_reducible refine gate_dst (N := 3) rfl ?_); refine box_event ?hg (N := 3) ?hd (cs := #[.int .i64 a0_0, .slice A0_1 l0_1.length c0_1]) (t := 37) ?hr ?_; (case hd => rfl); (case hg => rfl); (case hr => first | (go_simp; done) | (go_simp; rfl)); intro gb481 hg w5 hbox hb; have BK481 := Aside0.mk (hbox); have GW481 := Aside0.mk ((by rw [hg]; exact (below_size (Lz HB)) : w.heap.size ≤ gb481)); have GE481 := Aside0.mk ((by rw [hg]; exact (below_size (Lz HB)) : w.heap.size ≤ gb481)); replace HB := Aside0.mk (below_step (Lz HB) hb); clear hb hbox hg) | ((with_reducible refine gate_dst (N := 10) rfl ?_); refine Kd.R_lit (Kd.int .i64) _ 3 ?hg (N := 10) ?hd (xs := ([] : List Int)) (inner := []) (ok := fun _ => True) (okp := fun _ => True) ?hr ?hp (fun _ hk => hk) trivial (Below.refl _ _) (Nat.le_refl _) (by simp) ?_; (case hd => rfl); (case hg => rfl); (case hr => first | (go_simp; done) | (go_simp; rfl)); (case hp => exact (Reps.none _ _)); intro v483 w6 ho7 hb hg_ hnew_; clear hg_ hnew_; (first | rw [← Ny482.out] at ho7 | (simp only [Int.reduceToNat] at ho7; rw [← Ny482.out] at ho7)); have HO484 := Aside0.mk (Kd.R_lower ho7 (below_size (by exact Lz1 HB GE481))); replace BK481 := Aside0.mk (blk_below (g := gb481) (o := .cells #[.int .i64 a0_0, .slice A0_1 l0_1.length c0_1] 37 (0, 0)) (Bz BK481) hb); replace HB := Aside0.mk (below_step (by exact Lz1 HB GE481) hb); clear hb ho7) | ((with_reducible refine gate_builtin (b := .append) (xs := #[.tmp 10, .tmp 11]) rfl ?_); at_builtin; refine Kd.R_append_rows (Kd.int .i64) (w0 := w) w.heap.size rfl (.tmp 10) (.tmp 11) 24 3 (.int .i64 0) 8 rfl Try.underlying24 info3 rfl (by decide) (by omega) v483 y482 l1 _ _ _ (fun _ => True) (fun _ => False) rfl rfl ?aO ?aR (fun _ _ h => h) (fun _ h => h.elim) ?aF ?aB ?aS ?aL ?_; (case aR => exact Cz ((Kd.C_below HR1.out HB.out))); (case aB => exact (by exact Lz1 HB GE481)); (case aF => exact (fun _ _ => trivial)); (case aO => exact (Rz HO484)); (case aS => exact (below_size (by exact Lz1 HB GE481))); (case aL => have := LMc4.out; omega); intro v486 w8 ho hb hg hat; rw [← Ny485.out] at ho; replace BK481 := Aside0.mk (blk_grown (g := gb481) (o := .cells #[.int .i64 a0_0, .slice A0_1 l0_1.length c0_1] 37 (0, 0)) (Bz BK481) hg (Kd.R_ne HO484.out BK481.out (by decide))); replace HB := Aside0.mk (hb); have HO487 := Aside0.mk (ho); clear HO484; clear ho hb hg hat; have hcz9_0 : w8.cell? ⟨gb481, 0, none⟩ = some (.int .i64 a0_0) := (blk_cell BK481.out 0).trans rfl; have hcz9_1 : w8.cell? ⟨gb481, 1, none⟩ = some (.slice A0_1 l0_1.length c0_1) := (blk_cell BK481.out 1).trans rfl; have hfz9_0 := blk_frozen BK481.out 0; have hfz9_1 := blk_frozen BK481.out 1))
  go_loopg [16] k (fun kq v16 w' => ∃ (x7_1 : List Int) (x16_1 : Int), v16 = .int .i64 x16_1 ∧ Aside0 (spec_l04Fire.l0 kq l2 x7_1 l0_1 (l0_1.length : Int) x16_1 = some r) ∧ Aside0 (kq ≤ k) ∧ Aside0 (Kd.R (Kd.int .i64) 3 w' w.heap.size (fun _ => True) v486 x7_1) ∧ Aside0 (w'.heap[gb481]? = some (.cells #[.int .i64 a0_0, (.slice A0_1 l0_1.length c0_1)] 37 (0, 0))) ∧ Aside0 (Below w.heap.size w w'))
  case atStart => exact ⟨(y485), (0), (by first | rfl | (simp; done) | (simp [*]; done)), H', ⟨Nat.le_refl _⟩, ⟨by exact Rz HO487⟩, ⟨by exact Bz BK481⟩, ⟨by exact Lz1 HB GE481⟩⟩
  case round =>
   clear H'
   try clear c1
   try clear c2
   try clear c4
   obtain ⟨x7_1, x16_1, rfl, HA, HK1, HO_7, BK481, HB⟩ := hrel
   cases gk with
   | zero => exact absurd HA.out (by simp [spec_l04Fire.l0])
   | succ k1 =>
    have H := HA.out
    clear HA
    simp only [spec_l04Fire.l0] at H
    by_cases c10 : x16_1 < (l0_1.length : Int)
    ·rw [if_pos c10] at H
     have c10b0 : decide (x16_1 < (l0_1.length : Int)) = true := decide_eq_true c10
     clear c10
     by_cases c11 : 0 ≤ x16_1
     ·rw [if_pos c11] at H
      have c11b0 : decide (0 ≤ x16_1) = true := decide_eq_true c11
      clear c11
      by_cases c12 : x16_1 < (l0_1.length : Int)
      ·rw [if_pos c12] at H
       have c12b0 : decide (x16_1 < (l0_1.length : Int)) = true := decide_eq_true c12
       clear c12
       by_cases c13 : 0 ≤ ((rd_T68 l0_1 x16_1).f0)
       ·rw [if_pos c13] at H
        have c13b0 : decide (0 ≤ ((rd_T68 l0_1 x16_1).f0)) = true := decide_eq_true c13
        clear c13
        by_cases c14 : ((rd_T68 l0_1 x16_1).f0) < (x7_1.length : Int)
        ·rw [if_pos c14] at H
         have c14b0 : decide (((rd_T68 l0_1 x16_1).f0) < (x7_1.length : Int)) = true := decide_eq_true c14
         clear c14
         by_cases c15 : ((rd_T68 l0_1 x16_1).f0) < (l2.length : Int)
         ·rw [if_pos c15] at H
          have c15b0 : decide (((rd_T68 l0_1 x16_1).f0) < (l2.length : Int)) = true := decide_eq_true c15
          clear c15
          by_cases c16 : 0 ≤ ((rd_T68 l0_1 x16_1).f1)
          ·rw [if_pos c16] at H
           have c16b0 : decide (0 ≤ ((rd_T68 l0_1 x16_1).f1)) = true := decide_eq_true c16
           clear c16
           by_cases c17 : ((rd_T68 l0_1 x16_1).f1) < (l2.length : Int)
           ·rw [if_pos c17] at H
            have c17b0 : decide (((rd_T68 l0_1 x16_1).f1) < (l2.length : Int)) = true := decide_eq_true c17
            clear c17
            obtain ⟨y493, hy493⟩ : ∃ y_ : List Int, y_ = (x7_1.set (((rd_T68 l0_1 x16_1).f0) : Int).toNat (wrap64 ((wrap64 ((rd x7_1 ((rd_T68 l0_1 x16_1).f0)) - (rd l2 ((rd_T68 l0_1 x16_1).f0)))) + (rd l2 ((rd_T68 l0_1 x16_1).f1))))) := ⟨_, rfl⟩
            replace H : (if ((rd_T68 l0_1 x16_1).f1) < (x7_1.length : Int) then (spec_l04Fire.l0 k1 l2 (y493.set (((rd_T68 l0_1 x16_1).f1) : Int).toNat (wrap64 ((wrap64 ((rd y493 ((rd_T68 l0_1 x16_1).f1)) - (rd l2 ((rd_T68 l0_1 x16_1).f1)))) + (rd l2 ((rd_T68 l0_1 x16_1).f0))))) l0_1 (l0_1.length : Int) (wrap64 (x16_1 + 1))) else (none)) = some r := by first | (rw [hy493]; with_reducible exact H) | (have H2_ := (Option.bind_some _ _).symm.trans H; rw [hy493]; with_reducible exact H2_) | (have H2_ := (Option.bind_some _ _).symm.trans H; with_reducible exact H2_) | with_reducible exact H | (rw [hy493]; exact H) | exact H
            have Ny493 := Aside0.mk hy493
            clear hy493
            by_cases c19 : ((rd_T68 l0_1 x16_1).f1) < (x7_1.length : Int)
            ·rw [if_pos c19] at H
             have c19b0 : decide (((rd_T68 l0_1 x16_1).f1) < (x7_1.length : Int)) = true := decide_eq_true c19
             clear c19
             obtain ⟨y497, hy497⟩ : ∃ y_ : List Int, y_ = (y493.set (((rd_T68 l0_1 x16_1).f1) : Int).toNat (wrap64 ((wrap64 ((rd y493 ((rd_T68 l0_1 x16_1).f1)) - (rd l2 ((rd_T68 l0_1 x16_1).f1)))) + (rd l2 ((rd_T68 l0_1 x16_1).f0))))) := ⟨_, rfl⟩
             replace H : (spec_l04Fire.l0 k1 l2 y497 l0_1 (l0_1.length : Int) (wrap64 (x16_1 + 1))) = some r := by first | (rw [hy497]; with_reducible exact H) | (have H2_ := (Option.bind_some _ _).symm.trans H; rw [hy497]; with_reducible exact H2_) | (have H2_ := (Option.bind_some _ _).symm.trans H; with_reducible exact H2_) | with_reducible exact H | (rw [hy497]; exact H) | exact H
             have Ny497 := Aside0.mk hy497
             clear hy497
             have H' := Aside0.mk H
             clear H
             have p488 : 0 ≤ (x16_1 : Int) := of_decide_eq_true (by first | (with_reducible assumption) | assumption)
             have q488 : x16_1 < (l0_1.length : Int) := of_decide_eq_true (by first | (with_reducible assumption) | assumption)
             obtain ⟨ad488, e488, hx488_0, hx488_1⟩ := at_T68 HR0_1.out x16_1 p488 q488
             cases e488
             replace hx488_0 := (HB.out.cell (World.block_lt_of_cell? w _ hx488_0)).trans hx488_0
             replace hx488_1 := (HB.out.cell (World.block_lt_of_cell? w _ hx488_1)).trans hx488_1
             replace p488 := eq_true p488
             replace q488 := eq_true q488
             try go_wp2_with (first | ((with_reducible refine gate_dst (N := 9) rfl ?_); refine box_event ?hg (N := 9) ?hd (cs := #[.int .i64 0, .int .i64 0]) (t := 68) ?hr ?_; (case hd => rfl); (case hg => rfl); (case hr => first | (go_simp; done) | (go_simp; rfl)); intro gb489 hg w21 hbox hb; replace HO_7 := Aside0.mk (Kd.R_below (Rz HO_7) hb); have BK489 := Aside0.mk (hbox); have GW489 := Aside0.mk ((by rw [hg]; exact (below_size (by exact Lz1 HB GE481)) : w.heap.size ≤ gb489)); have GE489 := Aside0.mk ((by rw [hg]; exact (below_size (by exact Lz1 HB GE481)) : w.heap.size ≤ gb489)); replace HB := Aside0.mk (below_step (by exact Lz1 HB GE481) hb); have NB481_489 := Aside0.mk ((by rw [hg]; exact Nat.ne_of_lt (blk_lt (g := gb481) (o := .cells #[.int .i64 a0_0, .slice (some ad488) l0_1.length c0_1] 37 (0, 0)) (Bz BK481)) : gb481 ≠ gb489)); have NB489_481 := Aside0.mk ((by rw [hg]; exact Nat.ne_of_gt (blk_lt (g := gb481) (o := .cells #[.int .i64 a0_0, .slice (some ad488) l0_1.length c0_1] 37 (0, 0)) (Bz BK481)) : gb489 ≠ gb481)); replace BK481 := Aside0.mk (blk_below (g := gb481) (o := .cells #[.int .i64 a0_0, .slice (some ad488) l0_1.length c0_1] 37 (0, 0)) (Bz BK481) hb); clear hb hbox hg; have hnb22 := NB489_481.out; have hnc22 := NB481_489.out; have hcz23_0 : w21.cell? ⟨gb489, 0, none⟩ = some (.int .i64 0) := (blk_cell BK489.out 0).trans rfl; have hcz23_1 : w21.cell? ⟨gb489, 1, none⟩ = some (.int .i64 0) := (blk_cell BK489.out 1).trans rfl; have hfz23_0 := blk_frozen BK489.out 0; have hfz23_1 := blk_frozen BK489.out 1))
             have n0_ : Aside0 (Kd.R (Kd.int .i64) 3 ((w21.setCell ⟨gb489, 0, none⟩ (.int .i64 ((rd_T68 l0_1 x16_1).f0))).setCell ⟨gb489, 1, none⟩ (.int .i64 ((rd_T68 l0_1 x16_1).f1))) w.heap.size (fun _ => True) v486 x7_1) := ⟨by (with_reducible repeat (first | apply Kd.R_alloc | apply Kd.R_drewN | apply Kd.R_drew)); exact Kd.R_mono (Kd.R_far (p := ⟨gb489, 1, none⟩) (Kd.R_far (p := ⟨gb489, 0, none⟩) (Kd.R_types HO_7.out BK489.out (by decide)) (fun _ hk => hk.2) (.int .i64 ((rd_T68 l0_1 x16_1).f0))) (fun _ hk => hk.2) (.int .i64 ((rd_T68 l0_1 x16_1).f1))) (fun _ hk => trivial)⟩
             have n1_ : Aside0 (((w21.setCell ⟨gb489, 0, none⟩ (.int .i64 ((rd_T68 l0_1 x16_1).f0))).setCell ⟨gb489, 1, none⟩ (.int .i64 ((rd_T68 l0_1 x16_1).f1))).heap[gb481]? = some (.cells #[.int .i64 a0_0, .slice (some ad488) l0_1.length c0_1] 37 (0, 0))) := ⟨by (with_reducible repeat (first | refine blk_drewN ?_ _ | refine blk_drew ?_ | refine blk_alloc ?_ _)); refine blk_far ?_ NB481_489.out _; (with_reducible repeat (first | refine blk_drewN ?_ _ | refine blk_drew ?_ | refine blk_alloc ?_ _)); refine blk_far ?_ NB481_489.out _; exact Bz BK481⟩
             have n2_ : Aside0 (((w21.setCell ⟨gb489, 0, none⟩ (.int .i64 ((rd_T68 l0_1 x16_1).f0))).setCell ⟨gb489, 1, none⟩ (.int .i64 ((rd_T68 l0_1 x16_1).f1))).heap[gb489]? = some (.cells #[.int .i64 ((rd_T68 l0_1 x16_1).f0), .int .i64 ((rd_T68 l0_1 x16_1).f1)] 68 (0, 0))) := ⟨by (with_reducible repeat (first | refine blk_drewN ?_ _ | refine blk_drew ?_ | refine blk_alloc ?_ _)); refine blk_put (cs := #[.int .i64 ((rd_T68 l0_1 x16_1).f0), .int .i64 0]) ?_ 1 _ rfl; (with_reducible repeat (first | refine blk_drewN ?_ _ | refine blk_drew ?_ | refine blk_alloc ?_ _)); refine blk_put (cs := #[.int .i64 0, .int .i64 0]) ?_ 0 _ rfl; exact Bz BK489⟩
             have n3_ : Aside0 (Below w.heap.size w ((w21.setCell ⟨gb489, 0, none⟩ (.int .i64 ((rd_T68 l0_1 x16_1).f0))).setCell ⟨gb489, 1, none⟩ (.int .i64 ((rd_T68 l0_1 x16_1).f1)))) := ⟨by exact Lz2 HB GE481 GE489⟩
             (try clear HO_7)
             (try clear BK481)
             (try clear BK489)
             (try clear HB)
             generalize ((w21.setCell ⟨gb489, 0, none⟩ (.int .i64 ((rd_T68 l0_1 x16_1).f0))).setCell ⟨gb489, 1, none⟩ (.int .i64 ((rd_T68 l0_1 x16_1).f1))) = w24 at n0_ n1_ n2_ n3_ ⊢
             have HO_7 := n0_
             have BK481 := n1_
             have BK489 := n2_
             have HB := n3_
             clear n0_ n1_ n2_ n3_
             replace HO_7 := Aside0.mk (Kd.R_drew HO_7.out)
             replace BK481 := Aside0.mk (blk_drew BK481.out)
             replace BK489 := Aside0.mk (blk_drew BK489.out)
             replace HB := Aside0.mk (below_drew1 HB.out)
             obtain ⟨Ao26, co26, eo26⟩ := Kd.R_slice HO_7.out
             (first | subst eo26 | (injection eo26 with f1_ f2_ f3_; have f4_ := f1_.symm; have f5_ := f3_.symm; clear f1_ f2_ f3_; subst f4_; subst f5_))
             have p490 : 0 ≤ (((rd_T68 l0_1 x16_1).f0) : Int) := of_decide_eq_true (by first | (with_reducible assumption) | assumption)
             have q490 : ((rd_T68 l0_1 x16_1).f0) < (x7_1.length : Int) := of_decide_eq_true (by first | (with_reducible assumption) | assumption)
             obtain ⟨ad490, e490, hx490_0⟩ := Kd.at_int (Kd.R_reads' HO_7.out).2.2 ((rd_T68 l0_1 x16_1).f0) p490 q490
             cases e490
             replace p490 := eq_true p490
             replace q490 := eq_true q490
             have p491 : 0 ≤ (((rd_T68 l0_1 x16_1).f0) : Int) := of_decide_eq_true (by first | (with_reducible assumption) | assumption)
             have q491 : ((rd_T68 l0_1 x16_1).f0) < (l2.length : Int) := of_decide_eq_true (by first | (with_reducible assumption) | assumption)
             obtain ⟨ad491, e491, hx491_0⟩ := Kd.at_int HR2.out ((rd_T68 l0_1 x16_1).f0) p491 q491
             have hw491_0 := hx491_0
             cases e491
             replace hx491_0 := (HB.out.cell (World.block_lt_of_cell? w _ hx491_0)).trans hx491_0
             replace p491 := eq_true p491
             replace q491 := eq_true q491
             have p492 : 0 ≤ (((rd_T68 l0_1 x16_1).f1) : Int) := of_decide_eq_true (by first | (with_reducible assumption) | assumption)
             have q492 : ((rd_T68 l0_1 x16_1).f1) < (l2.length : Int) := of_decide_eq_true (by first | (with_reducible assumption) | assumption)
             obtain ⟨ad492, e492, hx492_0⟩ := Kd.at_int HR2.out ((rd_T68 l0_1 x16_1).f1) p492 q492
             have hw492_0 := hx492_0
             obtain rfl : ad491 = ad492 := (by injection e492)
             replace hx492_0 := (HB.out.cell (World.block_lt_of_cell? w _ hx492_0)).trans hx492_0
             replace p492 := eq_true p492
             replace q492 := eq_true q492
             have p18 : 0 ≤ (((rd_T68 l0_1 x16_1).f0) : Int) := of_decide_eq_true (by first | (with_reducible assumption) | assumption)
             have q18 : (((rd_T68 l0_1 x16_1).f0) : Int) < ((x7_1.length : Int) : Int) := of_decide_eq_true (by first | (with_reducible assumption) | assumption)
             obtain ⟨go18, co18, eo18, gb18, gl18, cl18, HG18⟩ := Kd.R_form HO_7.out (by omega)
             (first | cases eo18 | (injection eo18 with ea_ en_ ec_; (first | subst ea_ | (injection ea_ with ea_; subst ea_)); subst ec_; clear en_))
             have GB18 := Aside0.mk gb18
             have GG18 := Aside0.mk HG18
             clear gb18 gl18 HG18
             (first | simp only [add_plain] at hx490_0 | skip)
             obtain ⟨hx18_0, hf18_0⟩ := Kd.R_celln 0 HO_7.out (((rd_T68 l0_1 x16_1).f0) : Int) p18 q18
             replace p18 := eq_true p18
             replace q18 := eq_true q18
             have HP27 := Kd.R_putn HO_7.out (((rd_T68 l0_1 x16_1).f0) : Int) (wrap64 ((wrap64 ((rd x7_1 ((rd_T68 l0_1 x16_1).f0)) - (rd l2 ((rd_T68 l0_1 x16_1).f0)))) + (rd l2 ((rd_T68 l0_1 x16_1).f1))))
             rw [← Ny493.out] at HP27
             have HQ27 := Aside0.mk HP27
             clear HP27
             refine start_ (n := 22) (S := fun w' => w'.cell? ⟨gb489, 0, none⟩ = some (.int .i64 ((rd_T68 l0_1 x16_1).f0)) ∧ w'.cell? ⟨gb489, 1, none⟩ = some (.int .i64 ((rd_T68 l0_1 x16_1).f1)) ∧ w'.cell? ⟨go18, (((rd_T68 l0_1 x16_1).f0)).toNat, none⟩ = some (.int .i64 (rd x7_1 ((rd_T68 l0_1 x16_1).f0))) ∧ w'.cell? (ad491.add (((rd_T68 l0_1 x16_1).f0)).toNat) = some (.int .i64 (rd l2 ((rd_T68 l0_1 x16_1).f0))) ∧ w'.cell? (ad491.add (((rd_T68 l0_1 x16_1).f1)).toNat) = some (.int .i64 (rd l2 ((rd_T68 l0_1 x16_1).f1)))) (ds := [21]) #[false, false, false, false, false, false, false, false, false, false, false, false, false, false, false, false, false, false, false, false, false, false] (by kernel_rfl) rfl rfl ⟨(blk_cell BK489.out 0).trans rfl, (blk_cell BK489.out 1).trans rfl, hx490_0, ((HB.out.cell (World.block_lt_of_cell? w _ hw491_0)).trans hw491_0), ((HB.out.cell (World.block_lt_of_cell? w _ hw492_0)).trans hw492_0)⟩ (fun hHeld => ?_); refine with_tabW spec_l04Fire.tab5 spec_l04Fire.bits5 (fun HT_ HW_ => ?_)
             generalize w24.drew = w25 at HO_7 BK481 BK489 HB GG18 HQ27 hf18_0 hx18_0 hx490_0 hx491_0 hx492_0 hHeld ⊢
             refine pureT_ 0 20 HT_ ?_
             refine pureT_ 1 21 HT_ ?_
             refine pureT_ 3 23 HT_ ?_
             refine pureT_ 4 24 HT_ ?_
             refine pureT_ 8 28 HT_ ?_
             refine pureT_ 9 29 HT_ ?_
             refine pureT_ 14 34 HT_ ?_
             refine pureT_ 15 35 HT_ ?_
             refine takeT_ 2 22 HT_ HW_ hHeld rfl (by rintro w' ⟨s0, s1, s2, s3, s4⟩; go_simp; with_reducible rfl) ?_
             refine takeT_ 5 25 HT_ HW_ hHeld rfl (by rintro w' ⟨s0, s1, s2, s3, s4⟩; go_simp; with_reducible rfl) ?_
             refine pureT_ 6 26 HT_ ?_
             refine takeT_ 7 27 HT_ HW_ hHeld rfl (by rintro w' ⟨s0, s1, s2, s3, s4⟩; go_simp; with_reducible rfl) ?_
             refine takeT_ 10 30 HT_ HW_ hHeld rfl (by rintro w' ⟨s0, s1, s2, s3, s4⟩; go_simp; with_reducible rfl) ?_
             refine pureT_ 11 31 HT_ ?_
             refine takeT_ 12 32 HT_ HW_ hHeld rfl (by rintro w' ⟨s0, s1, s2, s3, s4⟩; go_simp; with_reducible rfl) ?_
             refine pureT_ 13 33 HT_ ?_
             refine takeT_ 16 36 HT_ HW_ hHeld rfl (by rintro w' ⟨s0, s1, s2, s3, s4⟩; go_simp; with_reducible rfl) ?_
             refine pureT_ 17 37 HT_ ?_
             refine takeT_ 18 38 HT_ HW_ hHeld rfl (by rintro w' ⟨s0, s1, s2, s3, s4⟩; go_simp; with_reducible rfl) ?_
             refine pureT_ 19 39 HT_ ?_
             refine pureT_ 20 40 HT_ ?_
             refine last_ (i := 21) (N := none) #[true, true, true, true, true, true, true, true, true, true, true, true, true, true, true, true, true, true, true, true, true, true] rfl rfl (one_of HT_.out (by kernel_rfl)) (by decide) (fun K hK => ?_)
             refine skip_ (w1 := ?_) (by rfl) rfl ?_ ?_
             rotate_left
             ·go_simp
              rfl
             refine hK.out _ _ ?_
             clear hK K
             refine done_ (done_of HT_.out (by kernel_rfl)) ?_
             try go_wp2
             have n0_ : Aside0 (Kd.R (Kd.int .i64) 3 (w25.setCell ⟨go18, (((rd_T68 l0_1 x16_1).f0) : Int).toNat, none⟩ (.int .i64 (wrap64 ((wrap64 ((rd x7_1 ((rd_T68 l0_1 x16_1).f0)) - (rd l2 ((rd_T68 l0_1 x16_1).f0)))) + (rd l2 ((rd_T68 l0_1 x16_1).f1)))))) w.heap.size (fun _ => True) (.slice (some ⟨go18, 0, none⟩) x7_1.length co26) y493) := ⟨by exact Rz HQ27⟩
             have n1_ : Aside0 ((w25.setCell ⟨go18, (((rd_T68 l0_1 x16_1).f0) : Int).toNat, none⟩ (.int .i64 (wrap64 ((wrap64 ((rd x7_1 ((rd_T68 l0_1 x16_1).f0)) - (rd l2 ((rd_T68 l0_1 x16_1).f0)))) + (rd l2 ((rd_T68 l0_1 x16_1).f1)))))).heap[gb481]? = some (.cells #[.int .i64 a0_0, .slice (some ad488) l0_1.length c0_1] 37 (0, 0))) := ⟨by (with_reducible repeat (first | refine blk_drewN ?_ _ | refine blk_drew ?_ | refine blk_alloc ?_ _)); refine blk_far ?_ (by have h_ := Kd.R_ne HO_7.out BK481.out (by decide); intro e_; exact h_ (by rw [e_]; rfl)) _; exact Bz BK481⟩
             have n2_ : Aside0 ((w25.setCell ⟨go18, (((rd_T68 l0_1 x16_1).f0) : Int).toNat, none⟩ (.int .i64 (wrap64 ((wrap64 ((rd x7_1 ((rd_T68 l0_1 x16_1).f0)) - (rd l2 ((rd_T68 l0_1 x16_1).f0)))) + (rd l2 ((rd_T68 l0_1 x16_1).f1)))))).heap[gb489]? = some (.cells #[.int .i64 ((rd_T68 l0_1 x16_1).f0), .int .i64 ((rd_T68 l0_1 x16_1).f1)] 68 (0, 0))) := ⟨by (with_reducible repeat (first | refine blk_drewN ?_ _ | refine blk_drew ?_ | refine blk_alloc ?_ _)); refine blk_far ?_ (by have h_ := Kd.R_ne HO_7.out BK489.out (by decide); intro e_; exact h_ (by rw [e_]; rfl)) _; exact Bz BK489⟩
             have n3_ : Aside0 (Below w.heap.size w (w25.setCell ⟨go18, (((rd_T68 l0_1 x16_1).f0) : Int).toNat, none⟩ (.int .i64 (wrap64 ((wrap64 ((rd x7_1 ((rd_T68 l0_1 x16_1).f0)) - (rd l2 ((rd_T68 l0_1 x16_1).f0)))) + (rd l2 ((rd_T68 l0_1 x16_1).f1))))))) := ⟨by exact Lz3 HB GB18 GE481 GE489⟩
             (try clear HO_7)
             (try clear BK481)
             (try clear BK489)
             (try clear HB)
             generalize (w25.setCell ⟨go18, (((rd_T68 l0_1 x16_1).f0) : Int).toNat, none⟩ (.int .i64 (wrap64 ((wrap64 ((rd x7_1 ((rd_T68 l0_1 x16_1).f0)) - (rd l2 ((rd_T68 l0_1 x16_1).f0)))) + (rd l2 ((rd_T68 l0_1 x16_1).f1)))))) = w28 at n0_ n1_ n2_ n3_ ⊢
             have HO_7 := n0_
             have BK481 := n1_
             have BK489 := n2_
             have HB := n3_
             clear n0_ n1_ n2_ n3_
             replace HO_7 := Aside0.mk (Kd.R_drew HO_7.out)
             replace BK481 := Aside0.mk (blk_drew BK481.out)
             replace BK489 := Aside0.mk (blk_drew BK489.out)
             replace HB := Aside0.mk (below_drew1 HB.out)
             have p494 : 0 ≤ (((rd_T68 l0_1 x16_1).f1) : Int) := of_decide_eq_true (by first | (with_reducible assumption) | assumption)
             have q494 : ((rd_T68 l0_1 x16_1).f1) < (y493.length : Int) := (by have h_ : (((rd_T68 l0_1 x16_1).f1) : Int) < ((x7_1.length : Int) : Int) := of_decide_eq_true (by first | (with_reducible assumption) | assumption); first | (have e_ := (Kd.R_reads' HO_7.out).1; omega) | simpa only [Ny493.out, List.length_set] using h_)
             have ql494 : ((((rd_T68 l0_1 x16_1).f1) : Int) < ((x7_1.length : Int) : Int)) = True := eq_true (of_decide_eq_true (by first | (with_reducible assumption) | assumption))
             obtain ⟨ad494, e494, hx494_0⟩ := Kd.at_int (Kd.R_reads' HO_7.out).2.2 ((rd_T68 l0_1 x16_1).f1) p494 q494
             obtain rfl : (⟨go18, 0, none⟩ : Addr) = ad494 := (by injection e494)
             (first | simp only [add_plain] at hx494_0 | simp only [add_at] at hx494_0 | simp only [Addr.add, Nat.zero_add] at hx494_0 | skip)
             replace p494 := eq_true p494
             replace q494 := eq_true q494
             have p495 : 0 ≤ (((rd_T68 l0_1 x16_1).f1) : Int) := of_decide_eq_true (by first | (with_reducible assumption) | assumption)
             have q495 : ((rd_T68 l0_1 x16_1).f1) < (l2.length : Int) := of_decide_eq_true (by first | (with_reducible assumption) | assumption)
             obtain ⟨ad495, e495, hx495_0⟩ := Kd.at_int HR2.out ((rd_T68 l0_1 x16_1).f1) p495 q495
             have hw495_0 := hx495_0
             obtain rfl : ad491 = ad495 := (by injection e495)
             replace hx495_0 := (HB.out.cell (World.block_lt_of_cell? w _ hx495_0)).trans hx495_0
             replace p495 := eq_true p495
             replace q495 := eq_true q495
             have p496 : 0 ≤ (((rd_T68 l0_1 x16_1).f0) : Int) := of_decide_eq_true (by first | (with_reducible assumption) | assumption)
             have q496 : ((rd_T68 l0_1 x16_1).f0) < (l2.length : Int) := of_decide_eq_true (by first | (with_reducible assumption) | assumption)
             obtain ⟨ad496, e496, hx496_0⟩ := Kd.at_int HR2.out ((rd_T68 l0_1 x16_1).f0) p496 q496
             have hw496_0 := hx496_0
             obtain rfl : ad491 = ad496 := (by injection e496)
             replace hx496_0 := (HB.out.cell (World.block_lt_of_cell? w _ hx496_0)).trans hx496_0
             replace p496 := eq_true p496
             replace q496 := eq_true q496
             have p20 : 0 ≤ (((rd_T68 l0_1 x16_1).f1) : Int) := of_decide_eq_true (by first | (with_reducible assumption) | assumption)
             have q20 : (((rd_T68 l0_1 x16_1).f1) : Int) < ((x7_1.length : Int) : Int) := of_decide_eq_true (by first | (with_reducible assumption) | assumption)
             obtain ⟨hx20_0, hf20_0⟩ := Kd.R_celln 0 HO_7.out (((rd_T68 l0_1 x16_1).f1) : Int) p20 q20
             replace p20 := eq_true p20
             replace q20 := eq_true q20
             have HP30 := Kd.R_putn HO_7.out (((rd_T68 l0_1 x16_1).f1) : Int) (wrap64 ((wrap64 ((rd y493 ((rd_T68 l0_1 x16_1).f1)) - (rd l2 ((rd_T68 l0_1 x16_1).f1)))) + (rd l2 ((rd_T68 l0_1 x16_1).f0))))
             rw [← Ny497.out] at HP30
             have HQ30 := Aside0.mk HP30
             clear HP30
             refine start_ (n := 22) (S := fun w' => w'.cell? ⟨gb489, 0, none⟩ = some (.int .i64 ((rd_T68 l0_1 x16_1).f0)) ∧ w'.cell? ⟨gb489, 1, none⟩ = some (.int .i64 ((rd_T68 l0_1 x16_1).f1)) ∧ w'.cell? ⟨go18, (((rd_T68 l0_1 x16_1).f1)).toNat, none⟩ = some (.int .i64 (rd y493 ((rd_T68 l0_1 x16_1).f1))) ∧ w'.cell? (ad491.add (((rd_T68 l0_1 x16_1).f1)).toNat) = some (.int .i64 (rd l2 ((rd_T68 l0_1 x16_1).f1))) ∧ w'.cell? (ad491.add (((rd_T68 l0_1 x16_1).f0)).toNat) = some (.int .i64 (rd l2 ((rd_T68 l0_1 x16_1).f0)))) (ds := [21]) #[false, false, false, false, false, false, false, false, false, false, false, false, false, false, false, false, false, false, false, false, false, false] (by kernel_rfl) rfl rfl ⟨(blk_cell BK489.out 0).trans rfl, (blk_cell BK489.out 1).trans rfl, hx494_0, ((HB.out.cell (World.block_lt_of_cell? w _ hw495_0)).trans hw495_0), ((HB.out.cell (World.block_lt_of_cell? w _ hw496_0)).trans hw496_0)⟩ (fun hHeld => ?_); refine with_tabW spec_l04Fire.tab6 spec_l04Fire.bits6 (fun HT_ HW_ => ?_)
             generalize w28.drew = w29 at HO_7 BK481 BK489 HB HQ27 HQ30 hf20_0 hx20_0 hx494_0 hx495_0 hx496_0 hHeld ⊢
             refine pureT_ 0 41 HT_ ?_
             refine pureT_ 1 42 HT_ ?_
             refine pureT_ 3 44 HT_ ?_
             refine pureT_ 4 45 HT_ ?_
             refine pureT_ 8 49 HT_ ?_
             refine pureT_ 9 50 HT_ ?_
             refine pureT_ 14 55 HT_ ?_
             refine pureT_ 15 56 HT_ ?_
             refine takeT_ 2 43 HT_ HW_ hHeld rfl (by rintro w' ⟨s0, s1, s2, s3, s4⟩; go_simp; with_reducible rfl) ?_
             refine takeT_ 5 46 HT_ HW_ hHeld rfl (by rintro w' ⟨s0, s1, s2, s3, s4⟩; go_simp; with_reducible rfl) ?_
             refine pureT_ 6 47 HT_ ?_
             refine takeT_ 7 48 HT_ HW_ hHeld rfl (by rintro w' ⟨s0, s1, s2, s3, s4⟩; go_simp; with_reducible rfl) ?_
             refine takeT_ 10 51 HT_ HW_ hHeld rfl (by rintro w' ⟨s0, s1, s2, s3, s4⟩; go_simp; with_reducible rfl) ?_
             refine pureT_ 11 52 HT_ ?_
             refine takeT_ 12 53 HT_ HW_ hHeld rfl (by rintro w' ⟨s0, s1, s2, s3, s4⟩; go_simp; with_reducible rfl) ?_
             refine pureT_ 13 54 HT_ ?_
             refine takeT_ 16 57 HT_ HW_ hHeld rfl (by rintro w' ⟨s0, s1, s2, s3, s4⟩; go_simp; with_reducible rfl) ?_
             refine pureT_ 17 58 HT_ ?_
             refine takeT_ 18 59 HT_ HW_ hHeld rfl (by rintro w' ⟨s0, s1, s2, s3, s4⟩; go_simp; with_reducible rfl) ?_
             refine pureT_ 19 60 HT_ ?_
             refine pureT_ 20 61 HT_ ?_
             refine last_ (i := 21) (N := none) #[true, true, true, true, true, true, true, true, true, true, true, true, true, true, true, true, true, true, true, true, true, true] rfl rfl (one_of HT_.out (by kernel_rfl)) (by decide) (fun K hK => ?_)
             refine skip_ (w1 := ?_) (by rfl) rfl ?_ ?_
             rotate_left
             ·go_simp
              rfl
             refine hK.out _ _ ?_
             clear hK K
             refine done_ (done_of HT_.out (by kernel_rfl)) ?_
             try go_wp2
             go_roundg k1
             case measure => have := HK1.out; omega
             case rel => exact ⟨(y497), (wrap64 (x16_1 + 1)), (by first | rfl | (simp; done) | (simp [*]; done)), H', ⟨by have := HK1.out; omega⟩, ⟨by exact Rz HQ30⟩, ⟨by (with_reducible repeat (first | refine blk_drewN ?_ _ | refine blk_drew ?_ | refine blk_alloc ?_ _)); refine blk_far ?_ (by have h_ := Kd.R_ne HO_7.out BK481.out (by decide); intro e_; exact h_ (by rw [e_]; rfl)) _; exact Bz BK481⟩, ⟨by exact Lz3 HB GB18 GE481 GE489⟩⟩
            rw [if_neg c19] at H
            exact absurd H (by simp)
           rw [if_neg c17] at H
           exact absurd H (by simp)
          rw [if_neg c16] at H
          exact absurd H (by simp)
         rw [if_neg c15] at H
         exact absurd H (by simp)
        rw [if_neg c14] at H
        exact absurd H (by simp)
       rw [if_neg c13] at H
       exact absurd H (by simp)
      rw [if_neg c12] at H
      exact absurd H (by simp)
     rw [if_neg c11] at H
     exact absurd H (by simp)
    rw [if_neg c10] at H
    have c10b0 : decide (x16_1 < (l0_1.length : Int)) = false := decide_eq_false c10
    clear c10
    obtain rfl := Option.some.inj H
    go_wp2
    go_ret
    exact ⟨_, by first | rfl | (simp [errW_none, errW_some] <;> rfl) | (simp [*, errW_none, errW_some] <;> rfl), by exact Rz HO_7, by exact Lz1 HB GE481⟩
 rw [if_neg c4] at H
 exact absurd H (by simp)

/-! ### spec_FireScript: function 35 -/
def spec_FireScript.f (k : Nat) (a0_0 : Int) (l0_1 : List (S68)) (l1 : List Int) (l2 : List Int) : Option (List Int × Bool) := (spec_DivisorOk.f k a0_0 l0_1 l1).bind fun t499 => (if t499 = true then ((spec_ScriptOk.f k a0_0 l0_1 l2).bind fun t500 => (if t500 = true then ((spec_l04Fire.f k a0_0 l0_1 l1 l2).bind fun t501 => (some (t501, true))) else (some (([] : List Int), false)))) else (some (([] : List Int), false)))
set_option maxHeartbeats 8000000 in
set_option maxRecDepth 100000 in
theorem spec_FireScript.calls (k : Nat) (a0_0 : Int) (A0_1 : Option Addr) (c0_1 : Nat) (l0_1 : List (S68)) (A1 : Option Addr) (c1 : Nat) (l1 : List Int) (A2 : Option Addr) (c2 : Nat) (l2 : List Int) (r1 : List Int) (r2 : Bool) (w : World) (hr0_1 : Kd.C k68 w A0_1 l0_1.length l0_1) (hc0_1 : l0_1.length ≤ c0_1) (hr1 : Kd.C (Kd.int .i64) w A1 l1.length l1) (hc1 : l1.length ≤ c1) (hr2 : Kd.C (Kd.int .i64) w A2 l2.length l2) (hc2 : l2.length ≤ c2) (h : spec_FireScript.f k a0_0 l0_1 l1 l2 = some (r1, r2)) :
  Calls Try.prog 35 #[.agg #[.int .i64 a0_0, .slice A0_1 l0_1.length c0_1], .slice A1 l1.length c1, .slice A2 l2.length c2] w fun e w' => ∃ v0_ : Value, e = .returned (.tuple #[v0_, .bool r2]) ∧ Kd.R (Kd.int .i64) 3 w' w.heap.size (fun _ => True) v0_ r1 ∧ Below w.heap.size w w' := by
 have hu37 := Try.underlying37
 have HR0_1 := Aside0.mk hr0_1
 have HC0_1 := Aside0.mk hc0_1
 clear hr0_1 hc0_1
 have HR1 := Aside0.mk hr1
 have HC1 := Aside0.mk hc1
 clear hr1 hc1
 have HR2 := Aside0.mk hr2
 have HC2 := Aside0.mk hc2
 clear hr2 hc2
 have HB := Aside0.mk (Below.refl w.heap.size w)
 have H : ((spec_DivisorOk.f k a0_0 l0_1 l1).bind fun t499 => (if t499 = true then ((spec_ScriptOk.f k a0_0 l0_1 l2).bind fun t500 => (if t500 = true then ((spec_l04Fire.f k a0_0 l0_1 l1 l2).bind fun t501 => (some (t501, true))) else (some (([] : List Int), false)))) else (some (([] : List Int), false)))) = some (r1, r2) := h
 clear h
 replace H := Option.bind_eq_some_iff.mp H
 obtain ⟨t499, A40, H⟩ := H
 replace H : (if t499 = true then ((spec_ScriptOk.f k a0_0 l0_1 l2).bind fun t500 => (if t500 = true then ((spec_l04Fire.f k a0_0 l0_1 l1 l2).bind fun t501 => (some (t501, true))) else (some (([] : List Int), false)))) else (some (([] : List Int), false))) = some (r1, r2) := H
 have A4 := Aside0.mk A40
 clear A40
 by_cases c5 : t499 = true
 ·subst c5
  have H1 : ((spec_ScriptOk.f k a0_0 l0_1 l2).bind fun t500 => (if t500 = true then ((spec_l04Fire.f k a0_0 l0_1 l1 l2).bind fun t501 => (some (t501, true))) else (some (([] : List Int), false)))) = some (r1, r2) := by rw [if_pos rfl] at H; exact H
  clear H
  have H := H1
  clear H1
  replace H := Option.bind_eq_some_iff.mp H
  obtain ⟨t500, A60, H⟩ := H
  replace H : (if t500 = true then ((spec_l04Fire.f k a0_0 l0_1 l1 l2).bind fun t501 => (some (t501, true))) else (some (([] : List Int), false))) = some (r1, r2) := H
  have A6 := Aside0.mk A60
  clear A60
  by_cases c7 : t500 = true
  ·subst c7
   have H1 : ((spec_l04Fire.f k a0_0 l0_1 l1 l2).bind fun t501 => (some (t501, true))) = some (r1, r2) := by rw [if_pos rfl] at H; exact H
   clear H
   have H := H1
   clear H1
   replace H := Option.bind_eq_some_iff.mp H
   obtain ⟨t501, A80, H⟩ := H
   replace H : (some (t501, true)) = some (r1, r2) := H
   have A8 := Aside0.mk A80
   clear A80
   simp only [Option.some.injEq, Prod.mk.injEq] at H
   obtain ⟨rfl, rfl⟩ := H
   go_enter Try.func35, Try.ntmps35
   go_wp2_with (first | ((with_reducible refine gate_dst (N := 3) rfl ?_); refine box_event ?hg (N := 3) ?hd (cs := #[.int .i64 a0_0, .slice A0_1 l0_1.length c0_1]) (t := 37) ?hr ?_; (case hd => rfl); (case hg => rfl); (case hr => first | (go_simp; done) | (go_simp; rfl)); intro gb498 hg w9 hbox hb; have BK498 := Aside0.mk (hbox); have GW498 := Aside0.mk ((by rw [hg]; exact (below_size (Lz HB)) : w.heap.size ≤ gb498)); have GE498 := Aside0.mk ((by rw [hg]; exact (below_size (Lz HB)) : w.heap.size ≤ gb498)); replace HB := Aside0.mk (below_step (Lz HB) hb); clear hb hbox hg; have hcz10_0 : w9.cell? ⟨gb498, 0, none⟩ = some (.int .i64 a0_0) := (blk_cell BK498.out 0).trans rfl; have hcz10_1 : w9.cell? ⟨gb498, 1, none⟩ = some (.slice A0_1 l0_1.length c0_1) := (blk_cell BK498.out 1).trans rfl; have hfz10_0 := blk_frozen BK498.out 0; have hfz10_1 := blk_frozen BK498.out 1) | ((with_reducible refine gate_callee (f := 78) rfl ?_); refine goesM_ (some 10) rfl rfl Try.func78 (by kernel_rfl) rfl #[.agg #[.int .i64 a0_0, .slice A0_1 l0_1.length c0_1], .slice A1 l1.length c1] rfl ?_; (with_reducible refine (spec_DivisorOk.calls k a0_0 _ _ l0_1 _ _ l1 true _ ?side1 ?side2 ?side3 ?side4 A4.out).mono ?_); (case side1 => exact Cz ((Kd.C_below HR0_1.out HB.out))); (case side2 => exact HC0_1.out); (case side3 => exact Cz ((Kd.C_below HR1.out HB.out))); (case side4 => exact HC1.out); rintro e w11 ⟨rfl, hb⟩; refine ⟨_, rfl, ?_⟩; replace BK498 := Aside0.mk (blk_below (g := gb498) (o := .cells #[.int .i64 a0_0, .slice A0_1 l0_1.length c0_1] 37 (0, 0)) (Bz BK498) hb); replace HB := Aside0.mk (below_step (by exact Lz1 HB GE498) hb); (try clear hb); (try clear hb2); (try clear hk); (try clear hi); have hcz12_0 : w11.cell? ⟨gb498, 0, none⟩ = some (.int .i64 a0_0) := (blk_cell BK498.out 0).trans rfl; have hcz12_1 : w11.cell? ⟨gb498, 1, none⟩ = some (.slice A0_1 l0_1.length c0_1) := (blk_cell BK498.out 1).trans rfl; have hfz12_0 := blk_frozen BK498.out 0; have hfz12_1 := blk_frozen BK498.out 1) | (go_at_call 79; (with_reducible refine (spec_ScriptOk.calls k a0_0 _ _ l0_1 _ _ l2 true _ ?side1 ?side2 ?side3 ?side4 A6.out).mono ?_); (case side1 => exact Cz ((Kd.C_below HR0_1.out HB.out))); (case side2 => exact HC0_1.out); (case side3 => exact Cz ((Kd.C_below HR2.out HB.out))); (case side4 => exact HC2.out); rintro e w13 ⟨rfl, hb⟩; replace BK498 := Aside0.mk (blk_below (g := gb498) (o := .cells #[.int .i64 a0_0, .slice A0_1 l0_1.length c0_1] 37 (0, 0)) (Bz BK498) hb); replace HB := Aside0.mk (below_step (by exact Lz1 HB GE498) hb); (try clear hb); (try clear hb2); (try clear hk); (try clear hi); have hcz14_0 : w13.cell? ⟨gb498, 0, none⟩ = some (.int .i64 a0_0) := (blk_cell BK498.out 0).trans rfl; have hcz14_1 : w13.cell? ⟨gb498, 1, none⟩ = some (.slice A0_1 l0_1.length c0_1) := (blk_cell BK498.out 1).trans rfl; have hfz14_0 := blk_frozen BK498.out 0; have hfz14_1 := blk_frozen BK498.out 1) | ((with_reducible refine gate_callee (f := 80) rfl ?_); refine goesM_ (some 21) rfl rfl Try.func80 (by kernel_rfl) rfl #[.agg #[.int .i64 a0_0, .slice A0_1 l0_1.length c0_1], .slice A1 l1.length c1, .slice A2 l2.length c2] rfl ?_; (with_reducible refine (spec_l04Fire.calls k a0_0 _ _ l0_1 _ _ l1 _ _ l2 t501 _ ?side1 ?side2 ?side3 ?side4 ?side5 ?side6 A8.out).mono ?_); (case side1 => exact Cz ((Kd.C_below HR0_1.out HB.out))); (case side2 => exact HC0_1.out); (case side3 => exact Cz ((Kd.C_below HR1.out HB.out))); (case side4 => exact HC1.out); (case side5 => exact Cz ((Kd.C_below HR2.out HB.out))); (case side6 => exact HC2.out); rintro e w15 ⟨v502, rfl, ho0, hb⟩; refine ⟨_, rfl, ?_⟩; have HO503 := Aside0.mk (Kd.R_lower ho0 (below_size (by exact Lz1 HB GE498))); replace BK498 := Aside0.mk (blk_below (g := gb498) (o := .cells #[.int .i64 a0_0, .slice A0_1 l0_1.length c0_1] 37 (0, 0)) (Bz BK498) hb); replace HB := Aside0.mk (below_step (by exact Lz1 HB GE498) hb); (try clear hb); (try clear ho0)))
   go_ret2
   exact ⟨_, by first | rfl | (simp [errW_none, errW_some] <;> rfl) | (simp [*, errW_none, errW_some] <;> rfl), by exact Rz HO503, by exact Lz1 HB GE498⟩
  replace c7 := Bool.eq_false_iff.mpr c7
  subst c7
  have H1 : (some (([] : List Int), false)) = some (r1, r2) := by rw [if_neg (show ¬ (false = true) by decide)] at H; exact H
  clear H
  have H := H1
  clear H1
  simp only [Option.some.injEq, Prod.mk.injEq] at H
  obtain ⟨rfl, rfl⟩ := H
  go_enter Try.func35, Try.ntmps35
  go_wp2_with (first | ((with_reducible refine gate_dst (N := 3) rfl ?_); refine box_event ?hg (N := 3) ?hd (cs := #[.int .i64 a0_0, .slice A0_1 l0_1.length c0_1]) (t := 37) ?hr ?_; (case hd => rfl); (case hg => rfl); (case hr => first | (go_simp; done) | (go_simp; rfl)); intro gb498 hg w16 hbox hb; have BK498 := Aside0.mk (hbox); have GW498 := Aside0.mk ((by rw [hg]; exact (below_size (Lz HB)) : w.heap.size ≤ gb498)); have GE498 := Aside0.mk ((by rw [hg]; exact (below_size (Lz HB)) : w.heap.size ≤ gb498)); replace HB := Aside0.mk (below_step (Lz HB) hb); clear hb hbox hg; have hcz17_0 : w16.cell? ⟨gb498, 0, none⟩ = some (.int .i64 a0_0) := (blk_cell BK498.out 0).trans rfl; have hcz17_1 : w16.cell? ⟨gb498, 1, none⟩ = some (.slice A0_1 l0_1.length c0_1) := (blk_cell BK498.out 1).trans rfl; have hfz17_0 := blk_frozen BK498.out 0; have hfz17_1 := blk_frozen BK498.out 1) | ((with_reducible refine gate_callee (f := 78) rfl ?_); refine goesM_ (some 10) rfl rfl Try.func78 (by kernel_rfl) rfl #[.agg #[.int .i64 a0_0, .slice A0_1 l0_1.length c0_1], .slice A1 l1.length c1] rfl ?_; (with_reducible refine (spec_DivisorOk.calls k a0_0 _ _ l0_1 _ _ l1 true _ ?side1 ?side2 ?side3 ?side4 A4.out).mono ?_); (case side1 => exact Cz ((Kd.C_below HR0_1.out HB.out))); (case side2 => exact HC0_1.out); (case side3 => exact Cz ((Kd.C_below HR1.out HB.out))); (case side4 => exact HC1.out); rintro e w18 ⟨rfl, hb⟩; refine ⟨_, rfl, ?_⟩; replace BK498 := Aside0.mk (blk_below (g := gb498) (o := .cells #[.int .i64 a0_0, .slice A0_1 l0_1.length c0_1] 37 (0, 0)) (Bz BK498) hb); replace HB := Aside0.mk (below_step (by exact Lz1 HB GE498) hb); (try clear hb); (try clear hb2); (try clear hk); (try clear hi); have hcz19_0 : w18.cell? ⟨gb498, 0, none⟩ = some (.int .i64 a0_0) := (blk_cell BK498.out 0).trans rfl; have hcz19_1 : w18.cell? ⟨gb498, 1, none⟩ = some (.slice A0_1 l0_1.length c0_1) := (blk_cell BK498.out 1).trans rfl; have hfz19_0 := blk_frozen BK498.out 0; have hfz19_1 := blk_frozen BK498.out 1) | (go_at_call 79; (with_reducible refine (spec_ScriptOk.calls k a0_0 _ _ l0_1 _ _ l2 false _ ?side1 ?side2 ?side3 ?side4 A6.out).mono ?_); (case side1 => exact Cz ((Kd.C_below HR0_1.out HB.out))); (case side2 => exact HC0_1.out); (case side3 => exact Cz ((Kd.C_below HR2.out HB.out))); (case side4 => exact HC2.out); rintro e w20 ⟨rfl, hb⟩; replace BK498 := Aside0.mk (blk_below (g := gb498) (o := .cells #[.int .i64 a0_0, .slice A0_1 l0_1.length c0_1] 37 (0, 0)) (Bz BK498) hb); replace HB := Aside0.mk (below_step (by exact Lz1 HB GE498) hb); (try clear hb); (try clear hb2); (try clear hk); (try clear hi)))
  go_ret2
  exact ⟨_, by first | rfl | (simp [errW_none, errW_some] <;> rfl) | (simp [*, errW_none, errW_some] <;> rfl), by first | exact Kd.R_nil _ _ _ _ _ | exact Kd.N_nil _ _ _ _ _ | exact Kd.V_nil _ _ _ _ _ | exact Kd.Q_nil _ _ _ _ _ | exact Kd.S_nil _ _ _ _ _, by exact Lz1 HB GE498⟩
 replace c5 := Bool.eq_false_iff.mpr c5
 subst c5
 have H1 : (some (([] : List Int), false)) = some (r1, r2) := by rw [if_neg (show ¬ (false = true) by decide)] at H; exact H
 clear H
 have H := H1
 clear H1
 simp only [Option.some.injEq, Prod.mk.injEq] at H
 obtain ⟨rfl, rfl⟩ := H
 go_enter Try.func35, Try.ntmps35
 go_wp2_with (first | ((with_reducible refine gate_dst (N := 3) rfl ?_); refine box_event ?hg (N := 3) ?hd (cs := #[.int .i64 a0_0, .slice A0_1 l0_1.length c0_1]) (t := 37) ?hr ?_; (case hd => rfl); (case hg => rfl); (case hr => first | (go_simp; done) | (go_simp; rfl)); intro gb498 hg w21 hbox hb; have BK498 := Aside0.mk (hbox); have GW498 := Aside0.mk ((by rw [hg]; exact (below_size (Lz HB)) : w.heap.size ≤ gb498)); have GE498 := Aside0.mk ((by rw [hg]; exact (below_size (Lz HB)) : w.heap.size ≤ gb498)); replace HB := Aside0.mk (below_step (Lz HB) hb); clear hb hbox hg; have hcz22_0 : w21.cell? ⟨gb498, 0, none⟩ = some (.int .i64 a0_0) := (blk_cell BK498.out 0).trans rfl; have hcz22_1 : w21.cell? ⟨gb498, 1, none⟩ = some (.slice A0_1 l0_1.length c0_1) := (blk_cell BK498.out 1).trans rfl; have hfz22_0 := blk_frozen BK498.out 0; have hfz22_1 := blk_frozen BK498.out 1) | ((with_reducible refine gate_callee (f := 78) rfl ?_); refine goesM_ (some 10) rfl rfl Try.func78 (by kernel_rfl) rfl #[.agg #[.int .i64 a0_0, .slice A0_1 l0_1.length c0_1], .slice A1 l1.length c1] rfl ?_; (with_reducible refine (spec_DivisorOk.calls k a0_0 _ _ l0_1 _ _ l1 false _ ?side1 ?side2 ?side3 ?side4 A4.out).mono ?_); (case side1 => exact Cz ((Kd.C_below HR0_1.out HB.out))); (case side2 => exact HC0_1.out); (case side3 => exact Cz ((Kd.C_below HR1.out HB.out))); (case side4 => exact HC1.out); rintro e w23 ⟨rfl, hb⟩; refine ⟨_, rfl, ?_⟩; replace BK498 := Aside0.mk (blk_below (g := gb498) (o := .cells #[.int .i64 a0_0, .slice A0_1 l0_1.length c0_1] 37 (0, 0)) (Bz BK498) hb); replace HB := Aside0.mk (below_step (by exact Lz1 HB GE498) hb); (try clear hb); (try clear hb2); (try clear hk); (try clear hi)))
 go_ret2
 exact ⟨_, by first | rfl | (simp [errW_none, errW_some] <;> rfl) | (simp [*, errW_none, errW_some] <;> rfl), by first | exact Kd.R_nil _ _ _ _ _ | exact Kd.N_nil _ _ _ _ _ | exact Kd.V_nil _ _ _ _ _ | exact Kd.Q_nil _ _ _ _ _ | exact Kd.S_nil _ _ _ _ _, by exact Lz1 HB GE498⟩

/-! ### impl_within: function 67 -/
def impl_within.f (a0 : Int) (a1 : Int) (a2 : Int) : Option (Bool) := if a0 ≥ a1 then (some (decide (a0 ≤ a2))) else (some false)
set_option maxHeartbeats 8000000 in
set_option maxRecDepth 100000 in
theorem impl_within.calls (a0 : Int) (a1 : Int) (a2 : Int) (r : Bool) (w : World) (h : impl_within.f a0 a1 a2 = some r) :
  Calls Try.prog 67 #[.int .i64 a0, .int .i64 a1, .int .i64 a2] w fun e w' => e = .returned (.bool r) ∧ Drawn0 w w' := by
 have H : (if a0 ≥ a1 then (some (decide (a0 ≤ a2))) else (some false)) = some r := h
 clear h
 by_cases c4 : a0 ≥ a1
 ·rw [if_pos c4] at H
  have c4b0 : decide (a1 ≤ a0) = true := decide_eq_true c4
  clear c4
  obtain rfl := Option.some.inj H
  go_enter Try.func67, Try.ntmps67
  go_wp2
  go_ret
  exact ⟨by first | rfl | (simp; done) | (simp [*]; done), by repeat (first | exact Drawn0.refl _ | apply Drawn0.step)⟩
 rw [if_neg c4] at H
 have c4b0 : decide (a1 ≤ a0) = false := decide_eq_false c4
 clear c4
 obtain rfl := Option.some.inj H
 go_enter Try.func67, Try.ntmps67
 go_wp2
 go_ret
 exact ⟨by first | rfl | (simp; done) | (simp [*]; done), by repeat (first | exact Drawn0.refl _ | apply Drawn0.step)⟩

/-! ### impl_allWithin: function 95 -/
def impl_allWithin.l0 : Nat → Int → Int → List Int → Int → Int → Option (Bool)
 | 0, _, _, _, _, _ => none
 | k + 1, x1, x2, x9, x10, x11 => if x11 < x10 then (if 0 ≤ x11 then (if x11 < (x9.length : Int) then ((impl_within.f (rd x9 x11) x1 x2).bind fun t158 => (if t158 = true then (impl_allWithin.l0 k x1 x2 x9 x10 (wrap64 (x11 + 1))) else (some false))) else (none)) else (none)) else (some true)
def impl_allWithin.f (k : Nat) (l0 : List Int) (a1 : Int) (a2 : Int) : Option (Bool) := impl_allWithin.l0 k a1 a2 l0 (l0.length : Int) 0
set_option maxHeartbeats 8000000 in
set_option maxRecDepth 100000 in
theorem impl_allWithin.calls (k : Nat) (A0 : Option Addr) (c0 : Nat) (l0 : List Int) (a1 : Int) (a2 : Int) (r : Bool) (w : World) (hr0 : Kd.C (Kd.int .i64) w A0 l0.length l0) (hc0 : l0.length ≤ c0) (h : impl_allWithin.f k l0 a1 a2 = some r) :
  Calls Try.prog 95 #[.slice A0 l0.length c0, .int .i64 a1, .int .i64 a2] w fun e w' => e = .returned (.bool r) ∧ Drawn0 w w' := by
 have HR0 := Aside0.mk hr0
 have HC0 := Aside0.mk hc0
 clear hr0 hc0
 have H : (impl_allWithin.l0 k a1 a2 l0 (l0.length : Int) 0) = some r := h
 clear h
 have H' := Aside0.mk H
 clear H
 go_enter Try.func95, Try.ntmps95
 go_wp2
 go_loopg [11] k (fun kq v11 w' => ∃ (x11_1 : Int), v11 = .int .i64 x11_1 ∧ Aside0 (impl_allWithin.l0 kq a1 a2 l0 (l0.length : Int) x11_1 = some r) ∧ Aside0 (kq ≤ k) ∧ Drawn0 w w')
 case atStart => exact ⟨(0), (by first | rfl | (simp; done) | (simp [*]; done)), H', ⟨Nat.le_refl _⟩, by repeat (first | exact Drawn0.refl _ | apply Drawn0.step)⟩
 case round =>
  clear H'
  obtain ⟨x11_1, rfl, HA, HK1, ⟨m1, rfl⟩⟩ := hrel
  cases gk with
  | zero => exact absurd HA.out (by simp [impl_allWithin.l0])
  | succ k1 =>
   have H := HA.out
   clear HA
   simp only [impl_allWithin.l0] at H
   by_cases c4 : x11_1 < (l0.length : Int)
   ·rw [if_pos c4] at H
    have c4b0 : decide (x11_1 < (l0.length : Int)) = true := decide_eq_true c4
    clear c4
    by_cases c5 : 0 ≤ x11_1
    ·rw [if_pos c5] at H
     have c5b0 : decide (0 ≤ x11_1) = true := decide_eq_true c5
     clear c5
     by_cases c6 : x11_1 < (l0.length : Int)
     ·rw [if_pos c6] at H
      have c6b0 : decide (x11_1 < (l0.length : Int)) = true := decide_eq_true c6
      clear c6
      replace H := Option.bind_eq_some_iff.mp H
      obtain ⟨t158, A70, H⟩ := H
      replace H : (if t158 = true then (impl_allWithin.l0 k1 a1 a2 l0 (l0.length : Int) (wrap64 (x11_1 + 1))) else (some false)) = some r := H
      have A7 := Aside0.mk A70
      clear A70
      by_cases c8 : t158 = true
      ·subst c8
       have H1 : (impl_allWithin.l0 k1 a1 a2 l0 (l0.length : Int) (wrap64 (x11_1 + 1))) = some r := by rw [if_pos rfl] at H; exact H
       clear H
       have H := H1
       clear H1
       have H' := Aside0.mk H
       clear H
       have p157 : 0 ≤ (x11_1 : Int) := of_decide_eq_true (by first | (with_reducible assumption) | assumption)
       have q157 : x11_1 < (l0.length : Int) := of_decide_eq_true (by first | (with_reducible assumption) | assumption)
       obtain ⟨ad157, e157, hx157_0⟩ := Kd.at_int HR0.out x11_1 p157 q157
       cases e157
       replace p157 := eq_true p157
       replace q157 := eq_true q157
       go_wp2_with (first | ((with_reducible refine gate_callee (f := 67) rfl ?_); refine goesM_ (some 18) rfl rfl Try.func67 (by kernel_rfl) rfl #[.int .i64 (rd l0 x11_1), .int .i64 a1, .int .i64 a2] rfl ?_; (with_reducible refine (impl_within.calls (rd l0 x11_1) a1 a2 true _ A7.out).mono ?_); rintro e w' ⟨rfl, ⟨nd, rfl⟩⟩; refine ⟨_, rfl, ?_⟩))
       go_roundg k1
       case measure => have := HK1.out; omega
       case rel => exact ⟨(wrap64 (x11_1 + 1)), (by first | rfl | (simp; done) | (simp [*]; done)), H', ⟨by have := HK1.out; omega⟩, by repeat (first | exact Drawn0.refl _ | apply Drawn0.step)⟩
      replace c8 := Bool.eq_false_iff.mpr c8
      subst c8
      have H1 : (some false) = some r := by rw [if_neg (show ¬ (false = true) by decide)] at H; exact H
      clear H
      have H := H1
      clear H1
      obtain rfl := Option.some.inj H
      have p157 : 0 ≤ (x11_1 : Int) := of_decide_eq_true (by first | (with_reducible assumption) | assumption)
      have q157 : x11_1 < (l0.length : Int) := of_decide_eq_true (by first | (with_reducible assumption) | assumption)
      obtain ⟨ad157, e157, hx157_0⟩ := Kd.at_int HR0.out x11_1 p157 q157
      cases e157
      replace p157 := eq_true p157
      replace q157 := eq_true q157
      go_wp2_with (first | ((with_reducible refine gate_callee (f := 67) rfl ?_); refine goesM_ (some 18) rfl rfl Try.func67 (by kernel_rfl) rfl #[.int .i64 (rd l0 x11_1), .int .i64 a1, .int .i64 a2] rfl ?_; (with_reducible refine (impl_within.calls (rd l0 x11_1) a1 a2 false _ A7.out).mono ?_); rintro e w' ⟨rfl, ⟨nd, rfl⟩⟩; refine ⟨_, rfl, ?_⟩))
      go_ret
      exact ⟨by first | rfl | (simp; done) | (simp [*]; done), by repeat (first | exact Drawn0.refl _ | apply Drawn0.step)⟩
     rw [if_neg c6] at H
     exact absurd H (by simp)
    rw [if_neg c5] at H
    exact absurd H (by simp)
   rw [if_neg c4] at H
   have c4b0 : decide (x11_1 < (l0.length : Int)) = false := decide_eq_false c4
   clear c4
   obtain rfl := Option.some.inj H
   go_wp2
   go_ret
   exact ⟨by first | rfl | (simp; done) | (simp [*]; done), by repeat (first | exact Drawn0.refl _ | apply Drawn0.step)⟩

end Go.Proofs.Ytfpcgccnhpfcnaa.P
