/- Functions of the program as plain Lean functions and that the machine's calls answer as they do, the words of the print that these use, lemmas and plain proofs of laws. Put together by a program of this work that leaves out what nothing uses; Lean checks it. -/
import Derived.Test.YtchkndeeaoohpaaG50de400f9e
import Derived.Test.YtchkndeeaoohpaaGf57f423840
import Derived.Test.YtchkndeeaoohpaaG5a8a96a43c
section
namespace Go.Proofs.Ytchkndeeaoohpaa.P
open Go.RowKit Go.Proofs.YtchkndeeaoohpaaW.PrintWords Go.Proofs.YtchkndeeaoohpaaW.PrintLast Go.Proofs.YtchkndeeaoohpaaW.PrintMore
attribute [local go_sem] max2_int min2_int max_two min_two max_three min_three max_four min_four
set_option linter.unusedVariables false
set_option linter.unusedSimpArgs false
def impl_isVertex.f (k : Nat) (a0_0 : Int) (l0_1 : List (S75)) (a1 : Int) : Option (Bool) := (impl_GraphOk.f k a0_0 l0_1).bind fun t307 => (if t307 = true then ((impl_within.f a1 0 (wrap64 (a0_0 - 1))).bind fun t308 => (some t308)) else (some false))
set_option maxHeartbeats 8000000 in
set_option maxRecDepth 100000 in
theorem impl_isVertex.calls (k : Nat) (a0_0 : Int) (A0_1 : Option Addr) (c0_1 : Nat) (l0_1 : List (S75)) (a1 : Int) (r : Bool) (w : World) (hr0_1 : Kd.C k75 w A0_1 l0_1.length l0_1) (hc0_1 : l0_1.length ≤ c0_1) (h : impl_isVertex.f k a0_0 l0_1 a1 = some r) :
  Calls Try.prog 74 #[.agg #[.int .i64 a0_0, .slice A0_1 l0_1.length c0_1], .int .i64 a1] w fun e w' => e = .returned (.bool r) ∧ Below w.heap.size w w' := by
 have hu42 := Try.underlying42
 have HR0_1 := Aside0.mk hr0_1
 have HC0_1 := Aside0.mk hc0_1
 clear hr0_1 hc0_1
 have HB := Aside0.mk (Below.refl w.heap.size w)
 have H : ((impl_GraphOk.f k a0_0 l0_1).bind fun t307 => (if t307 = true then ((impl_within.f a1 0 (wrap64 (a0_0 - 1))).bind fun t308 => (some t308)) else (some false))) = some r := h
 clear h
 replace H := Option.bind_eq_some_iff.mp H
 obtain ⟨t307, A30, H⟩ := H
 replace H : (if t307 = true then ((impl_within.f a1 0 (wrap64 (a0_0 - 1))).bind fun t308 => (some t308)) else (some false)) = some r := H
 have A3 := Aside0.mk A30
 clear A30
 by_cases c4 : t307 = true
 ·subst c4
  have H1 : ((impl_within.f a1 0 (wrap64 (a0_0 - 1))).bind fun t308 => (some t308)) = some r := by rw [if_pos rfl] at H; exact H
  clear H
  have H := H1
  clear H1
  replace H := Option.bind_eq_some_iff.mp H
  obtain ⟨t308, A50, H⟩ := H
  replace H : (some t308) = some r := H
  have A5 := Aside0.mk A50
  clear A50
  obtain rfl := Option.some.inj H
  go_enter Try.func74, Try.ntmps74
  go_wp2_with (first | ((with_reducible refine gate_dst (N := 2) rfl ?_); refine box_event ?hg (N := 2) ?hd (cs := #[.int .i64 a0_0, .slice A0_1 l0_1.length c0_1]) (t := 42) ?hr ?_; (case hd => rfl); (case hg => rfl); (case hr => first | (go_simp; done) | (go_simp; rfl)); intro gb306 hg w6 hbox hb; have BK306 := Aside0.mk (hbox); have GW306 := Aside0.mk ((by rw [hg]; exact (below_size (Lz HB)) : w.heap.size ≤ gb306)); have GE306 := Aside0.mk ((by rw [hg]; exact (below_size (Lz HB)) : w.heap.size ≤ gb306)); replace HB := Aside0.mk (below_step (Lz HB) hb); clear hb hbox hg; have hcz7_0 : w6.cell? ⟨gb306, 0, none⟩ = some (.int .i64 a0_0) := (blk_cell BK306.out 0).trans rfl; have hcz7_1 : w6.cell? ⟨gb306, 1, none⟩ = some (.slice A0_1 l0_1.length c0_1) := (blk_cell BK306.out 1).trans rfl; have hfz7_0 := blk_frozen BK306.out 0; have hfz7_1 := blk_frozen BK306.out 1) | ((with_reducible refine gate_callee (f := 53) rfl ?_); refine goesM_ (some 6) rfl rfl Try.func53 (by kernel_rfl) rfl #[.agg #[.int .i64 a0_0, .slice A0_1 l0_1.length c0_1]] rfl ?_; (with_reducible refine (impl_GraphOk.calls k a0_0 _ _ l0_1 true _ ?side1 ?side2 A3.out).mono ?_); (case side1 => exact Cz ((Kd.C_below HR0_1.out HB.out))); (case side2 => exact HC0_1.out); rintro e w8 ⟨rfl, hb⟩; refine ⟨_, rfl, ?_⟩; replace BK306 := Aside0.mk (blk_below (g := gb306) (o := .cells #[.int .i64 a0_0, .slice A0_1 l0_1.length c0_1] 42 (0, 0)) (Bz BK306) hb); replace HB := Aside0.mk (below_step (by exact Lz1 HB GE306) hb); (try clear hb); (try clear hb2); (try clear hk); (try clear hi); have hcz9_0 : w8.cell? ⟨gb306, 0, none⟩ = some (.int .i64 a0_0) := (blk_cell BK306.out 0).trans rfl; have hcz9_1 : w8.cell? ⟨gb306, 1, none⟩ = some (.slice A0_1 l0_1.length c0_1) := (blk_cell BK306.out 1).trans rfl; have hfz9_0 := blk_frozen BK306.out 0; have hfz9_1 := blk_frozen BK306.out 1) | (go_at_call 76; (with_reducible refine (impl_within.calls a1 0 (wrap64 (a0_0 - 1)) t308 _ A5.out).mono ?_); rintro e w' ⟨rfl, ⟨nd, rfl⟩⟩))
  go_ret
  exact ⟨by first | rfl | (simp [errW_none, errW_some] <;> rfl) | (simp [*, errW_none, errW_some] <;> rfl), by exact Lz1 HB GE306⟩
 replace c4 := Bool.eq_false_iff.mpr c4
 subst c4
 have H1 : (some false) = some r := by rw [if_neg (show ¬ (false = true) by decide)] at H; exact H
 clear H
 have H := H1
 clear H1
 obtain rfl := Option.some.inj H
 go_enter Try.func74, Try.ntmps74
 go_wp2_with (first | ((with_reducible refine gate_dst (N := 2) rfl ?_); refine box_event ?hg (N := 2) ?hd (cs := #[.int .i64 a0_0, .slice A0_1 l0_1.length c0_1]) (t := 42) ?hr ?_; (case hd => rfl); (case hg => rfl); (case hr => first | (go_simp; done) | (go_simp; rfl)); intro gb306 hg w10 hbox hb; have BK306 := Aside0.mk (hbox); have GW306 := Aside0.mk ((by rw [hg]; exact (below_size (Lz HB)) : w.heap.size ≤ gb306)); have GE306 := Aside0.mk ((by rw [hg]; exact (below_size (Lz HB)) : w.heap.size ≤ gb306)); replace HB := Aside0.mk (below_step (Lz HB) hb); clear hb hbox hg; have hcz11_0 : w10.cell? ⟨gb306, 0, none⟩ = some (.int .i64 a0_0) := (blk_cell BK306.out 0).trans rfl; have hcz11_1 : w10.cell? ⟨gb306, 1, none⟩ = some (.slice A0_1 l0_1.length c0_1) := (blk_cell BK306.out 1).trans rfl; have hfz11_0 := blk_frozen BK306.out 0; have hfz11_1 := blk_frozen BK306.out 1) | ((with_reducible refine gate_callee (f := 53) rfl ?_); refine goesM_ (some 6) rfl rfl Try.func53 (by kernel_rfl) rfl #[.agg #[.int .i64 a0_0, .slice A0_1 l0_1.length c0_1]] rfl ?_; (with_reducible refine (impl_GraphOk.calls k a0_0 _ _ l0_1 false _ ?side1 ?side2 A3.out).mono ?_); (case side1 => exact Cz ((Kd.C_below HR0_1.out HB.out))); (case side2 => exact HC0_1.out); rintro e w12 ⟨rfl, hb⟩; refine ⟨_, rfl, ?_⟩; replace BK306 := Aside0.mk (blk_below (g := gb306) (o := .cells #[.int .i64 a0_0, .slice A0_1 l0_1.length c0_1] 42 (0, 0)) (Bz BK306) hb); replace HB := Aside0.mk (below_step (by exact Lz1 HB GE306) hb); (try clear hb); (try clear hb2); (try clear hk); (try clear hi)))
 go_ret
 exact ⟨by first | rfl | (simp [errW_none, errW_some] <;> rfl) | (simp [*, errW_none, errW_some] <;> rfl), by exact Lz1 HB GE306⟩
mutual
def impl_DistancesFrom.l0 : Nat → Int → List Int → Int → Int → Int → List (S75) → Option (List Int)
 | 0, _, _, _, _, _, _ => none
 | k + 1, x1, x5, x17, x18, x310000, x310001 => if x18 < x17 then (if 0 ≤ x18 then (if x18 < (x5.length : Int) then (impl_DistancesFrom.l0 k x1 (x5.set (x18 : Int).toNat x310000) x17 (wrap64 (x18 + 1)) x310000 x310001) else (none)) else (none)) else (if 0 ≤ x1 then (if x1 < (x5.length : Int) then (impl_DistancesFrom.l1 k (x5.set (x1 : Int).toNat 0) (x5.length : Int) 0 x310000 x310001) else (none)) else (none))
def impl_DistancesFrom.l1 : Nat → List Int → Int → Int → Int → List (S75) → Option (List Int)
 | 0, _, _, _, _, _ => none
 | k + 1, x5, x31, x32, x310000, x310001 => if x32 < x31 then (impl_DistancesFrom.l2 k x5 x31 x32 x310001 (x310001.length : Int) 0 x310000 x310001) else (some x5)
def impl_DistancesFrom.l2 : Nat → List Int → Int → Int → List (S75) → Int → Int → Int → List (S75) → Option (List Int)
 | 0, _, _, _, _, _, _, _, _ => none
 | k + 1, x5, x31, x32, x35, x36, x37, x310000, x310001 => if x37 < x36 then (if 0 ≤ x37 then (if x37 < (x35.length : Int) then (if 0 ≤ ((rd_T75 x35 x37).f0) then (if ((rd_T75 x35 x37).f0) < (x5.length : Int) then (if 0 ≤ ((rd_T75 x35 x37).f1) then (if ((rd_T75 x35 x37).f1) < (x5.length : Int) then ((some (x5.set (((rd_T75 x35 x37).f0) : Int).toNat (mn (rd x5 ((rd_T75 x35 x37).f0)) (wrap64 ((rd x5 ((rd_T75 x35 x37).f1)) + 1))) : List Int)).bind fun y320 => (impl_DistancesFrom.l2 k (y320.set (((rd_T75 x35 x37).f1) : Int).toNat (mn (rd y320 ((rd_T75 x35 x37).f1)) (wrap64 ((rd y320 ((rd_T75 x35 x37).f0)) + 1)))) x31 x32 x35 x36 (wrap64 (x37 + 1)) x310000 x310001)) else (none)) else (none)) else (none)) else (none)) else (none)) else (none)) else (impl_DistancesFrom.l1 k x5 x31 (wrap64 (x32 + 1)) x310000 x310001)
end
def impl_DistancesFrom.f (k : Nat) (a0_0 : Int) (l0_1 : List (S75)) (a1 : Int) : Option (List Int) := (impl_isVertex.f k a0_0 l0_1 a1).bind fun t310 => (if t310 = true then (if 0 ≤ a0_0 then (if (a0_0 : Int).toNat ≤ 35184372088832 then ((some (List.replicate (a0_0 : Int).toNat 0 : List Int)).bind fun y311 => (impl_DistancesFrom.l0 k a1 y311 (y311.length : Int) 0 a0_0 l0_1)) else (none)) else (none)) else (some ([] : List Int)))
def impl_DistancesFrom.T15 : Bool × List (List Nat × List Nat) := (true, [([], []), ([], []), ([1], [1]), ([], []), ([], []), ([4], [4]), ([3, 5], [3, 5]), ([6], [6]), ([], []), ([], []), ([9], [9]), ([8, 10], [8, 10]), ([11], [11]), ([12], [12]), ([7, 13], [7, 13]), ([0, 2, 0, 1, 2, 3, 4, 5, 6, 7, 8, 9, 10, 11, 12, 13, 14], [0, 2]), ([15, 14, 0, 1, 2, 3, 4, 5, 6, 7, 8, 9, 10, 11, 12, 13, 14], [14, 15])])
def impl_DistancesFrom.B15 : List Nat := [0, 0, 2, 0, 0, 16, 56, 120, 0, 0, 512, 1792, 3840, 7936, 16376, 32767, 65535]
theorem impl_DistancesFrom.tab15 : rtab .any (opsOf Try.f48 15) = impl_DistancesFrom.T15 := by kernel_rfl
theorem impl_DistancesFrom.bits15 : waitsOk impl_DistancesFrom.T15.2 impl_DistancesFrom.B15 = true := by kernel_rfl
def impl_DistancesFrom.T16 : Bool × List (List Nat × List Nat) := (true, [([], []), ([], []), ([1], [1]), ([], []), ([], []), ([4], [4]), ([3, 5], [3, 5]), ([6], [6]), ([], []), ([], []), ([9], [9]), ([8, 10], [8, 10]), ([11], [11]), ([12], [12]), ([7, 13], [7, 13]), ([0, 2, 0, 1, 2, 3, 4, 5, 6, 7, 8, 9, 10, 11, 12, 13, 14], [0, 2]), ([15, 14, 0, 1, 2, 3, 4, 5, 6, 7, 8, 9, 10, 11, 12, 13, 14], [14, 15])])
def impl_DistancesFrom.B16 : List Nat := [0, 0, 2, 0, 0, 16, 56, 120, 0, 0, 512, 1792, 3840, 7936, 16376, 32767, 65535]
theorem impl_DistancesFrom.tab16 : rtab .any (opsOf Try.f48 16) = impl_DistancesFrom.T16 := by kernel_rfl
theorem impl_DistancesFrom.bits16 : waitsOk impl_DistancesFrom.T16.2 impl_DistancesFrom.B16 = true := by kernel_rfl
set_option maxHeartbeats 8000000 in
set_option maxRecDepth 100000 in
theorem impl_DistancesFrom.calls (k : Nat) (a0_0 : Int) (A0_1 : Option Addr) (c0_1 : Nat) (l0_1 : List (S75)) (a1 : Int) (r : List Int) (w : World) (hr0_1 : Kd.C k75 w A0_1 l0_1.length l0_1) (hc0_1 : l0_1.length ≤ c0_1) (h : impl_DistancesFrom.f k a0_0 l0_1 a1 = some r) :
  Calls Try.prog 48 #[.agg #[.int .i64 a0_0, .slice A0_1 l0_1.length c0_1], .int .i64 a1] w fun e w' => ∃ v0_ : Value, e = .returned (v0_) ∧ Kd.R (Kd.int .i64) 3 w' w.heap.size (fun _ => True) v0_ r ∧ Below w.heap.size w w' := by
 have hu42 := Try.underlying42
 have hu75 := Try.underlying75
 have HR0_1 := Aside0.mk hr0_1
 have HC0_1 := Aside0.mk hc0_1
 clear hr0_1 hc0_1
 have HB := Aside0.mk (Below.refl w.heap.size w)
 have H : ((impl_isVertex.f k a0_0 l0_1 a1).bind fun t310 => (if t310 = true then (if 0 ≤ a0_0 then (if (a0_0 : Int).toNat ≤ 35184372088832 then ((some (List.replicate (a0_0 : Int).toNat 0 : List Int)).bind fun y311 => (impl_DistancesFrom.l0 k a1 y311 (y311.length : Int) 0 a0_0 l0_1)) else (none)) else (none)) else (some ([] : List Int)))) = some r := h
 clear h
 replace H := Option.bind_eq_some_iff.mp H
 obtain ⟨t310, A30, H⟩ := H
 replace H : (if t310 = true then (if 0 ≤ a0_0 then (if (a0_0 : Int).toNat ≤ 35184372088832 then ((some (List.replicate (a0_0 : Int).toNat 0 : List Int)).bind fun y311 => (impl_DistancesFrom.l0 k a1 y311 (y311.length : Int) 0 a0_0 l0_1)) else (none)) else (none)) else (some ([] : List Int))) = some r := H
 have A3 := Aside0.mk A30
 clear A30
 by_cases c4 : t310 = true
 ·subst c4
  have H1 : (if 0 ≤ a0_0 then (if (a0_0 : Int).toNat ≤ 35184372088832 then ((some (List.replicate (a0_0 : Int).toNat 0 : List Int)).bind fun y311 => (impl_DistancesFrom.l0 k a1 y311 (y311.length : Int) 0 a0_0 l0_1)) else (none)) else (none)) = some r := by rw [if_pos rfl] at H; exact H
  clear H
  have H := H1
  clear H1
  by_cases c5 : 0 ≤ a0_0
  ·rw [if_pos c5] at H
   have c5b0 := eq_true c5
   have c5b1 : decide (0 ≤ a0_0) = true := decide_eq_true c5
   clear c5
   by_cases c6 : (a0_0 : Int).toNat ≤ 35184372088832
   ·rw [if_pos c6] at H
    have c6b0 := eq_true c6
    have c6b1 : decide ((a0_0 : Int).toNat ≤ 35184372088832) = true := decide_eq_true c6
    clear c6
    obtain ⟨y311, hy311⟩ : ∃ y_ : List Int, y_ = (List.replicate (a0_0 : Int).toNat 0) := ⟨_, rfl⟩
    replace H : (impl_DistancesFrom.l0 k a1 y311 (y311.length : Int) 0 a0_0 l0_1) = some r := by first | (rw [hy311]; with_reducible exact H) | (have H2_ := (Option.bind_some _ _).symm.trans H; rw [hy311]; with_reducible exact H2_) | (have H2_ := (Option.bind_some _ _).symm.trans H; with_reducible exact H2_) | with_reducible exact H | (rw [hy311]; exact H) | exact H
    have Ny311 := Aside0.mk hy311
    clear hy311
    have H' := Aside0.mk H
    clear H
    go_enter Try.func48, Try.ntmps48
    go_wp2_with (first | ((with_reducible refine gate_dst (N := 2) rfl ?_); refine box_event ?hg (N := 2) ?hd (cs := #[.int .i64 a0_0, .slice A0_1 l0_1.length c0_1]) (t := 42) ?hr ?_; (case hd => rfl); (case hg => rfl); (case hr => first | (go_simp; done) | (go_simp; rfl)); intro gb309 hg w7 hbox hb; have BK309 := Aside0.mk (hbox); have GW309 := Aside0.mk ((by rw [hg]; exact (below_size (Lz HB)) : w.heap.size ≤ gb309)); have GE309 := Aside0.mk ((by rw [hg]; exact (below_size (Lz HB)) : w.heap.size ≤ gb309)); replace HB := Aside0.mk (below_step (Lz HB) hb); clear hb hbox hg; have hcz8_0 : w7.cell? ⟨gb309, 0, none⟩ = some (.int .i64 a0_0) := (blk_cell BK309.out 0).trans rfl; have hcz8_1 : w7.cell? ⟨gb309, 1, none⟩ = some (.slice A0_1 l0_1.length c0_1) := (blk_cell BK309.out 1).trans rfl; have hfz8_0 := blk_frozen BK309.out 0; have hfz8_1 := blk_frozen BK309.out 1) | ((with_reducible refine gate_callee (f := 74) rfl ?_); refine goesM_ (some 11) rfl rfl Try.func74 (by kernel_rfl) rfl #[.agg #[.int .i64 a0_0, .slice A0_1 l0_1.length c0_1], .int .i64 a1] rfl ?_; (with_reducible refine (impl_isVertex.calls k a0_0 _ _ l0_1 a1 true _ ?side1 ?side2 A3.out).mono ?_); (case side1 => exact Cz ((Kd.C_below HR0_1.out HB.out))); (case side2 => exact HC0_1.out); rintro e w9 ⟨rfl, hb⟩; refine ⟨_, rfl, ?_⟩; replace BK309 := Aside0.mk (blk_below (g := gb309) (o := .cells #[.int .i64 a0_0, .slice A0_1 l0_1.length c0_1] 42 (0, 0)) (Bz BK309) hb); replace HB := Aside0.mk (below_step (by exact Lz1 HB GE309) hb); (try clear hb); (try clear hb2); (try clear hk); (try clear hi); have hcz10_0 : w9.cell? ⟨gb309, 0, none⟩ = some (.int .i64 a0_0) := (blk_cell BK309.out 0).trans rfl; have hcz10_1 : w9.cell? ⟨gb309, 1, none⟩ = some (.slice A0_1 l0_1.length c0_1) := (blk_cell BK309.out 1).trans rfl; have hfz10_0 := blk_frozen BK309.out 0; have hfz10_1 := blk_frozen BK309.out 1) | ((with_reducible refine gate_dst (N := 15) rfl ?_); refine Kd.R_make (Kd.int .i64) _ 3 rfl (N := 15) rfl 27 _ _ rfl a0_0 rfl rfl Try.underlying27 (.int .i64 0) 8 info3 rfl (by decide) (by omega) 0 (ok := fun _ => True) (okp := fun _ => True) rfl (fun _ hk => hk) trivial (ofA) (Nat.le_trans (Nat.mul_le_mul_right _ (ofA : a0_0.toNat ≤ 35184372088832)) (by omega)) (Below.refl _ _) (Nat.le_refl _) ?_; intro v312 w11 ho12 hb hg_ hnew_; clear hg_ hnew_; (first | rw [← Ny311.out] at ho12 | (simp only [Int.reduceToNat] at ho12; rw [← Ny311.out] at ho12)); have HO313 := Aside0.mk (Kd.R_lower ho12 (below_size (by exact Lz1 HB GE309))); replace BK309 := Aside0.mk (blk_below (g := gb309) (o := .cells #[.int .i64 a0_0, .slice A0_1 l0_1.length c0_1] 42 (0, 0)) (Bz BK309) hb); replace HB := Aside0.mk (below_step (by exact Lz1 HB GE309) hb); clear hb ho12; obtain ⟨Ao13, co13, eo13⟩ := Kd.R_slice HO313.out; subst eo13))
    go_loopg [18] k (fun kq v18 w' => ∃ (x5_1 : List Int) (x18_1 : Int), v18 = .int .i64 x18_1 ∧ Aside0 (impl_DistancesFrom.l0 kq a1 x5_1 (y311.length : Int) x18_1 a0_0 l0_1 = some r) ∧ Aside0 (kq ≤ k) ∧ Aside0 (Kd.R (Kd.int .i64) 3 w' w.heap.size (fun _ => True) (.slice Ao13 y311.length co13) x5_1) ∧ Aside0 (w'.heap[gb309]? = some (.cells #[.int .i64 a0_0, (.slice A0_1 l0_1.length c0_1)] 42 (0, 0))) ∧ Aside0 (Below w.heap.size w w'))
    case atStart => exact ⟨(y311), (0), eqA, H', ⟨Nat.le_refl _⟩, ⟨by exact Rz HO313⟩, ⟨by exact Bz BK309⟩, ⟨by exact Lz1 HB GE309⟩⟩
    case round =>
     clear H'
     try clear c4
     try clear c5
     try clear c5b0
     try clear c5b1
     try clear c6
     try clear c6b0
     try clear c6b1
     obtain ⟨x5_1, x18_1, rfl, HA, HK1, HO_5, BK309, HB⟩ := hrel
     have hl5_1 := (Kd.R_reads' HO_5.out).1
     rw [hl5_1] at HO_5
     (try simp only [hl5_1])
     (try simp only [hl5_1] at BK309)
     cases gk with
     | zero => exact absurd HA.out (by simp [impl_DistancesFrom.l0])
     | succ k1 =>
      have H := HA.out
      clear HA
      simp only [impl_DistancesFrom.l0] at H
      by_cases c14 : x18_1 < (y311.length : Int)
      ·rw [if_pos c14] at H
       have c14b0 : decide (x18_1 < (y311.length : Int)) = true := decide_eq_true c14
       (try simp only [hl5_1] at c14b0); (try simp only [hl5_2] at c14b0); (try simp only [hl5_3] at c14b0)
       clear c14
       by_cases c15 : 0 ≤ x18_1
       ·rw [if_pos c15] at H
        have c15b0 : decide (0 ≤ x18_1) = true := decide_eq_true c15
        clear c15
        by_cases c16 : x18_1 < (x5_1.length : Int)
        ·rw [if_pos c16] at H
         have c16b0 : decide (x18_1 < (x5_1.length : Int)) = true := decide_eq_true c16
         (try simp only [hl5_1] at c16b0); (try simp only [hl5_2] at c16b0); (try simp only [hl5_3] at c16b0)
         clear c16
         obtain ⟨y314, hy314⟩ : ∃ y_ : List Int, y_ = (x5_1.set (x18_1 : Int).toNat a0_0) := ⟨_, rfl⟩
         replace H : (impl_DistancesFrom.l0 k1 a1 y314 (y311.length : Int) (wrap64 (x18_1 + 1)) a0_0 l0_1) = some r := by first | (rw [hy314]; with_reducible exact H) | (have H2_ := (Option.bind_some _ _).symm.trans H; rw [hy314]; with_reducible exact H2_) | (have H2_ := (Option.bind_some _ _).symm.trans H; with_reducible exact H2_) | with_reducible exact H | (rw [hy314]; exact H) | exact H
         have Ny314 := Aside0.mk hy314
         clear hy314
         have H' := Aside0.mk H
         clear H
         have hcz18_0 : wr.cell? ⟨gb309, 0, none⟩ = some (.int .i64 a0_0) := (blk_cell BK309.out 0).trans rfl
         have hcz18_1 : wr.cell? ⟨gb309, 1, none⟩ = some (.slice A0_1 l0_1.length c0_1) := (blk_cell BK309.out 1).trans rfl
         have hfz18_0 := blk_frozen BK309.out 0
         have hfz18_1 := blk_frozen BK309.out 1
         have p17 : 0 ≤ (x18_1 : Int) := ofA
         have q17 : (x18_1 : Int) < ((x5_1.length : Int) : Int) := ofA
         obtain ⟨go17, co17, eo17, gb17, gl17, cl17, HG17⟩ := Kd.R_form HO_5.out (by omega)
         (first | cases eo17 | (injection eo17 with ea_ en_ ec_; (first | subst ea_ | (injection ea_ with ea_; subst ea_)); subst ec_; clear en_))
         have GB17 := Aside0.mk gb17
         have GG17 := Aside0.mk HG17
         clear gb17 gl17 HG17
         obtain ⟨hx17_0, hf17_0⟩ := Kd.R_celln 0 HO_5.out (x18_1 : Int) p17 q17
         replace p17 := eq_true p17
         replace q17 := eq_true q17
         have HP19 := Kd.R_putg HO_5.out (x18_1 : Int) a0_0
         go_wp2_with (first | ((with_reducible refine gate_store (t := 3) (p := 25) rfl ?_); refine store_event (t := 3) (p := 25) (v := ?vo_w20) (w1 := (wr.setCell ⟨go17, (x18_1 : Int).toNat, none⟩ (.int .i64 a0_0))) ?hg ?ho ?hn ?hr ?_; (case ho => rfl); (case hg => rfl); (case hn => rfl); (case hr => first | (go_simp; done) | (go_simp; rfl)); intro w20 hw; have hg : wr.grownBy w20 (some go17) := (by rw [hw]; exact HP19.2); have hp_ : Kd.R (Kd.int .i64) 3 w20 w.heap.size (fun _ => True) (.slice (some ⟨go17, 0, none⟩) x5_1.length co13) y314 := (by rw [hw, Ny314.out]; exact HP19.1); clear HP19; replace BK309 := Aside0.mk (blk_grown (g := gb309) (o := .cells #[.int .i64 a0_0, .slice A0_1 l0_1.length c0_1] 42 (0, 0)) (Bz BK309) hg (Kd.R_ne HO_5.out BK309.out (by decide))); replace HO_5 := Aside0.mk (hp_); replace HB := Aside0.mk ((by rw [hw]; exact below_set (HB.out) GB17.out : Below w.heap.size w w20)); clear hg hw hp_))
         (try simp only [← hl5_1])
         go_roundg k1
         case measure => have := HK1.out; omega
         case rel => exact ⟨(y314), (wrap64 (x18_1 + 1)), eqA, H', ⟨by have := HK1.out; omega⟩, ⟨by (try simp only [hl5_1]); exact Rz HO_5⟩, ⟨by (try simp only [hl5_1]); exact Bz BK309⟩, ⟨by exact Lz1 HB GE309⟩⟩
        rw [if_neg c16] at H
        exact absurd H (by simp)
       rw [if_neg c15] at H
       exact absurd H (by simp)
      rw [if_neg c14] at H
      have c14b0 : decide (x18_1 < (y311.length : Int)) = false := decide_eq_false c14
      (try simp only [hl5_1] at c14b0); (try simp only [hl5_2] at c14b0); (try simp only [hl5_3] at c14b0)
      clear c14
      by_cases c21 : 0 ≤ a1
      ·rw [if_pos c21] at H
       have c21b0 : decide (0 ≤ a1) = true := decide_eq_true c21
       clear c21
       by_cases c22 : a1 < (x5_1.length : Int)
       ·rw [if_pos c22] at H
        have c22b0 : decide (a1 < (x5_1.length : Int)) = true := decide_eq_true c22
        (try simp only [hl5_1] at c22b0); (try simp only [hl5_2] at c22b0); (try simp only [hl5_3] at c22b0)
        clear c22
        obtain ⟨y315, hy315⟩ : ∃ y_ : List Int, y_ = (x5_1.set (a1 : Int).toNat 0) := ⟨_, rfl⟩
        replace H : (impl_DistancesFrom.l1 k1 y315 (x5_1.length : Int) 0 a0_0 l0_1) = some r := by first | (rw [hy315]; with_reducible exact H) | (have H2_ := (Option.bind_some _ _).symm.trans H; rw [hy315]; with_reducible exact H2_) | (have H2_ := (Option.bind_some _ _).symm.trans H; with_reducible exact H2_) | with_reducible exact H | (rw [hy315]; exact H) | exact H
        have Ny315 := Aside0.mk hy315
        clear hy315
        have H' := Aside0.mk H
        clear H
        have p23 : 0 ≤ (a1 : Int) := ofA
        have q23 : (a1 : Int) < ((x5_1.length : Int) : Int) := ofA
        obtain ⟨go23, co23, eo23, gb23, gl23, cl23, HG23⟩ := Kd.R_form HO_5.out (by omega)
        (first | cases eo23 | (injection eo23 with ea_ en_ ec_; (first | subst ea_ | (injection ea_ with ea_; subst ea_)); subst ec_; clear en_))
        have GB23 := Aside0.mk gb23
        have GG23 := Aside0.mk HG23
        clear gb23 gl23 HG23
        obtain ⟨hx23_0, hf23_0⟩ := Kd.R_celln 0 HO_5.out (a1 : Int) p23 q23
        replace p23 := eq_true p23
        replace q23 := eq_true q23
        have HP24 := Kd.R_putg HO_5.out (a1 : Int) 0
        go_wp2_with (first | ((with_reducible refine gate_store (t := 3) (p := 29) rfl ?_); refine store_event (t := 3) (p := 29) (v := ?vo_w25) (w1 := (wr.setCell ⟨go23, (a1 : Int).toNat, none⟩ (.int .i64 0))) ?hg ?ho ?hn ?hr ?_; (case ho => rfl); (case hg => rfl); (case hn => rfl); (case hr => first | (go_simp; done) | (go_simp; rfl)); intro w25 hw; have hg : wr.grownBy w25 (some go23) := (by rw [hw]; exact HP24.2); have hp_ : Kd.R (Kd.int .i64) 3 w25 w.heap.size (fun _ => True) (.slice (some ⟨go23, 0, none⟩) x5_1.length co13) y315 := (by rw [hw, Ny315.out]; exact HP24.1); clear HP24; replace BK309 := Aside0.mk (blk_grown (g := gb309) (o := .cells #[.int .i64 a0_0, .slice A0_1 l0_1.length c0_1] 42 (0, 0)) (Bz BK309) hg (Kd.R_ne HO_5.out BK309.out (by decide))); replace HO_5 := Aside0.mk (hp_); replace HB := Aside0.mk ((by rw [hw]; exact below_set (HB.out) GB23.out : Below w.heap.size w w25)); clear hg hw hp_))
        go_loopg [32] k1 (fun kq v32 w' => ∃ (x5_2 : List Int) (x32_2 : Int), v32 = .int .i64 x32_2 ∧ Aside0 (impl_DistancesFrom.l1 kq x5_2 (x5_1.length : Int) x32_2 a0_0 l0_1 = some r) ∧ Aside0 (kq ≤ k1) ∧ Aside0 (Kd.R (Kd.int .i64) 3 w' w.heap.size (fun _ => True) (.slice (some ⟨go23, 0, none⟩) x5_1.length co13) x5_2) ∧ Aside0 (w'.heap[gb309]? = some (.cells #[.int .i64 a0_0, (.slice A0_1 l0_1.length c0_1)] 42 (0, 0))) ∧ Aside0 (Below w.heap.size w w'))
        case atStart => exact ⟨(y315), (0), eqA, H', ⟨Nat.le_refl _⟩, ⟨by (try simp only [hl5_1]); exact Rz HO_5⟩, ⟨by (try simp only [hl5_1]); exact Bz BK309⟩, ⟨by exact Lz1 HB GE309⟩⟩
        case round =>
         clear H'
         try clear c4
         try clear c5
         try clear c5b0
         try clear c5b1
         try clear c6
         try clear c6b0
         try clear c6b1
         try clear c14
         try clear c14b0
         try clear c15
         try clear c15b0
         try clear c16
         try clear c16b0
         try clear p17
         try clear q17
         try clear c21
         try clear c21b0
         try clear c22
         try clear c22b0
         try clear p23
         try clear q23
         try clear p17
         try clear p23
         try clear q17
         try clear q23
         obtain ⟨x5_2, x32_2, rfl, HA, HK2, HO_5, BK309, HB⟩ := hrel
         have hl5_2 := (Kd.R_reads' HO_5.out).1
         rw [hl5_2] at HO_5
         (try simp only [hl5_2])
         (try simp only [hl5_2] at BK309)
         cases gk with
         | zero => exact absurd HA.out (by simp [impl_DistancesFrom.l1])
         | succ k2 =>
          have H := HA.out
          clear HA
          simp only [impl_DistancesFrom.l1] at H
          by_cases c26 : x32_2 < (x5_1.length : Int)
          ·rw [if_pos c26] at H
           have c26b0 : decide (x32_2 < (x5_1.length : Int)) = true := decide_eq_true c26
           (try simp only [hl5_1] at c26b0); (try simp only [hl5_2] at c26b0); (try simp only [hl5_3] at c26b0)
           clear c26
           have H' := Aside0.mk H
           clear H
           have hcz27_0 : wr.cell? ⟨gb309, 0, none⟩ = some (.int .i64 a0_0) := (blk_cell BK309.out 0).trans rfl
           have hcz27_1 : wr.cell? ⟨gb309, 1, none⟩ = some (.slice A0_1 l0_1.length c0_1) := (blk_cell BK309.out 1).trans rfl
           have hfz27_0 := blk_frozen BK309.out 0
           have hfz27_1 := blk_frozen BK309.out 1
           go_wp2
           go_loopg [37] k2 (fun kq v37 w' => ∃ (x5_3 : List Int) (x37_3 : Int), v37 = .int .i64 x37_3 ∧ Aside0 (impl_DistancesFrom.l2 kq x5_3 (x5_1.length : Int) x32_2 l0_1 (l0_1.length : Int) x37_3 a0_0 l0_1 = some r) ∧ Aside0 (kq ≤ k2) ∧ Aside0 (Kd.R (Kd.int .i64) 3 w' w.heap.size (fun _ => True) (.slice (some ⟨go23, 0, none⟩) x5_2.length co13) x5_3) ∧ Aside0 (w'.heap[gb309]? = some (.cells #[.int .i64 a0_0, (.slice A0_1 l0_1.length c0_1)] 42 (0, 0))) ∧ Aside0 (Below w.heap.size w w'))
           case atStart => exact ⟨(x5_2), (0), eqA, H', ⟨Nat.le_refl _⟩, ⟨by (try simp only [hl5_1]); (try simp only [hl5_2]); exact Rz HO_5⟩, ⟨by (try simp only [hl5_1]); (try simp only [hl5_2]); exact Bz BK309⟩, ⟨by exact Lz1 HB GE309⟩⟩
           case round =>
            clear H'
            try clear c4
            try clear c5
            try clear c5b0
            try clear c5b1
            try clear c6
            try clear c6b0
            try clear c6b1
            try clear c14
            try clear c14b0
            try clear c15
            try clear c15b0
            try clear c16
            try clear c16b0
            try clear p17
            try clear q17
            try clear c21
            try clear c21b0
            try clear c22
            try clear c22b0
            try clear p23
            try clear q23
            try clear c26
            try clear c26b0
            try clear p17
            try clear p23
            try clear q17
            try clear q23
            obtain ⟨x5_3, x37_3, rfl, HA, HK3, HO_5, BK309, HB⟩ := hrel
            have hl5_3 := (Kd.R_reads' HO_5.out).1
            rw [hl5_3] at HO_5
            (try simp only [hl5_3])
            (try simp only [hl5_3] at BK309)
            cases gk with
            | zero => exact absurd HA.out (by simp [impl_DistancesFrom.l2])
            | succ k3 =>
             have H := HA.out
             clear HA
             simp only [impl_DistancesFrom.l2] at H
             by_cases c28 : x37_3 < (l0_1.length : Int)
             ·rw [if_pos c28] at H
              have c28b0 : decide (x37_3 < (l0_1.length : Int)) = true := decide_eq_true c28
              (try simp only [hl5_1] at c28b0); (try simp only [hl5_2] at c28b0); (try simp only [hl5_3] at c28b0)
              clear c28
              by_cases c29 : 0 ≤ x37_3
              ·rw [if_pos c29] at H
               have c29b0 : decide (0 ≤ x37_3) = true := decide_eq_true c29
               clear c29
               by_cases c30 : x37_3 < (l0_1.length : Int)
               ·rw [if_pos c30] at H
                have c30b0 : decide (x37_3 < (l0_1.length : Int)) = true := decide_eq_true c30
                (try simp only [hl5_1] at c30b0); (try simp only [hl5_2] at c30b0); (try simp only [hl5_3] at c30b0)
                clear c30
                by_cases c31 : 0 ≤ ((rd_T75 l0_1 x37_3).f0)
                ·rw [if_pos c31] at H
                 have c31b0 : decide (0 ≤ ((rd_T75 l0_1 x37_3).f0)) = true := decide_eq_true c31
                 clear c31
                 by_cases c32 : ((rd_T75 l0_1 x37_3).f0) < (x5_3.length : Int)
                 ·rw [if_pos c32] at H
                  have c32b0 : decide (((rd_T75 l0_1 x37_3).f0) < (x5_3.length : Int)) = true := decide_eq_true c32
                  (try simp only [hl5_1] at c32b0); (try simp only [hl5_2] at c32b0); (try simp only [hl5_3] at c32b0)
                  clear c32
                  by_cases c33 : 0 ≤ ((rd_T75 l0_1 x37_3).f1)
                  ·rw [if_pos c33] at H
                   have c33b0 : decide (0 ≤ ((rd_T75 l0_1 x37_3).f1)) = true := decide_eq_true c33
                   clear c33
                   by_cases c34 : ((rd_T75 l0_1 x37_3).f1) < (x5_3.length : Int)
                   ·rw [if_pos c34] at H
                    have c34b0 : decide (((rd_T75 l0_1 x37_3).f1) < (x5_3.length : Int)) = true := decide_eq_true c34
                    (try simp only [hl5_1] at c34b0); (try simp only [hl5_2] at c34b0); (try simp only [hl5_3] at c34b0)
                    clear c34
                    obtain ⟨ji35, hji35⟩ : ∃ j_ : Int, (mn (rd x5_3 ((rd_T75 l0_1 x37_3).f0)) (wrap64 ((rd x5_3 ((rd_T75 l0_1 x37_3).f1)) + 1))) = j_ := ⟨_, rfl⟩
                    replace H : ((some (x5_3.set (((rd_T75 l0_1 x37_3).f0) : Int).toNat (ji35) : List Int)).bind fun y320 => (impl_DistancesFrom.l2 k3 (y320.set (((rd_T75 l0_1 x37_3).f1) : Int).toNat (mn (rd y320 ((rd_T75 l0_1 x37_3).f1)) (wrap64 ((rd y320 ((rd_T75 l0_1 x37_3).f0)) + 1)))) (x5_1.length : Int) x32_2 l0_1 (l0_1.length : Int) (wrap64 (x37_3 + 1)) a0_0 l0_1)) = some r := by first | (rw [hji35] at H; exact H) | (simp only [hji35] at H ⊢; exact H)
                    have hji35_ : (if (wrap64 ((rd x5_3 ((rd_T75 l0_1 x37_3).f1)) + 1)) < (rd x5_3 ((rd_T75 l0_1 x37_3).f0)) then (wrap64 ((rd x5_3 ((rd_T75 l0_1 x37_3).f1)) + 1)) else (rd x5_3 ((rd_T75 l0_1 x37_3).f0))) = ji35 := hji35
                    obtain ⟨y320, hy320⟩ : ∃ y_ : List Int, y_ = (x5_3.set (((rd_T75 l0_1 x37_3).f0) : Int).toNat (ji35)) := ⟨_, rfl⟩
                    replace H : (impl_DistancesFrom.l2 k3 (y320.set (((rd_T75 l0_1 x37_3).f1) : Int).toNat (mn (rd y320 ((rd_T75 l0_1 x37_3).f1)) (wrap64 ((rd y320 ((rd_T75 l0_1 x37_3).f0)) + 1)))) (x5_1.length : Int) x32_2 l0_1 (l0_1.length : Int) (wrap64 (x37_3 + 1)) a0_0 l0_1) = some r := by first | (rw [hy320]; with_reducible exact H) | (have H2_ := (Option.bind_some _ _).symm.trans H; rw [hy320]; with_reducible exact H2_) | (have H2_ := (Option.bind_some _ _).symm.trans H; with_reducible exact H2_) | with_reducible exact H | (rw [hy320]; exact H) | exact H
                    have Ny320 := Aside0.mk hy320
                    clear hy320
                    obtain ⟨ji37, hji37⟩ : ∃ j_ : Int, (mn (rd y320 ((rd_T75 l0_1 x37_3).f1)) (wrap64 ((rd y320 ((rd_T75 l0_1 x37_3).f0)) + 1))) = j_ := ⟨_, rfl⟩
                    replace H : (impl_DistancesFrom.l2 k3 (y320.set (((rd_T75 l0_1 x37_3).f1) : Int).toNat (ji37)) (x5_1.length : Int) x32_2 l0_1 (l0_1.length : Int) (wrap64 (x37_3 + 1)) a0_0 l0_1) = some r := by first | (rw [hji37] at H; exact H) | (simp only [hji37] at H ⊢; exact H)
                    have hji37_ : (if (wrap64 ((rd y320 ((rd_T75 l0_1 x37_3).f0)) + 1)) < (rd y320 ((rd_T75 l0_1 x37_3).f1)) then (wrap64 ((rd y320 ((rd_T75 l0_1 x37_3).f0)) + 1)) else (rd y320 ((rd_T75 l0_1 x37_3).f1))) = ji37 := hji37
                    obtain ⟨y323, hy323⟩ : ∃ y_ : List Int, y_ = (y320.set (((rd_T75 l0_1 x37_3).f1) : Int).toNat (ji37)) := ⟨_, rfl⟩
                    replace H : (impl_DistancesFrom.l2 k3 y323 (x5_1.length : Int) x32_2 l0_1 (l0_1.length : Int) (wrap64 (x37_3 + 1)) a0_0 l0_1) = some r := by first | (rw [hy323]; with_reducible exact H) | (have H2_ := (Option.bind_some _ _).symm.trans H; rw [hy323]; with_reducible exact H2_) | (have H2_ := (Option.bind_some _ _).symm.trans H; with_reducible exact H2_) | with_reducible exact H | (rw [hy323]; exact H) | exact H
                    have Ny323 := Aside0.mk hy323
                    clear hy323
                    have H' := Aside0.mk H
                    clear H
                    have p316 : 0 ≤ (x37_3 : Int) := ofA
                    have q316 : x37_3 < (l0_1.length : Int) := ofA
                    obtain ⟨ad316, e316, hx316_0, hx316_1⟩ := at_T75 HR0_1.out x37_3 p316 q316
                    cases e316
                    replace hx316_0 := (HB.out.cell (World.block_lt_of_cell? w _ hx316_0)).trans hx316_0
                    replace hx316_1 := (HB.out.cell (World.block_lt_of_cell? w _ hx316_1)).trans hx316_1
                    replace p316 := eq_true p316
                    replace q316 := eq_true q316
                    try go_wp2_with (first | ((with_reducible refine gate_dst (N := 8) rfl ?_); refine box_event ?hg (N := 8) ?hd (cs := #[.int .i64 0, .int .i64 0]) (t := 75) ?hr ?_; (case hd => rfl); (case hg => rfl); (case hr => first | (go_simp; done) | (go_simp; rfl)); intro gb317 hg w39 hbox hb; replace HO_5 := Aside0.mk (Kd.R_below (Rz HO_5) hb); have BK317 := Aside0.mk (hbox); have GW317 := Aside0.mk ((by rw [hg]; exact (below_size (by exact Lz1 HB GE309)) : w.heap.size ≤ gb317)); have GE317 := Aside0.mk ((by rw [hg]; exact (below_size (by exact Lz1 HB GE309)) : w.heap.size ≤ gb317)); replace HB := Aside0.mk (below_step (by exact Lz1 HB GE309) hb); have NB309_317 := Aside0.mk ((by rw [hg]; exact Nat.ne_of_lt (blk_lt (g := gb309) (o := .cells #[.int .i64 a0_0, .slice (some ad316) l0_1.length c0_1] 42 (0, 0)) (Bz BK309)) : gb309 ≠ gb317)); have NB317_309 := Aside0.mk ((by rw [hg]; exact Nat.ne_of_gt (blk_lt (g := gb309) (o := .cells #[.int .i64 a0_0, .slice (some ad316) l0_1.length c0_1] 42 (0, 0)) (Bz BK309)) : gb317 ≠ gb309)); replace BK309 := Aside0.mk (blk_below (g := gb309) (o := .cells #[.int .i64 a0_0, .slice (some ad316) l0_1.length c0_1] 42 (0, 0)) (Bz BK309) hb); clear hb hbox hg; have hnb40 := NB317_309.out; have hnc40 := NB309_317.out; have hcz41_0 : w39.cell? ⟨gb317, 0, none⟩ = some (.int .i64 0) := (blk_cell BK317.out 0).trans rfl; have hcz41_1 : w39.cell? ⟨gb317, 1, none⟩ = some (.int .i64 0) := (blk_cell BK317.out 1).trans rfl; have hfz41_0 := blk_frozen BK317.out 0; have hfz41_1 := blk_frozen BK317.out 1))
                    have n0_ : Aside0 (Kd.R (Kd.int .i64) 3 ((w39.setCell ⟨gb317, 0, none⟩ (.int .i64 ((rd_T75 l0_1 x37_3).f0))).setCell ⟨gb317, 1, none⟩ (.int .i64 ((rd_T75 l0_1 x37_3).f1))) w.heap.size (fun _ => True) (.slice (some ⟨go23, 0, none⟩) x5_3.length co13) x5_3) := ⟨by (with_reducible repeat (first | apply Kd.R_alloc | apply Kd.R_drewN | apply Kd.R_drew)); exact Kd.R_mono (Kd.R_far (p := ⟨gb317, 1, none⟩) (Kd.R_far (p := ⟨gb317, 0, none⟩) (Kd.R_types HO_5.out BK317.out (by decide)) (fun _ hk => hk.2) (.int .i64 ((rd_T75 l0_1 x37_3).f0))) (fun _ hk => hk.2) (.int .i64 ((rd_T75 l0_1 x37_3).f1))) (fun _ hk => trivial)⟩
                    have n1_ : Aside0 (((w39.setCell ⟨gb317, 0, none⟩ (.int .i64 ((rd_T75 l0_1 x37_3).f0))).setCell ⟨gb317, 1, none⟩ (.int .i64 ((rd_T75 l0_1 x37_3).f1))).heap[gb309]? = some (.cells #[.int .i64 a0_0, .slice (some ad316) l0_1.length c0_1] 42 (0, 0))) := ⟨by (with_reducible repeat (first | refine blk_drewN ?_ _ | refine blk_drew ?_ | refine blk_alloc ?_ _)); refine blk_far ?_ NB309_317.out _; (with_reducible repeat (first | refine blk_drewN ?_ _ | refine blk_drew ?_ | refine blk_alloc ?_ _)); refine blk_far ?_ NB309_317.out _; exact Bz BK309⟩
                    have n2_ : Aside0 (((w39.setCell ⟨gb317, 0, none⟩ (.int .i64 ((rd_T75 l0_1 x37_3).f0))).setCell ⟨gb317, 1, none⟩ (.int .i64 ((rd_T75 l0_1 x37_3).f1))).heap[gb317]? = some (.cells #[.int .i64 ((rd_T75 l0_1 x37_3).f0), .int .i64 ((rd_T75 l0_1 x37_3).f1)] 75 (0, 0))) := ⟨by (with_reducible repeat (first | refine blk_drewN ?_ _ | refine blk_drew ?_ | refine blk_alloc ?_ _)); refine blk_put (cs := #[.int .i64 ((rd_T75 l0_1 x37_3).f0), .int .i64 0]) ?_ 1 _ rfl; (with_reducible repeat (first | refine blk_drewN ?_ _ | refine blk_drew ?_ | refine blk_alloc ?_ _)); refine blk_put (cs := #[.int .i64 0, .int .i64 0]) ?_ 0 _ rfl; exact Bz BK317⟩
                    have n3_ : Aside0 (Below w.heap.size w ((w39.setCell ⟨gb317, 0, none⟩ (.int .i64 ((rd_T75 l0_1 x37_3).f0))).setCell ⟨gb317, 1, none⟩ (.int .i64 ((rd_T75 l0_1 x37_3).f1)))) := ⟨by exact Lz2 HB GE309 GE317⟩
                    (try clear HO_5)
                    (try clear BK309)
                    (try clear BK317)
                    (try clear HB)
                    generalize ((w39.setCell ⟨gb317, 0, none⟩ (.int .i64 ((rd_T75 l0_1 x37_3).f0))).setCell ⟨gb317, 1, none⟩ (.int .i64 ((rd_T75 l0_1 x37_3).f1))) = w42 at n0_ n1_ n2_ n3_ ⊢
                    have HO_5 := n0_
                    have BK309 := n1_
                    have BK317 := n2_
                    have HB := n3_
                    clear n0_ n1_ n2_ n3_
                    replace HO_5 := Aside0.mk (Kd.R_drew HO_5.out)
                    replace BK309 := Aside0.mk (blk_drew BK309.out)
                    replace BK317 := Aside0.mk (blk_drew BK317.out)
                    replace HB := Aside0.mk (below_drew1 HB.out)
                    have p318 : 0 ≤ (((rd_T75 l0_1 x37_3).f0) : Int) := ofA
                    have q318 : ((rd_T75 l0_1 x37_3).f0) < (x5_3.length : Int) := ofA
                    obtain ⟨ad318, e318, hx318_0⟩ := Kd.at_int (Kd.R_reads' HO_5.out).2.2 ((rd_T75 l0_1 x37_3).f0) p318 q318
                    obtain rfl : (⟨go23, 0, none⟩ : Addr) = ad318 := (by injection e318)
                    (first | simp only [add_plain] at hx318_0 | simp only [add_at] at hx318_0 | simp only [Addr.add, Nat.zero_add] at hx318_0 | skip)
                    replace p318 := eq_true p318
                    replace q318 := eq_true q318
                    have p319 : 0 ≤ (((rd_T75 l0_1 x37_3).f1) : Int) := ofA
                    have q319 : ((rd_T75 l0_1 x37_3).f1) < (x5_3.length : Int) := ofA
                    obtain ⟨ad319, e319, hx319_0⟩ := Kd.at_int (Kd.R_reads' HO_5.out).2.2 ((rd_T75 l0_1 x37_3).f1) p319 q319
                    obtain rfl : (⟨go23, 0, none⟩ : Addr) = ad319 := (by injection e319)
                    (first | simp only [add_plain] at hx319_0 | simp only [add_at] at hx319_0 | simp only [Addr.add, Nat.zero_add] at hx319_0 | skip)
                    replace p319 := eq_true p319
                    replace q319 := eq_true q319
                    have p36 : 0 ≤ (((rd_T75 l0_1 x37_3).f0) : Int) := ofA
                    have q36 : (((rd_T75 l0_1 x37_3).f0) : Int) < ((x5_3.length : Int) : Int) := ofA
                    obtain ⟨hx36_0, hf36_0⟩ := Kd.R_celln 0 HO_5.out (((rd_T75 l0_1 x37_3).f0) : Int) p36 q36
                    replace p36 := eq_true p36
                    replace q36 := eq_true q36
                    have HP44 := Kd.R_putn HO_5.out (((rd_T75 l0_1 x37_3).f0) : Int) ji35
                    rw [← Ny320.out] at HP44
                    have HQ44 := Aside0.mk HP44
                    clear HP44
                    refine start_ (n := 17) (S := fun w' => w'.cell? ⟨gb317, 0, none⟩ = some (.int .i64 ((rd_T75 l0_1 x37_3).f0)) ∧ w'.cell? ⟨gb317, 1, none⟩ = some (.int .i64 ((rd_T75 l0_1 x37_3).f1)) ∧ w'.cell? ⟨go23, (((rd_T75 l0_1 x37_3).f0)).toNat, none⟩ = some (.int .i64 (rd x5_3 ((rd_T75 l0_1 x37_3).f0))) ∧ w'.cell? ⟨go23, (((rd_T75 l0_1 x37_3).f1)).toNat, none⟩ = some (.int .i64 (rd x5_3 ((rd_T75 l0_1 x37_3).f1)))) (ds := [16]) #[false, false, false, false, false, false, false, false, false, false, false, false, false, false, false, false, false] (by kernel_rfl) rfl rfl ⟨(blk_cell BK317.out 0).trans rfl, (blk_cell BK317.out 1).trans rfl, hx318_0, hx319_0⟩ (fun hHeld => ?_); refine with_tabW impl_DistancesFrom.tab15 impl_DistancesFrom.bits15 (fun HT_ HW_ => ?_)
                    generalize w42.drew = w43 at HO_5 BK309 BK317 HB HQ44 hf36_0 hx318_0 hx319_0 hx36_0 hHeld ⊢
                    refine pureT_ 0 41 HT_ ?_
                    refine pureT_ 1 42 HT_ ?_
                    refine pureT_ 3 44 HT_ ?_
                    refine pureT_ 4 45 HT_ ?_
                    refine pureT_ 8 49 HT_ ?_
                    refine pureT_ 9 50 HT_ ?_
                    refine takeT_ 2 43 HT_ HW_ hHeld rfl (by rintro w' ⟨s0, s1, s2, s3⟩; go_simp; with_reducible rfl) ?_
                    refine takeT_ 5 46 HT_ HW_ hHeld rfl (by rintro w' ⟨s0, s1, s2, s3⟩; go_simp; with_reducible rfl) ?_
                    refine pureT_ 6 47 HT_ ?_
                    refine takeT_ 7 48 HT_ HW_ hHeld rfl (by rintro w' ⟨s0, s1, s2, s3⟩; go_simp; with_reducible rfl) ?_
                    refine takeT_ 10 51 HT_ HW_ hHeld rfl (by rintro w' ⟨s0, s1, s2, s3⟩; go_simp; with_reducible rfl) ?_
                    refine pureT_ 11 52 HT_ ?_
                    refine takeT_ 12 53 HT_ HW_ hHeld rfl (by rintro w' ⟨s0, s1, s2, s3⟩; go_simp; with_reducible rfl) ?_
                    refine pureT_ 13 54 HT_ ?_
                    refine pureT_ 14 55 HT_ ?_
                    refine pureT_ 15 56 HT_ ?_
                    refine last_ (i := 16) (N := none) #[true, true, true, true, true, true, true, true, true, true, true, true, true, true, true, true, true] rfl rfl (one_of HT_.out (by kernel_rfl)) (by decide) (fun K hK => ?_)
                    refine skip_ (w1 := ?_) (by rfl) rfl ?_ ?_
                    rotate_left
                    ·go_simp
                     rfl
                    refine hK.out _ _ ?_
                    clear hK K
                    refine done_ (done_of HT_.out (by kernel_rfl)) ?_
                    try go_wp2
                    have n0_ : Aside0 (Kd.R (Kd.int .i64) 3 (w43.setCell ⟨go23, (((rd_T75 l0_1 x37_3).f0) : Int).toNat, none⟩ (.int .i64 ji35)) w.heap.size (fun _ => True) (.slice (some ⟨go23, 0, none⟩) x5_3.length co13) y320) := ⟨by exact Rz HQ44⟩
                    have n1_ : Aside0 ((w43.setCell ⟨go23, (((rd_T75 l0_1 x37_3).f0) : Int).toNat, none⟩ (.int .i64 ji35)).heap[gb309]? = some (.cells #[.int .i64 a0_0, .slice (some ad316) l0_1.length c0_1] 42 (0, 0))) := ⟨by (with_reducible repeat (first | refine blk_drewN ?_ _ | refine blk_drew ?_ | refine blk_alloc ?_ _)); refine blk_far ?_ (by have h_ := Kd.R_ne HO_5.out BK309.out (by decide); intro e_; exact h_ (by rw [e_]; rfl)) _; exact Bz BK309⟩
                    have n2_ : Aside0 ((w43.setCell ⟨go23, (((rd_T75 l0_1 x37_3).f0) : Int).toNat, none⟩ (.int .i64 ji35)).heap[gb317]? = some (.cells #[.int .i64 ((rd_T75 l0_1 x37_3).f0), .int .i64 ((rd_T75 l0_1 x37_3).f1)] 75 (0, 0))) := ⟨by (with_reducible repeat (first | refine blk_drewN ?_ _ | refine blk_drew ?_ | refine blk_alloc ?_ _)); refine blk_far ?_ (by have h_ := Kd.R_ne HO_5.out BK317.out (by decide); intro e_; exact h_ (by rw [e_]; rfl)) _; exact Bz BK317⟩
                    have n3_ : Aside0 (Below w.heap.size w (w43.setCell ⟨go23, (((rd_T75 l0_1 x37_3).f0) : Int).toNat, none⟩ (.int .i64 ji35))) := ⟨by exact Lz3 HB GB23 GE309 GE317⟩
                    (try clear HO_5)
                    (try clear BK309)
                    (try clear BK317)
                    (try clear HB)
                    generalize (w43.setCell ⟨go23, (((rd_T75 l0_1 x37_3).f0) : Int).toNat, none⟩ (.int .i64 ji35)) = w45 at n0_ n1_ n2_ n3_ ⊢
                    have HO_5 := n0_
                    have BK309 := n1_
                    have BK317 := n2_
                    have HB := n3_
                    clear n0_ n1_ n2_ n3_
                    replace HO_5 := Aside0.mk (Kd.R_drew HO_5.out)
                    replace BK309 := Aside0.mk (blk_drew BK309.out)
                    replace BK317 := Aside0.mk (blk_drew BK317.out)
                    replace HB := Aside0.mk (below_drew1 HB.out)
                    have p321 : 0 ≤ (((rd_T75 l0_1 x37_3).f1) : Int) := ofA
                    have q321 : ((rd_T75 l0_1 x37_3).f1) < (y320.length : Int) := (by have h_ : (((rd_T75 l0_1 x37_3).f1) : Int) < ((x5_3.length : Int) : Int) := ofA; first | (have e_ := (Kd.R_reads' HO_5.out).1; omega) | simpa only [Ny320.out, List.length_set] using h_)
                    have ql321 : ((((rd_T75 l0_1 x37_3).f1) : Int) < ((x5_3.length : Int) : Int)) = True := eq_true (ofA)
                    obtain ⟨ad321, e321, hx321_0⟩ := Kd.at_int (Kd.R_reads' HO_5.out).2.2 ((rd_T75 l0_1 x37_3).f1) p321 q321
                    obtain rfl : (⟨go23, 0, none⟩ : Addr) = ad321 := (by injection e321)
                    (first | simp only [add_plain] at hx321_0 | simp only [add_at] at hx321_0 | simp only [Addr.add, Nat.zero_add] at hx321_0 | skip)
                    replace p321 := eq_true p321
                    replace q321 := eq_true q321
                    have p322 : 0 ≤ (((rd_T75 l0_1 x37_3).f0) : Int) := ofA
                    have q322 : ((rd_T75 l0_1 x37_3).f0) < (y320.length : Int) := (by have h_ : (((rd_T75 l0_1 x37_3).f0) : Int) < ((x5_3.length : Int) : Int) := ofA; first | (have e_ := (Kd.R_reads' HO_5.out).1; omega) | simpa only [Ny320.out, List.length_set] using h_)
                    have ql322 : ((((rd_T75 l0_1 x37_3).f0) : Int) < ((x5_3.length : Int) : Int)) = True := eq_true (ofA)
                    obtain ⟨ad322, e322, hx322_0⟩ := Kd.at_int (Kd.R_reads' HO_5.out).2.2 ((rd_T75 l0_1 x37_3).f0) p322 q322
                    obtain rfl : (⟨go23, 0, none⟩ : Addr) = ad322 := (by injection e322)
                    (first | simp only [add_plain] at hx322_0 | simp only [add_at] at hx322_0 | simp only [Addr.add, Nat.zero_add] at hx322_0 | skip)
                    replace p322 := eq_true p322
                    replace q322 := eq_true q322
                    have p38 : 0 ≤ (((rd_T75 l0_1 x37_3).f1) : Int) := ofA
                    have q38 : (((rd_T75 l0_1 x37_3).f1) : Int) < ((x5_3.length : Int) : Int) := ofA
                    obtain ⟨hx38_0, hf38_0⟩ := Kd.R_celln 0 HO_5.out (((rd_T75 l0_1 x37_3).f1) : Int) p38 q38
                    replace p38 := eq_true p38
                    replace q38 := eq_true q38
                    have HP47 := Kd.R_putn HO_5.out (((rd_T75 l0_1 x37_3).f1) : Int) ji37
                    rw [← Ny323.out] at HP47
                    have HQ47 := Aside0.mk HP47
                    clear HP47
                    refine start_ (n := 17) (S := fun w' => w'.cell? ⟨gb317, 0, none⟩ = some (.int .i64 ((rd_T75 l0_1 x37_3).f0)) ∧ w'.cell? ⟨gb317, 1, none⟩ = some (.int .i64 ((rd_T75 l0_1 x37_3).f1)) ∧ w'.cell? ⟨go23, (((rd_T75 l0_1 x37_3).f1)).toNat, none⟩ = some (.int .i64 (rd y320 ((rd_T75 l0_1 x37_3).f1))) ∧ w'.cell? ⟨go23, (((rd_T75 l0_1 x37_3).f0)).toNat, none⟩ = some (.int .i64 (rd y320 ((rd_T75 l0_1 x37_3).f0)))) (ds := [16]) #[false, false, false, false, false, false, false, false, false, false, false, false, false, false, false, false, false] (by kernel_rfl) rfl rfl ⟨(blk_cell BK317.out 0).trans rfl, (blk_cell BK317.out 1).trans rfl, hx321_0, hx322_0⟩ (fun hHeld => ?_); refine with_tabW impl_DistancesFrom.tab16 impl_DistancesFrom.bits16 (fun HT_ HW_ => ?_)
                    generalize w45.drew = w46 at HO_5 BK309 BK317 HB HQ44 HQ47 hf38_0 hx321_0 hx322_0 hx38_0 hHeld ⊢
                    refine pureT_ 0 57 HT_ ?_
                    refine pureT_ 1 58 HT_ ?_
                    refine pureT_ 3 60 HT_ ?_
                    refine pureT_ 4 61 HT_ ?_
                    refine pureT_ 8 65 HT_ ?_
                    refine pureT_ 9 66 HT_ ?_
                    refine takeT_ 2 59 HT_ HW_ hHeld rfl (by rintro w' ⟨s0, s1, s2, s3⟩; go_simp; with_reducible rfl) ?_
                    refine takeT_ 5 62 HT_ HW_ hHeld rfl (by rintro w' ⟨s0, s1, s2, s3⟩; go_simp; with_reducible rfl) ?_
                    refine pureT_ 6 63 HT_ ?_
                    refine takeT_ 7 64 HT_ HW_ hHeld rfl (by rintro w' ⟨s0, s1, s2, s3⟩; go_simp; with_reducible rfl) ?_
                    refine takeT_ 10 67 HT_ HW_ hHeld rfl (by rintro w' ⟨s0, s1, s2, s3⟩; go_simp; with_reducible rfl) ?_
                    refine pureT_ 11 68 HT_ ?_
                    refine takeT_ 12 69 HT_ HW_ hHeld rfl (by rintro w' ⟨s0, s1, s2, s3⟩; go_simp; with_reducible rfl) ?_
                    refine pureT_ 13 70 HT_ ?_
                    refine pureT_ 14 71 HT_ ?_
                    refine pureT_ 15 72 HT_ ?_
                    refine last_ (i := 16) (N := none) #[true, true, true, true, true, true, true, true, true, true, true, true, true, true, true, true, true] rfl rfl (one_of HT_.out (by kernel_rfl)) (by decide) (fun K hK => ?_)
                    refine skip_ (w1 := ?_) (by rfl) rfl ?_ ?_
                    rotate_left
                    ·go_simp
                     rfl
                    refine hK.out _ _ ?_
                    clear hK K
                    refine done_ (done_of HT_.out (by kernel_rfl)) ?_
                    try go_wp2
                    (try simp only [← hl5_3])
                    go_roundg k3
                    case measure => have := HK1.out; have := HK2.out; have := HK3.out; omega
                    case rel => exact ⟨(y323), (wrap64 (x37_3 + 1)), eqA, H', ⟨by have := HK1.out; have := HK2.out; have := HK3.out; omega⟩, ⟨by (try simp only [hl5_1]); (try simp only [hl5_2]); (try simp only [hl5_3]); exact Rz HQ47⟩, ⟨by (try simp only [hl5_1]); (try simp only [hl5_2]); (try simp only [hl5_3]); (with_reducible repeat (first | refine blk_drewN ?_ _ | refine blk_drew ?_ | refine blk_alloc ?_ _)); refine blk_far ?_ (by have h_ := Kd.R_ne HO_5.out BK309.out (by decide); intro e_; exact h_ (by rw [e_]; rfl)) _; exact Bz BK309⟩, ⟨by exact Lz3 HB GB23 GE309 GE317⟩⟩
                   rw [if_neg c34] at H
                   exact absurd H (by simp)
                  rw [if_neg c33] at H
                  exact absurd H (by simp)
                 rw [if_neg c32] at H
                 exact absurd H (by simp)
                rw [if_neg c31] at H
                exact absurd H (by simp)
               rw [if_neg c30] at H
               exact absurd H (by simp)
              rw [if_neg c29] at H
              exact absurd H (by simp)
             rw [if_neg c28] at H
             have c28b0 : decide (x37_3 < (l0_1.length : Int)) = false := decide_eq_false c28
             (try simp only [hl5_1] at c28b0); (try simp only [hl5_2] at c28b0); (try simp only [hl5_3] at c28b0)
             clear c28
             have H' := Aside0.mk H
             clear H
             go_wp2
             (try simp only [← hl5_2, ← hl5_3])
             go_roundg k3
             case measure => have := HK1.out; have := HK2.out; have := HK3.out; omega
             case rel => exact ⟨(x5_3), (wrap64 (x32_2 + 1)), eqA, H', ⟨by have := HK1.out; have := HK2.out; have := HK3.out; omega⟩, ⟨by (try simp only [hl5_1]); (try simp only [hl5_2]); (try simp only [hl5_3]); exact Rz HO_5⟩, ⟨by (try simp only [hl5_1]); (try simp only [hl5_2]); (try simp only [hl5_3]); exact Bz BK309⟩, ⟨by exact Lz1 HB GE309⟩⟩
          rw [if_neg c26] at H
          have c26b0 : decide (x32_2 < (x5_1.length : Int)) = false := decide_eq_false c26
          (try simp only [hl5_1] at c26b0); (try simp only [hl5_2] at c26b0); (try simp only [hl5_3] at c26b0)
          clear c26
          obtain rfl := Option.some.inj H
          go_wp2
          go_ret
          exact ⟨_, by first | rfl | (simp [errW_none, errW_some] <;> rfl) | (simp [*, errW_none, errW_some] <;> rfl), by exact Rz HO_5, by exact Lz1 HB GE309⟩
       rw [if_neg c22] at H
       exact absurd H (by simp)
      rw [if_neg c21] at H
      exact absurd H (by simp)
   rw [if_neg c6] at H
   exact absurd H (by simp)
  rw [if_neg c5] at H
  exact absurd H (by simp)
 replace c4 := Bool.eq_false_iff.mpr c4
 subst c4
 have H1 : (some ([] : List Int)) = some r := by rw [if_neg (show ¬ (false = true) by decide)] at H; exact H
 clear H
 have H := H1
 clear H1
 obtain rfl := Option.some.inj H
 go_enter Try.func48, Try.ntmps48
 go_wp2_with (first | ((with_reducible refine gate_dst (N := 2) rfl ?_); refine box_event ?hg (N := 2) ?hd (cs := #[.int .i64 a0_0, .slice A0_1 l0_1.length c0_1]) (t := 42) ?hr ?_; (case hd => rfl); (case hg => rfl); (case hr => first | (go_simp; done) | (go_simp; rfl)); intro gb309 hg w48 hbox hb; have BK309 := Aside0.mk (hbox); have GW309 := Aside0.mk ((by rw [hg]; exact (below_size (Lz HB)) : w.heap.size ≤ gb309)); have GE309 := Aside0.mk ((by rw [hg]; exact (below_size (Lz HB)) : w.heap.size ≤ gb309)); replace HB := Aside0.mk (below_step (Lz HB) hb); clear hb hbox hg; have hcz49_0 : w48.cell? ⟨gb309, 0, none⟩ = some (.int .i64 a0_0) := (blk_cell BK309.out 0).trans rfl; have hcz49_1 : w48.cell? ⟨gb309, 1, none⟩ = some (.slice A0_1 l0_1.length c0_1) := (blk_cell BK309.out 1).trans rfl; have hfz49_0 := blk_frozen BK309.out 0; have hfz49_1 := blk_frozen BK309.out 1) | ((with_reducible refine gate_callee (f := 74) rfl ?_); refine goesM_ (some 11) rfl rfl Try.func74 (by kernel_rfl) rfl #[.agg #[.int .i64 a0_0, .slice A0_1 l0_1.length c0_1], .int .i64 a1] rfl ?_; (with_reducible refine (impl_isVertex.calls k a0_0 _ _ l0_1 a1 false _ ?side1 ?side2 A3.out).mono ?_); (case side1 => exact Cz ((Kd.C_below HR0_1.out HB.out))); (case side2 => exact HC0_1.out); rintro e w50 ⟨rfl, hb⟩; refine ⟨_, rfl, ?_⟩; replace BK309 := Aside0.mk (blk_below (g := gb309) (o := .cells #[.int .i64 a0_0, .slice A0_1 l0_1.length c0_1] 42 (0, 0)) (Bz BK309) hb); replace HB := Aside0.mk (below_step (by exact Lz1 HB GE309) hb); (try clear hb); (try clear hb2); (try clear hk); (try clear hi)))
 go_ret
 exact ⟨_, by first | rfl | (simp [errW_none, errW_some] <;> rfl) | (simp [*, errW_none, errW_some] <;> rfl), by first | exact Kd.R_nil _ _ _ _ _ | exact Kd.N_nil _ _ _ _ _ | exact Kd.V_nil _ _ _ _ _ | exact Kd.Q_nil _ _ _ _ _ | exact Kd.S_nil _ _ _ _ _, by exact Lz1 HB GE309⟩
mutual
def laws_FnExactDistancesFrom.j0 : Nat → Int → Int → List (S88) → Option (Bool)
 | 0, _, _, _ => none
 | k + 1, x1, x325000, x325001 => (laws_toGraph.f k x325000 x325001).bind fun bt326 => ((spec_DistancesFrom.f k bt326.1 bt326.2 x1).bind fun t330 => ((laws_toGraph.f k x325000 x325001).bind fun bt333 => ((impl_DistancesFrom.f k bt333.1 bt333.2 x1).bind fun t338 => ((laws_eqIntS.f k t338 t330).bind fun t341 => (if t341 = true then (laws_FnExactDistancesFrom.j1 k x1 t330 t338 x325000 x325001 bt333.1 bt333.2) else (some false))))))
def laws_FnExactDistancesFrom.j1 : Nat → Int → List Int → List Int → Int → List (S88) → Int → List (S75) → Option (Bool)
 | 0, _, _, _, _, _, _, _ => none
 | k + 1, x1, x6, x8, x325000, x325001, x338000, x338001 => (laws_toGraph.f k x325000 x325001).bind fun bt342 => ((laws_eqGraph.f k x338000 x338001 bt342.1 bt342.2).bind fun t346 => (if t346 = true then (laws_FnExactDistancesFrom.j2 k x1 x6 x8 x325000 x325001 x338000 x338001) else (some false)))
def laws_FnExactDistancesFrom.j2 : Nat → Int → List Int → List Int → Int → List (S88) → Int → List (S75) → Option (Bool)
 | 0, _, _, _, _, _, _, _ => none
 | k + 1, x1, x6, x8, x325000, x325001, x338000, x338001 => (laws_markGraph.f k x338000 x338001 1).bind fun bt347 => (if bt347.1 < 0 then (laws_FnExactDistancesFrom.j3 k x1 x6 x8 true x325000 x325001) else ((laws_eqIntS.f k x8 x6).bind fun t349 => (laws_FnExactDistancesFrom.j3 k x1 x6 x8 (!t349) x325000 x325001)))
def laws_FnExactDistancesFrom.j3 : Nat → Int → List Int → List Int → Bool → Int → List (S88) → Option (Bool)
 | 0, _, _, _, _, _, _ => none
 | k + 1, x1, x6, x8, x46, x325000, x325001 => if x46 = true then (some false) else (laws_FnExactDistancesFrom.j4 k x1 x6 x8 x325000 x325001)
def laws_FnExactDistancesFrom.j4 : Nat → Int → List Int → List Int → Int → List (S88) → Option (Bool)
 | 0, _, _, _, _, _ => none
 | k + 1, x1, x6, x8, x325000, x325001 => (laws_markIntS.f k x8 1).bind fun bt350 => ((laws_heldIntS.f k bt350.2 1).bind fun t352 => (if t352 < 0 then (some false) else (laws_FnExactDistancesFrom.j5 k x1 x6 bt350.2 bt350.1 t352 x325000 x325001)))
def laws_FnExactDistancesFrom.j5 : Nat → Int → List Int → List Int → Int → Int → Int → List (S88) → Option (Bool)
 | 0, _, _, _, _, _, _, _ => none
 | k + 1, x1, x6, x8, x10, x11, x325000, x325001 => if x11 = x10 then (laws_FnExactDistancesFrom.j6 k x1 x6 x8 x10 x325000 x325001) else (some false)
def laws_FnExactDistancesFrom.j6 : Nat → Int → List Int → List Int → Int → Int → List (S88) → Option (Bool)
 | 0, _, _, _, _, _, _ => none
 | k + 1, x1, x6, x8, x10, x325000, x325001 => (laws_toGraph.f k x325000 x325001).bind fun bt353 => ((impl_DistancesFrom.f k bt353.1 bt353.2 x1).bind fun t357 => ((laws_eqIntS.f k t357 x6).bind fun t360 => (if t360 = true then (laws_FnExactDistancesFrom.j7 k x8 x10) else (some false))))
def laws_FnExactDistancesFrom.j7 : Nat → List Int → Int → Option (Bool)
 | 0, _, _ => none
 | k + 1, x8, x10 => (laws_heldIntS.f k x8 1).bind fun t361 => (if t361 < 0 then (some false) else (laws_FnExactDistancesFrom.j8 k x10 t361))
def laws_FnExactDistancesFrom.j8 : Nat → Int → Int → Option (Bool)
 | 0, _, _ => none
 | k + 1, x10, x11 => if x11 = x10 then (some true) else (some false)
end
def laws_FnExactDistancesFrom.f (k : Nat) (a0_0 : Int) (l0_1 : List (S88)) (a1 : Int) : Option (Bool) := (laws_szGraph.f a0_0 l0_1 1048576).bind fun t325 => (if t325 < 0 then (some true) else (laws_FnExactDistancesFrom.j0 k a1 a0_0 l0_1))
set_option maxHeartbeats 8000000 in
set_option maxRecDepth 100000 in
theorem laws_FnExactDistancesFrom.calls (k : Nat) (a0_0 : Int) (A0_1 : Option Addr) (c0_1 : Nat) (l0_1 : List (S88)) (a1 : Int) (r : Bool) (w : World) (hr0_1 : Kd.C k88 w A0_1 l0_1.length l0_1) (hc0_1 : l0_1.length ≤ c0_1) (h : laws_FnExactDistancesFrom.f k a0_0 l0_1 a1 = some r) (hR_ : r = true := by rfl) :
  Calls Try.prog 12 #[.agg #[.int .i64 a0_0, .slice A0_1 l0_1.length c0_1], .int .i64 a1] w fun e w' => e = .returned (.bool r) ∧ Below w.heap.size w w' := by
 have HR_ := Aside0.mk hR_
 clear hR_
 have hu37 := Try.underlying37
 have hu42 := Try.underlying42
 have HR0_1 := Aside0.mk hr0_1
 have HC0_1 := Aside0.mk hc0_1
 clear hr0_1 hc0_1
 have HB := Aside0.mk (Below.refl w.heap.size w)
 have H : ((laws_szGraph.f a0_0 l0_1 1048576).bind fun t325 => (if t325 < 0 then (some true) else (laws_FnExactDistancesFrom.j0 k a1 a0_0 l0_1))) = some r := h
 clear h
 replace H := Option.bind_eq_some_iff.mp H
 obtain ⟨t325, A30, H⟩ := H
 replace H : (if t325 < 0 then (some true) else (laws_FnExactDistancesFrom.j0 k a1 a0_0 l0_1)) = some r := H
 have A3 := Aside0.mk A30
 clear A30
 have HC4 := Aside0.mk H
 clear H
 go_enter Try.func12, Try.ntmps12
 go_upto_if 17 with (first | ((with_reducible refine gate_dst (N := 2) rfl ?_); refine box_event ?hg (N := 2) ?hd (cs := #[.int .i64 a0_0, .slice A0_1 l0_1.length c0_1]) (t := 37) ?hr ?_; (case hd => rfl); (case hg => rfl); (case hr => first | (go_simp; done) | (go_simp; rfl)); intro gb324 hg w5 hbox hb; have BK324 := Aside0.mk (hbox); have GW324 := Aside0.mk ((by rw [hg]; exact (below_size (Lz HB)) : w.heap.size ≤ gb324)); have GE324 := Aside0.mk ((by rw [hg]; exact (below_size (Lz HB)) : w.heap.size ≤ gb324)); replace HB := Aside0.mk (below_step (Lz HB) hb); clear hb hbox hg; have hcz6_0 : w5.cell? ⟨gb324, 0, none⟩ = some (.int .i64 a0_0) := (blk_cell BK324.out 0).trans rfl; have hcz6_1 : w5.cell? ⟨gb324, 1, none⟩ = some (.slice A0_1 l0_1.length c0_1) := (blk_cell BK324.out 1).trans rfl; have hfz6_0 := blk_frozen BK324.out 0; have hfz6_1 := blk_frozen BK324.out 1) | ((with_reducible refine gate_callee (f := 31) rfl ?_); refine goesM_ (some 15) rfl rfl Try.func31 (by kernel_rfl) rfl #[.agg #[.int .i64 a0_0, .slice A0_1 l0_1.length c0_1], .int .i64 1048576] rfl ?_; (with_reducible refine (laws_szGraph.calls a0_0 _ _ l0_1 1048576 t325 _ ?side1 ?side2 A3.out).mono ?_); (case side1 => exact Cz ((Kd.C_below HR0_1.out HB.out))); (case side2 => exact HC0_1.out); rintro e w7 ⟨rfl, hb⟩; refine ⟨_, rfl, ?_⟩; replace BK324 := Aside0.mk (blk_below (g := gb324) (o := .cells #[.int .i64 a0_0, .slice A0_1 l0_1.length c0_1] 37 (0, 0)) (Bz BK324) hb); replace HB := Aside0.mk (below_step (by exact Lz1 HB GE324) hb); (try clear hb); (try clear hb2); (try clear hk); (try clear hi)))
 (try simp only [Act.put, List.setIfInBounds_toArray, List.set_cons_zero, List.set_cons_succ])
 go_cut [] (fun wc => ∃ (kq : Nat), Aside0 (laws_FnExactDistancesFrom.j0 kq a1 a0_0 l0_1 = some r) ∧ Aside0 (kq ≤ k) ∧ Aside0 (wc.heap[gb324]? = some (.cells #[.int .i64 a0_0, (.slice A0_1 l0_1.length c0_1)] 37 (0, 0))) ∧ Aside0 (Below w.heap.size w wc))
 case first =>
  have H := HC4.out
  clear HC4
  by_cases c8 : t325 < 0
  ·rw [if_pos c8] at H
   have c8b0 : decide (t325 < 0) = true := decide_eq_true c8
   clear c8
   (first | rw [c8b0] | (simp only [i64_w, i32_w]; rw [c8b0]) | skip)
   obtain rfl := Option.some.inj H
   go_wp2
   go_ret
   exact ⟨by first | rfl | (simp [errW_none, errW_some] <;> rfl) | (simp [*, errW_none, errW_some] <;> rfl), by exact Lz1 HB GE324⟩
  rw [if_neg c8] at H
  have c8b0 : decide (t325 < 0) = false := decide_eq_false c8
  clear c8
  (first | rw [c8b0] | (simp only [i64_w, i32_w]; rw [c8b0]) | skip)
  have H' := Aside0.mk H
  clear H
  go_wp2
  go_meet
  case rel => exact ⟨_, H', ⟨by first | omega | exact Nat.le_refl _⟩, ⟨by exact Bz BK324⟩, ⟨by exact Lz1 HB GE324⟩⟩
 case rest =>
  clear HC4
  try clear c8
  try clear c8b0
  obtain ⟨kq, HA, HJ3, BK324, HB⟩ := hcut
  cases kq with
  | zero => exact absurd HA.out (by simp [laws_FnExactDistancesFrom.j0])
  | succ kj3 =>
   have H := HA.out
   clear HA
   simp only [laws_FnExactDistancesFrom.j0] at H
   replace H := Option.bind_eq_some_iff.mp H
   obtain ⟨⟨t326, t327⟩, A90, H⟩ := H
   replace H : ((spec_DistancesFrom.f kj3 t326 t327 a1).bind fun t330 => ((laws_toGraph.f kj3 a0_0 l0_1).bind fun bt333 => ((impl_DistancesFrom.f kj3 bt333.1 bt333.2 a1).bind fun t338 => ((laws_eqIntS.f kj3 t338 t330).bind fun t341 => (if t341 = true then (laws_FnExactDistancesFrom.j1 kj3 a1 t330 t338 a0_0 l0_1 bt333.1 bt333.2) else (some false)))))) = some r := H
   have A9 := Aside0.mk A90
   clear A90
   replace H := Option.bind_eq_some_iff.mp H
   obtain ⟨t330, A100, H⟩ := H
   replace H : ((laws_toGraph.f kj3 a0_0 l0_1).bind fun bt333 => ((impl_DistancesFrom.f kj3 bt333.1 bt333.2 a1).bind fun t338 => ((laws_eqIntS.f kj3 t338 t330).bind fun t341 => (if t341 = true then (laws_FnExactDistancesFrom.j1 kj3 a1 t330 t338 a0_0 l0_1 bt333.1 bt333.2) else (some false))))) = some r := H
   have A10 := Aside0.mk A100
   clear A100
   replace H := Option.bind_eq_some_iff.mp H
   obtain ⟨⟨t333, t334⟩, A110, H⟩ := H
   replace H : ((impl_DistancesFrom.f kj3 t333 t334 a1).bind fun t338 => ((laws_eqIntS.f kj3 t338 t330).bind fun t341 => (if t341 = true then (laws_FnExactDistancesFrom.j1 kj3 a1 t330 t338 a0_0 l0_1 t333 t334) else (some false)))) = some r := H
   have A11 := Aside0.mk A110
   clear A110
   replace H := Option.bind_eq_some_iff.mp H
   obtain ⟨t338, A120, H⟩ := H
   replace H : ((laws_eqIntS.f kj3 t338 t330).bind fun t341 => (if t341 = true then (laws_FnExactDistancesFrom.j1 kj3 a1 t330 t338 a0_0 l0_1 t333 t334) else (some false))) = some r := H
   have A12 := Aside0.mk A120
   clear A120
   replace H := Option.bind_eq_some_iff.mp H
   obtain ⟨t341, A130, H⟩ := H
   replace H : (if t341 = true then (laws_FnExactDistancesFrom.j1 kj3 a1 t330 t338 a0_0 l0_1 t333 t334) else (some false)) = some r := H
   have A13 := Aside0.mk A130
   clear A130
   have HC14 := Aside0.mk H
   clear H
   have hcz15_0 : wc.cell? ⟨gb324, 0, none⟩ = some (.int .i64 a0_0) := (blk_cell BK324.out 0).trans rfl
   have hcz15_1 : wc.cell? ⟨gb324, 1, none⟩ = some (.slice A0_1 l0_1.length c0_1) := (blk_cell BK324.out 1).trans rfl
   have hfz15_0 := blk_frozen BK324.out 0
   have hfz15_1 := blk_frozen BK324.out 1
   go_upto_if 30 with (first | ((with_reducible refine gate_callee (f := 33) rfl ?_); refine goesM_ (some 19) rfl rfl Try.func33 (by kernel_rfl) rfl #[.agg #[.int .i64 a0_0, .slice A0_1 l0_1.length c0_1]] rfl ?_; (with_reducible refine (laws_toGraph.calls kj3 a0_0 _ _ l0_1 t326 t327 _ ?side1 ?side2 A9.out).mono ?_); (case side1 => exact Cz ((Kd.C_below HR0_1.out HB.out))); (case side2 => exact HC0_1.out); rintro e w16 ⟨v328, rfl, ho0, hb⟩; refine ⟨_, rfl, ?_⟩; have HO329 := Aside0.mk (Kd.R_lower ho0 (below_size (by exact Lz1 HB GE324))); replace BK324 := Aside0.mk (blk_below (g := gb324) (o := .cells #[.int .i64 a0_0, .slice A0_1 l0_1.length c0_1] 37 (0, 0)) (Bz BK324) hb); replace HB := Aside0.mk (below_step (by exact Lz1 HB GE324) hb); (try clear hb); (try clear ho0); obtain ⟨Ao17, co17, eo17⟩ := Kd.R_slice HO329.out; subst eo17) | ((with_reducible refine gate_callee (f := 47) rfl ?_); refine goesM_ (some 21) rfl rfl Try.func47 (by kernel_rfl) rfl #[.agg #[.int .i64 t326, .slice Ao17 t327.length co17], .int .i64 a1] rfl ?_; (with_reducible refine (spec_DistancesFrom.calls kj3 t326 _ _ t327 a1 t330 _ ?side1 ?side2 A10.out).mono ?_); (case side1 => exact Cz ((Kd.R_reads' HO329.out).2.2)); (case side2 => exact (Kd.R_reads' HO329.out).2.1); rintro e w18 ⟨v331, rfl, ho0, hb⟩; refine ⟨_, rfl, ?_⟩; replace HO329 := Aside0.mk (Kd.R_below (Rz HO329) hb); have HO332 := Aside0.mk (Kd.R_lower ho0 (below_size (by exact Lz1 HB GE324))); replace BK324 := Aside0.mk (blk_below (g := gb324) (o := .cells #[.int .i64 a0_0, .slice A0_1 l0_1.length c0_1] 37 (0, 0)) (Bz BK324) hb); replace HB := Aside0.mk (below_step (by exact Lz1 HB GE324) hb); (try clear hb); (try clear ho0); have hcz19_0 : w18.cell? ⟨gb324, 0, none⟩ = some (.int .i64 a0_0) := (blk_cell BK324.out 0).trans rfl; have hcz19_1 : w18.cell? ⟨gb324, 1, none⟩ = some (.slice A0_1 l0_1.length c0_1) := (blk_cell BK324.out 1).trans rfl; have hfz19_0 := blk_frozen BK324.out 0; have hfz19_1 := blk_frozen BK324.out 1) | ((with_reducible refine gate_callee (f := 33) rfl ?_); refine goesM_ (some 23) rfl rfl Try.func33 (by kernel_rfl) rfl #[.agg #[.int .i64 a0_0, .slice A0_1 l0_1.length c0_1]] rfl ?_; (with_reducible refine (laws_toGraph.calls kj3 a0_0 _ _ l0_1 t333 t334 _ ?side1 ?side2 A11.out).mono ?_); (case side1 => exact Cz ((Kd.C_below HR0_1.out HB.out))); (case side2 => exact HC0_1.out); rintro e w20 ⟨v335, rfl, ho0, hb⟩; refine ⟨_, rfl, ?_⟩; replace HO332 := Aside0.mk (Kd.R_below (Rz HO332) hb); have HO336 := Aside0.mk (Kd.R_lower (Kd.R_new' ho0 (Kd.R_lt (Rz HO329))) (below_size (by exact Lz1 HB GE324))); replace HO329 := Aside0.mk (Kd.R_elder' (Rz HO329) (Kd.R_base ho0) hb); replace BK324 := Aside0.mk (blk_below (g := gb324) (o := .cells #[.int .i64 a0_0, .slice A0_1 l0_1.length c0_1] 37 (0, 0)) (Bz BK324) hb); replace HB := Aside0.mk (below_step (by exact Lz1 HB GE324) hb); (try clear hb); (try clear ho0)) | ((with_reducible refine gate_dst (N := 7) rfl ?_); refine box_event ?hg (N := 7) ?hd (cs := #[.int .i64 0, .slice none 0 0]) (t := 42) ?hr ?_; (case hd => rfl); (case hg => rfl); (case hr => first | (go_simp; done) | (go_simp; rfl)); intro gb337 hg w21 hbox hb; replace HO329 := Aside0.mk (Kd.R_below (Rz HO329) hb); replace HO332 := Aside0.mk (Kd.R_below (Rz HO332) hb); replace HO336 := Aside0.mk (Kd.R_below (Rz HO336) hb); have BK337 := Aside0.mk (hbox); have GW337 := Aside0.mk ((by rw [hg]; exact (below_size (by exact Lz1 HB GE324)) : w.heap.size ≤ gb337)); have GE337 := Aside0.mk ((by rw [hg]; exact (below_size (by exact Lz1 HB GE324)) : w.heap.size ≤ gb337)); replace HB := Aside0.mk (below_step (by exact Lz1 HB GE324) hb); have NB324_337 := Aside0.mk ((by rw [hg]; exact Nat.ne_of_lt (blk_lt (g := gb324) (o := .cells #[.int .i64 a0_0, .slice A0_1 l0_1.length c0_1] 37 (0, 0)) (Bz BK324)) : gb324 ≠ gb337)); have NB337_324 := Aside0.mk ((by rw [hg]; exact Nat.ne_of_gt (blk_lt (g := gb324) (o := .cells #[.int .i64 a0_0, .slice A0_1 l0_1.length c0_1] 37 (0, 0)) (Bz BK324)) : gb337 ≠ gb324)); replace BK324 := Aside0.mk (blk_below (g := gb324) (o := .cells #[.int .i64 a0_0, .slice A0_1 l0_1.length c0_1] 37 (0, 0)) (Bz BK324) hb); clear hb hbox hg; have hnb22 := NB337_324.out; have hnc22 := NB324_337.out; have hcz23_0 : w21.cell? ⟨gb337, 0, none⟩ = some (.int .i64 0) := (blk_cell BK337.out 0).trans rfl; have hcz23_1 : w21.cell? ⟨gb337, 1, none⟩ = some (.slice none 0 0) := (blk_cell BK337.out 1).trans rfl; have hfz23_0 := blk_frozen BK337.out 0; have hfz23_1 := blk_frozen BK337.out 1; obtain ⟨Ao24, co24, eo24⟩ := Kd.R_slice HO336.out; subst eo24) | ((with_reducible refine gate_callee (f := 48) rfl ?_); refine goesM_ (some 26) rfl rfl Try.func48 (by kernel_rfl) rfl #[.agg #[.int .i64 t333, .slice Ao24 t334.length co24], .int .i64 a1] rfl ?_; (with_reducible refine (impl_DistancesFrom.calls kj3 t333 _ _ t334 a1 t338 _ ?side1 ?side2 A12.out).mono ?_); (case side1 => refine (Kd.R_reads' (e := 75) (base := w.heap.size) (ok := fun k_ => (True ∧ some k_ ≠ (.slice Ao17 t327.length co17 : Value).ownBlock)) (n := t334.length) (c := co24) ?_).2.2; exact (by (with_reducible repeat (first | apply Kd.R_alloc | apply Kd.R_drewN | apply Kd.R_drew)); exact (Kd.R_mono (Kd.R_far (p := ⟨gb337, 1, none⟩) (Kd.R_far (p := ⟨gb337, 0, none⟩) (Kd.R_types HO336.out BK337.out (by decide)) (fun _ hk => hk.2) (.int .i64 t333)) (fun _ hk => hk.2) (.slice Ao24 t334.length co24)) (fun _ h_ => h_.1)))); (case side2 => exact (Kd.R_reads' HO336.out).2.1); rintro e w25 ⟨v339, rfl, ho0, hb⟩; refine ⟨_, rfl, ?_⟩; replace HO329 := Aside0.mk (Kd.R_below (by (with_reducible repeat (first | apply Kd.R_alloc | apply Kd.R_drewN | apply Kd.R_drew)); exact (Kd.R_mono (Kd.R_far (p := ⟨gb337, 1, none⟩) (Kd.R_far (p := ⟨gb337, 0, none⟩) (Kd.R_types HO329.out BK337.out (by decide)) (fun _ hk => hk.2) (.int .i64 t333)) (fun _ hk => hk.2) (.slice Ao24 t334.length co24)) (fun _ h_ => h_.1))) hb); replace HO336 := Aside0.mk (Kd.R_below (by (with_reducible repeat (first | apply Kd.R_alloc | apply Kd.R_drewN | apply Kd.R_drew)); exact (Kd.R_mono (Kd.R_far (p := ⟨gb337, 1, none⟩) (Kd.R_far (p := ⟨gb337, 0, none⟩) (Kd.R_types HO336.out BK337.out (by decide)) (fun _ hk => hk.2) (.int .i64 t333)) (fun _ hk => hk.2) (.slice Ao24 t334.length co24)) (fun _ h_ => h_.1))) hb); have HO340 := Aside0.mk (Kd.R_lower (Kd.R_new' ho0 (Kd.R_lt (by (with_reducible repeat (first | apply Kd.R_alloc | apply Kd.R_drewN | apply Kd.R_drew)); exact (Kd.R_mono (Kd.R_far (p := ⟨gb337, 1, none⟩) (Kd.R_far (p := ⟨gb337, 0, none⟩) (Kd.R_types HO332.out BK337.out (by decide)) (fun _ hk => hk.2) (.int .i64 t333)) (fun _ hk => hk.2) (.slice Ao24 t334.length co24)) (fun _ h_ => h_.1))))) (below_size (by exact Lz2 HB GE324 GE337))); replace HO332 := Aside0.mk (Kd.R_elder' (by (with_reducible repeat (first | apply Kd.R_alloc | apply Kd.R_drewN | apply Kd.R_drew)); exact (Kd.R_mono (Kd.R_far (p := ⟨gb337, 1, none⟩) (Kd.R_far (p := ⟨gb337, 0, none⟩) (Kd.R_types HO332.out BK337.out (by decide)) (fun _ hk => hk.2) (.int .i64 t333)) (fun _ hk => hk.2) (.slice Ao24 t334.length co24)) (fun _ h_ => h_.1))) (Kd.R_base ho0) hb); replace BK324 := Aside0.mk (blk_below (g := gb324) (o := .cells #[.int .i64 a0_0, .slice A0_1 l0_1.length c0_1] 37 (0, 0)) (by (with_reducible repeat (first | refine blk_drewN ?_ _ | refine blk_drew ?_ | refine blk_alloc ?_ _)); refine blk_far ?_ NB324_337.out _; (with_reducible repeat (first | refine blk_drewN ?_ _ | refine blk_drew ?_ | refine blk_alloc ?_ _)); refine blk_far ?_ NB324_337.out _; exact Bz BK324) hb); replace BK337 := Aside0.mk (blk_below (g := gb337) (o := .cells #[.int .i64 t333, .slice Ao24 t334.length co24] 42 (0, 0)) (by (with_reducible repeat (first | refine blk_drewN ?_ _ | refine blk_drew ?_ | refine blk_alloc ?_ _)); refine blk_put (cs := #[.int .i64 t333, .slice none 0 0]) ?_ 1 _ rfl; (with_reducible repeat (first | refine blk_drewN ?_ _ | refine blk_drew ?_ | refine blk_alloc ?_ _)); refine blk_put (cs := #[.int .i64 0, .slice none 0 0]) ?_ 0 _ rfl; exact Bz BK337) hb); replace HB := Aside0.mk (below_step (by exact Lz2 HB GE324 GE337) hb); (try clear hb); (try clear ho0); obtain ⟨Ao26, co26, eo26⟩ := Kd.R_slice HO340.out; subst eo26; obtain ⟨Ao27, co27, eo27⟩ := Kd.R_slice HO332.out; subst eo27) | ((with_reducible refine gate_callee (f := 23) rfl ?_); refine goesM_ (some 29) rfl rfl Try.func23 (by kernel_rfl) rfl #[.slice Ao26 t338.length co26, .slice Ao27 t330.length co27] rfl ?_; (with_reducible refine (laws_eqIntS.calls kj3 _ _ t338 _ _ t330 t341 _ ?side1 ?side2 ?side3 ?side4 A13.out).mono ?_); (case side1 => exact Cz ((Kd.R_reads' HO340.out).2.2)); (case side2 => exact (Kd.R_reads' HO340.out).2.1); (case side3 => exact Cz ((Kd.R_reads' HO332.out).2.2)); (case side4 => exact (Kd.R_reads' HO332.out).2.1); rintro e w' ⟨rfl, ⟨nd, rfl⟩⟩; refine ⟨_, rfl, ?_⟩))
   (try simp only [Act.put, List.setIfInBounds_toArray, List.set_cons_zero, List.set_cons_succ])
   go_cut [] (fun wc => ∃ (kq : Nat), Aside0 (laws_FnExactDistancesFrom.j1 kq a1 t330 t338 a0_0 l0_1 t333 t334 = some r) ∧ Aside0 (kq ≤ kj3) ∧ Aside0 (Kd.R (Kd.int .i64) 3 wc w.heap.size (fun k_ => some k_ ≠ ((.slice Ao26 t338.length co26) : Value).ownBlock) (.slice Ao27 t330.length co27) t330) ∧ Aside0 (Kd.R (Kd.int .i64) 3 wc w.heap.size (fun k_ => some k_ ≠ ((.slice Ao27 t330.length co27) : Value).ownBlock) (.slice Ao26 t338.length co26) t338) ∧ Aside0 (Kd.R k75 75 wc w.heap.size (fun _ => True) (.slice Ao24 t334.length co24) t334) ∧ Aside0 (wc.heap[gb324]? = some (.cells #[.int .i64 a0_0, (.slice A0_1 l0_1.length c0_1)] 37 (0, 0))) ∧ Aside0 (wc.heap[gb337]? = some (.cells #[.int .i64 t333, (.slice Ao24 t334.length co24)] 42 (0, 0))) ∧ Aside0 (Below w.heap.size w wc))
   case first =>
    have H := HC14.out
    clear HC14
    by_cases c28 : t341 = true
    ·subst c28
     have H1 : (laws_FnExactDistancesFrom.j1 kj3 a1 t330 t338 a0_0 l0_1 t333 t334) = some r := by rw [if_pos rfl] at H; exact H
     clear H
     have H := H1
     clear H1
     have H' := Aside0.mk H
     clear H
     go_wp2
     go_meet
     case rel => exact ⟨_, H', ⟨by have := HJ3.out; first | omega | exact Nat.le_refl _⟩, ⟨by (with_reducible repeat (first | apply Kd.R_alloc | apply Kd.R_drewN | apply Kd.R_drew)); exact Kd.R_mono HO332.out (fun _ hk => hk.2)⟩, ⟨by (with_reducible repeat (first | apply Kd.R_alloc | apply Kd.R_drewN | apply Kd.R_drew)); exact Kd.R_mono HO340.out (fun _ hk => hk.2)⟩, ⟨by (with_reducible repeat (first | apply Kd.R_alloc | apply Kd.R_drewN | apply Kd.R_drew)); exact Kd.R_mono HO336.out (fun _ hk => trivial)⟩, ⟨by exact Bz BK324⟩, ⟨by exact Bz BK337⟩, ⟨by exact Lz2 HB GE324 GE337⟩⟩
    replace c28 := Bool.eq_false_iff.mpr c28
    subst c28
    have H1 : (some false) = some r := by rw [if_neg (show ¬ (false = true) by decide)] at H; exact H
    clear H
    have H := H1
    clear H1
    exact absurd (Option.some.inj H) (by rw [HR_.out]; decide)
   case rest =>
    clear HC14
    try clear c8
    try clear c8b0
    try clear c28
    obtain ⟨kq, HA, HJ13, HO_6, HO_8, HO_338001, BK324, BK337, HB⟩ := hcut
    cases kq with
    | zero => exact absurd HA.out (by simp [laws_FnExactDistancesFrom.j1])
    | succ kj13 =>
     have H := HA.out
     clear HA
     simp only [laws_FnExactDistancesFrom.j1] at H
     replace H := Option.bind_eq_some_iff.mp H
     obtain ⟨⟨t342, t343⟩, A290, H⟩ := H
     replace H : ((laws_eqGraph.f kj13 t333 t334 t342 t343).bind fun t346 => (if t346 = true then (laws_FnExactDistancesFrom.j2 kj13 a1 t330 t338 a0_0 l0_1 t333 t334) else (some false))) = some r := H
     have A29 := Aside0.mk A290
     clear A290
     replace H := Option.bind_eq_some_iff.mp H
     obtain ⟨t346, A300, H⟩ := H
     replace H : (if t346 = true then (laws_FnExactDistancesFrom.j2 kj13 a1 t330 t338 a0_0 l0_1 t333 t334) else (some false)) = some r := H
     have A30 := Aside0.mk A300
     clear A300
     have HC31 := Aside0.mk H
     clear H
     try go_wp2
     replace HO_6 := Aside0.mk (Kd.R_drew HO_6.out)
     replace HO_8 := Aside0.mk (Kd.R_drew HO_8.out)
     replace HO_338001 := Aside0.mk (Kd.R_drew HO_338001.out)
     replace BK324 := Aside0.mk (blk_drew BK324.out)
     replace BK337 := Aside0.mk (blk_drew BK337.out)
     replace HB := Aside0.mk (below_drew1 HB.out)
     refine start_ (n := 5) (S := fun w' => w'.cell? ⟨gb337, 0, none⟩ = some (.int .i64 t333) ∧ w'.cell? ⟨gb337, 1, none⟩ = some (.slice Ao24 t334.length co24) ∧ w'.cell? ⟨gb324, 0, none⟩ = some (.int .i64 a0_0) ∧ w'.cell? ⟨gb324, 1, none⟩ = some (.slice A0_1 l0_1.length c0_1)) (ds := []) #[false, false, false, false, false] (by kernel_rfl) rfl rfl ⟨(blk_cell BK337.out 0).trans rfl, (blk_cell BK337.out 1).trans rfl, (blk_cell BK324.out 0).trans rfl, (blk_cell BK324.out 1).trans rfl⟩ (fun hHeld => ?_)
     generalize wc.drew = w32 at HO_6 HO_8 HO_338001 BK324 BK337 HB hHeld ⊢
     refine take_ (i := 0) (N := some 31) (v := ?_) (a' := ?_) #[true, false, false, false, false] rfl rfl (by kernel_rfl) (fun _ _ _ h => h) (Or.inl ⟨by rfl, ?_⟩) hHeld ?_ ?_
     rotate_left
     ·rintro w' ⟨s0, s1, s2, s3⟩
      go_simp
      with_reducible rfl
     rotate_left
     ·simp only [Act.put, List.setIfInBounds_toArray, List.set_cons_zero, List.set_cons_succ, i64_w, i32_w]
      rfl
     refine take_ (i := 1) (N := some 32) (v := ?_) (a' := ?_) #[true, true, false, false, false] rfl rfl (by kernel_rfl) (fun _ _ _ h => h) (Or.inl ⟨by rfl, ?_⟩) hHeld ?_ ?_
     rotate_left
     ·rintro w' ⟨s0, s1, s2, s3⟩
      go_simp
      with_reducible rfl
     rotate_left
     ·simp only [Act.put, List.setIfInBounds_toArray, List.set_cons_zero, List.set_cons_succ, i64_w, i32_w]
      rfl
     refine one_ (i := 2) (N := some 33) #[true, true, true, false, false] rfl rfl (by kernel_rfl) (by decide) (fun K hK => ?_)
     refine goes_ Try.func33 (by kernel_rfl) rfl #[.agg #[.int .i64 a0_0, .slice A0_1 l0_1.length c0_1]] (by rfl) rfl rfl (by (try simp only [List.map_toArray, List.map_cons, List.map_nil]); first | done | rfl | (simp only [List.length_drop, List.length_take]; rfl)) ?_
     with_reducible refine (laws_toGraph.calls kj13 a0_0 _ _ l0_1 t342 t343 _ ?side1 ?side2 A29.out).mono ?_
     (case side1 => exact Cz ((Kd.C_below HR0_1.out HB.out)))
     (case side2 => exact HC0_1.out)
     rintro e w33 ⟨v344, rfl, ho0, hb⟩
     refine ⟨_, rfl, ?_⟩
     replace HO_6 := Aside0.mk (Kd.R_below (Rz HO_6) hb)
     replace HO_8 := Aside0.mk (Kd.R_below (Rz HO_8) hb)
     have HO345 := Aside0.mk (Kd.R_lower (Kd.R_new' ho0 (Kd.R_lt (Rz HO_338001))) (below_size (by exact Lz2 HB GE324 GE337)))
     replace HO_338001 := Aside0.mk (Kd.R_elder' (Rz HO_338001) (Kd.R_base ho0) hb)
     replace BK324 := Aside0.mk (blk_below (g := gb324) (o := .cells #[.int .i64 a0_0, .slice A0_1 l0_1.length c0_1] 37 (0, 0)) (Bz BK324) hb)
     replace BK337 := Aside0.mk (blk_below (g := gb337) (o := .cells #[.int .i64 t333, .slice Ao24 t334.length co24] 42 (0, 0)) (Bz BK337) hb)
     replace HB := Aside0.mk (below_step (by exact Lz2 HB GE324 GE337) hb)
     (try clear hb)
     (try clear hb2)
     (try clear hk)
     (try clear hi)
     (try clear ho0)
     obtain ⟨Ao34, co34, eo34⟩ := Kd.R_slice HO345.out
     (first | subst eo34 | (injection eo34 with f1_ f2_ f3_; have f4_ := f1_.symm; have f5_ := f3_.symm; clear f1_ f2_ f3_; subst f4_; subst f5_))
     refine hK.out _ _ ⟨(blk_cell BK337.out 0).trans rfl, (blk_cell BK337.out 1).trans rfl, (blk_cell BK324.out 0).trans rfl, (blk_cell BK324.out 1).trans rfl⟩ (fun hHeld => ?_)
     clear hK K
     refine norm_ (a' := ?_) ?_ ?_
     rotate_left
     ·show Act.put _ (some 33) _ = _
      simp only [Act.put, List.setIfInBounds_toArray, List.set_cons_zero, List.set_cons_succ, i64_w, i32_w]
      rfl
     refine one_ (i := 3) (N := some 34) #[true, true, true, true, false] rfl rfl (by kernel_rfl) (by decide) (fun K hK => ?_)
     refine goes_ Try.func35 (by kernel_rfl) rfl #[.agg #[.int .i64 t333, .slice Ao24 t334.length co24], .agg #[.int .i64 t342, .slice Ao34 t343.length co34]] (by rfl) rfl rfl (by (try simp only [List.map_toArray, List.map_cons, List.map_nil]); first | done | rfl | (simp only [List.length_drop, List.length_take]; rfl)) ?_
     with_reducible refine (laws_eqGraph.calls kj13 t333 _ _ t334 t342 _ _ t343 t346 _ ?side1 ?side2 ?side3 ?side4 A30.out).mono ?_
     (case side1 => exact Cz ((Kd.R_reads' HO_338001.out).2.2))
     (case side2 => exact (Kd.R_reads' HO_338001.out).2.1)
     (case side3 => exact Cz ((Kd.R_reads' HO345.out).2.2))
     (case side4 => exact (Kd.R_reads' HO345.out).2.1)
     rintro e w35 ⟨rfl, hb⟩
     refine ⟨_, rfl, ?_⟩
     replace HO_6 := Aside0.mk (Kd.R_below (Rz HO_6) hb)
     replace HO_8 := Aside0.mk (Kd.R_below (Rz HO_8) hb)
     replace HO_338001 := Aside0.mk (Kd.R_below (Rz HO_338001) hb)
     replace HO345 := Aside0.mk (Kd.R_below (Rz HO345) hb)
     replace BK324 := Aside0.mk (blk_below (g := gb324) (o := .cells #[.int .i64 a0_0, .slice A0_1 l0_1.length c0_1] 37 (0, 0)) (Bz BK324) hb)
     replace BK337 := Aside0.mk (blk_below (g := gb337) (o := .cells #[.int .i64 t333, .slice Ao24 t334.length co24] 42 (0, 0)) (Bz BK337) hb)
     replace HB := Aside0.mk (below_step (by exact Lz2 HB GE324 GE337) hb)
     (try clear hb)
     (try clear hb2)
     (try clear hk)
     (try clear hi)
     refine hK.out _ _ ⟨(blk_cell BK337.out 0).trans rfl, (blk_cell BK337.out 1).trans rfl, (blk_cell BK324.out 0).trans rfl, (blk_cell BK324.out 1).trans rfl⟩ (fun hHeld => ?_)
     clear hK K
     refine norm_ (a' := ?_) ?_ ?_
     rotate_left
     ·show Act.put _ (some 34) _ = _
      simp only [Act.put, List.setIfInBounds_toArray, List.set_cons_zero, List.set_cons_succ, i64_w, i32_w]
      rfl
     refine pure_ (i := 4) (N := some 35) (v := ?_) (a' := ?_) #[true, true, true, true, true] rfl rfl (by kernel_rfl) (fun _ _ _ h => h) (Or.inl ⟨by rfl, ?_⟩) ?_ ?_
     rotate_left
     ·intro w'
      go_simp
      with_reducible rfl
     rotate_left
     ·simp only [Act.put, List.setIfInBounds_toArray, List.set_cons_zero, List.set_cons_succ, i64_w, i32_w]
      rfl
     refine done_ (by kernel_rfl) ?_
     go_upto_if 35 with (fail)
     go_cut [] (fun wc => ∃ (kq : Nat), Aside0 (laws_FnExactDistancesFrom.j2 kq a1 t330 t338 a0_0 l0_1 t333 t334 = some r) ∧ Aside0 (kq ≤ kj13) ∧ Aside0 (Kd.R (Kd.int .i64) 3 wc w.heap.size (fun k_ => some k_ ≠ ((.slice Ao26 t338.length co26) : Value).ownBlock) (.slice Ao27 t330.length co27) t330) ∧ Aside0 (Kd.R (Kd.int .i64) 3 wc w.heap.size (fun k_ => some k_ ≠ ((.slice Ao27 t330.length co27) : Value).ownBlock) (.slice Ao26 t338.length co26) t338) ∧ Aside0 (Kd.R k75 75 wc w.heap.size (fun _ => True) (.slice Ao24 t334.length co24) t334) ∧ Aside0 (wc.heap[gb324]? = some (.cells #[.int .i64 a0_0, (.slice A0_1 l0_1.length c0_1)] 37 (0, 0))) ∧ Aside0 (wc.heap[gb337]? = some (.cells #[.int .i64 t333, (.slice Ao24 t334.length co24)] 42 (0, 0))) ∧ Aside0 (Below w.heap.size w wc))
     case first =>
      have H := HC31.out
      clear HC31
      by_cases c36 : t346 = true
      ·subst c36
       have H1 : (laws_FnExactDistancesFrom.j2 kj13 a1 t330 t338 a0_0 l0_1 t333 t334) = some r := by rw [if_pos rfl] at H; exact H
       clear H
       have H := H1
       clear H1
       have H' := Aside0.mk H
       clear H
       go_wp2
       go_meet
       case rel => exact ⟨_, H', ⟨by have := HJ3.out; have := HJ13.out; first | omega | exact Nat.le_refl _⟩, ⟨by exact Rz HO_6⟩, ⟨by exact Rz HO_8⟩, ⟨by (with_reducible repeat (first | apply Kd.R_alloc | apply Kd.R_drewN | apply Kd.R_drew)); exact Kd.R_mono HO_338001.out (fun _ hk => trivial)⟩, ⟨by exact Bz BK324⟩, ⟨by exact Bz BK337⟩, ⟨by exact Lz2 HB GE324 GE337⟩⟩
      replace c36 := Bool.eq_false_iff.mpr c36
      subst c36
      have H1 : (some false) = some r := by rw [if_neg (show ¬ (false = true) by decide)] at H; exact H
      clear H
      have H := H1
      clear H1
      exact absurd (Option.some.inj H) (by rw [HR_.out]; decide)
     case rest =>
      clear HC31
      try clear c8
      try clear c8b0
      try clear c28
      try clear c36
      obtain ⟨kq, HA, HJ30, HO_6, HO_8, HO_338001, BK324, BK337, HB⟩ := hcut
      cases kq with
      | zero => exact absurd HA.out (by simp [laws_FnExactDistancesFrom.j2])
      | succ kj30 =>
       have H := HA.out
       clear HA
       simp only [laws_FnExactDistancesFrom.j2] at H
       replace H := Option.bind_eq_some_iff.mp H
       obtain ⟨⟨t347, t348⟩, A370, H⟩ := H
       replace H : (if t347 < 0 then (laws_FnExactDistancesFrom.j3 kj30 a1 t330 t338 true a0_0 l0_1) else ((laws_eqIntS.f kj30 t338 t330).bind fun t349 => (laws_FnExactDistancesFrom.j3 kj30 a1 t330 t338 (!t349) a0_0 l0_1))) = some r := H
       have A37 := Aside0.mk A370
       clear A370
       have HC38 := Aside0.mk H
       clear H
       have hnb39 := NB337_324.out
       have hnc39 := NB324_337.out
       have hcz40_0 : wc.cell? ⟨gb337, 0, none⟩ = some (.int .i64 t333) := (blk_cell BK337.out 0).trans rfl
       have hcz40_1 : wc.cell? ⟨gb337, 1, none⟩ = some (.slice Ao24 t334.length co24) := (blk_cell BK337.out 1).trans rfl
       have hfz40_0 := blk_frozen BK337.out 0
       have hfz40_1 := blk_frozen BK337.out 1
       go_upto_region 14 with (first | ((with_reducible refine gate_callee (f := 36) rfl ?_); refine goesM_ (some 38) rfl rfl Try.func36 (by kernel_rfl) rfl #[.agg #[.int .i64 t333, .slice Ao24 t334.length co24], .int .i64 1] rfl ?_; (with_reducible refine (laws_markGraph.calls kj30 t333 (fun k_ => some k_ = (.slice Ao24 t334.length co24 : Value).ownBlock) (.slice Ao24 t334.length co24) t334 1 t347 t348 w _ ?side1 ?side2 A37.out).mono ?_); (case side1 => exact Lz2 HB GE324 GE337); (case side2 => exact Kd.R_tight rfl HO_338001.out); rintro e w41 ⟨rfl, hy0, hb, hkp⟩; refine ⟨_, rfl, ?_⟩; replace HO_6 := Aside0.mk (Kd.R_mono (ok' := fun k_ => some k_ ≠ (.slice Ao26 t338.length co26 : Value).ownBlock) (Kd.R_keptB ((Kd.R_apart' HO_6.out (Kd.R_typed HO_338001.out) (by decide))) hkp (fun k_ hk_ hs_ => (hk_.2) hs_)) (fun k_ hk_ => hk_.1.1)); replace HO_8 := Aside0.mk (Kd.R_mono (ok' := fun k_ => some k_ ≠ (.slice Ao27 t330.length co27 : Value).ownBlock) (Kd.R_keptB ((Kd.R_apart' HO_8.out (Kd.R_typed HO_338001.out) (by decide))) hkp (fun k_ hk_ hs_ => (hk_.2) hs_)) (fun k_ hk_ => hk_.1.1)); replace BK324 := Aside0.mk (blk_kept (Bz BK324) hkp (fun hs_ => (fun e_ => (Kd.R_ne HO_338001.out BK324.out (by decide)) e_) hs_)); replace BK337 := Aside0.mk (blk_kept (Bz BK337) hkp (fun hs_ => (fun e_ => (Kd.R_ne HO_338001.out BK337.out (by decide)) e_) hs_)); replace HO_338001 := Aside0.mk (Kd.R_reok rfl hy0 (fun k_ e_ => HO_338001.out.1 k_ e_)); replace HB := Aside0.mk (hb); (try clear hb); (try clear hkp); (try clear hy0)))
       (try simp only [Act.put, List.setIfInBounds_toArray, List.set_cons_zero, List.set_cons_succ])
       go_cut [46] (fun v46 wc => ∃ (kq : Nat) (x46_37 : Bool), v46 = .bool x46_37 ∧ Aside0 (laws_FnExactDistancesFrom.j3 kq a1 t330 t338 x46_37 a0_0 l0_1 = some r) ∧ Aside0 (kq ≤ kj30) ∧ Aside0 (Kd.R (Kd.int .i64) 3 wc w.heap.size (fun k_ => some k_ ≠ ((.slice Ao26 t338.length co26) : Value).ownBlock) (.slice Ao27 t330.length co27) t330) ∧ Aside0 (Kd.R (Kd.int .i64) 3 wc w.heap.size (fun k_ => some k_ ≠ ((.slice Ao27 t330.length co27) : Value).ownBlock) (.slice Ao26 t338.length co26) t338) ∧ Aside0 (Kd.R k75 75 wc w.heap.size (fun _ => True) (.slice Ao24 t334.length co24) t348) ∧ Aside0 (wc.heap[gb324]? = some (.cells #[.int .i64 a0_0, (.slice A0_1 l0_1.length c0_1)] 37 (0, 0))) ∧ Aside0 (wc.heap[gb337]? = some (.cells #[.int .i64 t333, (.slice Ao24 t334.length co24)] 42 (0, 0))) ∧ Aside0 (Below w.heap.size w wc))
       case first =>
        have H := HC38.out
        clear HC38
        by_cases c42 : t347 < 0
        ·rw [if_pos c42] at H
         have c42b0 : decide (t347 < 0) = true := decide_eq_true c42
         clear c42
         (first | rw [c42b0] | (simp only [i64_w, i32_w]; rw [c42b0]) | skip)
         have H' := Aside0.mk H
         clear H
         go_wp2
         go_meet
         case rel => exact ⟨_, (true), eqA, H', ⟨by have := HJ3.out; have := HJ13.out; have := HJ30.out; first | omega | exact Nat.le_refl _⟩, ⟨by exact Rz HO_6⟩, ⟨by exact Rz HO_8⟩, ⟨by exact Rz HO_338001⟩, ⟨by exact Bz BK324⟩, ⟨by exact Bz BK337⟩, ⟨by exact Lz2 HB GE324 GE337⟩⟩
        rw [if_neg c42] at H
        have c42b0 : decide (t347 < 0) = false := decide_eq_false c42
        clear c42
        (first | rw [c42b0] | (simp only [i64_w, i32_w]; rw [c42b0]) | skip)
        replace H := Option.bind_eq_some_iff.mp H
        obtain ⟨t349, A430, H⟩ := H
        replace H : (laws_FnExactDistancesFrom.j3 kj30 a1 t330 t338 (!t349) a0_0 l0_1) = some r := H
        have A43 := Aside0.mk A430
        clear A430
        have H' := Aside0.mk H
        clear H
        go_wp2_with (first | (go_at_call 23; (with_reducible refine (laws_eqIntS.calls kj30 _ _ t338 _ _ t330 t349 _ ?side1 ?side2 ?side3 ?side4 A43.out).mono ?_); (case side1 => exact Cz ((Kd.R_reads' HO_8.out).2.2)); (case side2 => exact (Kd.R_reads' HO_8.out).2.1); (case side3 => exact Cz ((Kd.R_reads' HO_6.out).2.2)); (case side4 => exact (Kd.R_reads' HO_6.out).2.1); rintro e w' ⟨rfl, ⟨nd, rfl⟩⟩))
        go_meet
        case rel => exact ⟨_, (!t349), eqA, H', ⟨by have := HJ3.out; have := HJ13.out; have := HJ30.out; first | omega | exact Nat.le_refl _⟩, ⟨by exact Rz HO_6⟩, ⟨by exact Rz HO_8⟩, ⟨by exact Rz HO_338001⟩, ⟨by exact Bz BK324⟩, ⟨by exact Bz BK337⟩, ⟨by exact Lz2 HB GE324 GE337⟩⟩
       case rest =>
        clear HC38
        try clear c8
        try clear c8b0
        try clear c28
        try clear c36
        try clear c42
        try clear c42b0
        obtain ⟨kq, x46_37, rfl, HA, HJ37, HO_6, HO_8, HO_338001, BK324, BK337, HB⟩ := hcut
        have hl338001_37 := (Kd.R_reads' HO_338001.out).1
        rw [hl338001_37] at HO_338001
        (try simp only [hl338001_37])
        (try simp only [hl338001_37] at BK324)
        (try simp only [hl338001_37] at BK337)
        (try simp only [hl338001_37] at HO_6)
        (try simp only [hl338001_37] at HO_8)
        cases kq with
        | zero => exact absurd HA.out (by simp [laws_FnExactDistancesFrom.j3])
        | succ kj37 =>
         have H := HA.out
         clear HA
         simp only [laws_FnExactDistancesFrom.j3] at H
         have HC44 := Aside0.mk H
         clear H
         go_upto_if 46 with (fail)
         go_cut [] (fun wc => ∃ (kq : Nat), Aside0 (laws_FnExactDistancesFrom.j4 kq a1 t330 t338 a0_0 l0_1 = some r) ∧ Aside0 (kq ≤ kj37) ∧ Aside0 (Kd.R (Kd.int .i64) 3 wc w.heap.size (fun k_ => some k_ ≠ ((.slice Ao26 t338.length co26) : Value).ownBlock) (.slice Ao27 t330.length co27) t330) ∧ Aside0 (Kd.R (Kd.int .i64) 3 wc w.heap.size (fun k_ => some k_ ≠ ((.slice Ao27 t330.length co27) : Value).ownBlock) (.slice Ao26 t338.length co26) t338) ∧ Aside0 (Kd.R k75 75 wc w.heap.size (fun _ => True) (.slice Ao24 t348.length co24) t348) ∧ Aside0 (wc.heap[gb324]? = some (.cells #[.int .i64 a0_0, (.slice A0_1 l0_1.length c0_1)] 37 (0, 0))) ∧ Aside0 (wc.heap[gb337]? = some (.cells #[.int .i64 t333, (.slice Ao24 t348.length co24)] 42 (0, 0))) ∧ Aside0 (Below w.heap.size w wc))
         case first =>
          have H := HC44.out
          clear HC44
          by_cases c45 : x46_37 = true
          ·subst c45
           have H1 : (some false) = some r := by rw [if_pos rfl] at H; exact H
           clear H
           have H := H1
           clear H1
           exact absurd (Option.some.inj H) (by rw [HR_.out]; decide)
          replace c45 := Bool.eq_false_iff.mpr c45
          subst c45
          have H1 : (laws_FnExactDistancesFrom.j4 kj37 a1 t330 t338 a0_0 l0_1) = some r := by rw [if_neg (show ¬ (false = true) by decide)] at H; exact H
          clear H
          have H := H1
          clear H1
          have H' := Aside0.mk H
          clear H
          go_wp2
          go_meet
          case rel => exact ⟨_, H', ⟨by have := HJ3.out; have := HJ13.out; have := HJ30.out; have := HJ37.out; first | omega | exact Nat.le_refl _⟩, ⟨by (try simp only [hl338001_37]); exact Rz HO_6⟩, ⟨by (try simp only [hl338001_37]); exact Rz HO_8⟩, ⟨by (try simp only [hl338001_37]); exact Rz HO_338001⟩, ⟨by (try simp only [hl338001_37]); exact Bz BK324⟩, ⟨by (try simp only [hl338001_37]); exact Bz BK337⟩, ⟨by exact Lz2 HB GE324 GE337⟩⟩
         case rest =>
          clear HC44
          try clear c8
          try clear c8b0
          try clear c28
          try clear c36
          try clear c42
          try clear c42b0
          try clear c45
          obtain ⟨kq, HA, HJ43, HO_6, HO_8, HO_338001, BK324, BK337, HB⟩ := hcut
          cases kq with
          | zero => exact absurd HA.out (by simp [laws_FnExactDistancesFrom.j4])
          | succ kj43 =>
           have H := HA.out
           clear HA
           simp only [laws_FnExactDistancesFrom.j4] at H
           replace H := Option.bind_eq_some_iff.mp H
           obtain ⟨⟨t350, t351⟩, A460, H⟩ := H
           replace H : ((laws_heldIntS.f kj43 t351 1).bind fun t352 => (if t352 < 0 then (some false) else (laws_FnExactDistancesFrom.j5 kj43 a1 t330 t351 t350 t352 a0_0 l0_1))) = some r := H
           have A46 := Aside0.mk A460
           clear A460
           replace H := Option.bind_eq_some_iff.mp H
           obtain ⟨t352, A470, H⟩ := H
           replace H : (if t352 < 0 then (some false) else (laws_FnExactDistancesFrom.j5 kj43 a1 t330 t351 t350 t352 a0_0 l0_1)) = some r := H
           have A47 := Aside0.mk A470
           clear A470
           have HC48 := Aside0.mk H
           clear H
           go_upto_if 54 with (first | ((with_reducible refine gate_callee (f := 25) rfl ?_); refine goesM_ (some 49) rfl rfl Try.func25 (by kernel_rfl) rfl #[.slice Ao26 t338.length co26, .int .i64 1] rfl ?_; (with_reducible refine (laws_markIntS.calls kj43 (fun k_ => some k_ = (.slice Ao26 t338.length co26 : Value).ownBlock) (.slice Ao26 t338.length co26) t338 1 t350 t351 w _ ?side1 ?side2 A46.out).mono ?_); (case side1 => exact Lz2 HB GE324 GE337); (case side2 => exact Kd.R_tight rfl HO_8.out); rintro e w49 ⟨rfl, hy0, hb, hkp⟩; refine ⟨_, rfl, ?_⟩; replace HO_6 := Aside0.mk (Kd.R_mono (ok' := fun k_ => some k_ ≠ (.slice Ao26 t338.length co26 : Value).ownBlock) (Kd.R_keptB (HO_6.out) hkp (fun k_ hk_ hs_ => (hk_) hs_)) (fun k_ hk_ => hk_.1)); replace HO_338001 := Aside0.mk (Kd.R_mono (ok' := fun k_ => True) (Kd.R_keptB ((Kd.R_apart' HO_338001.out (Kd.R_typed HO_8.out) (by decide))) hkp (fun k_ hk_ hs_ => (hk_.2) hs_)) (fun k_ hk_ => trivial)); replace BK324 := Aside0.mk (blk_kept (Bz BK324) hkp (fun hs_ => (fun e_ => (Kd.R_ne HO_8.out BK324.out (by decide)) e_) hs_)); replace BK337 := Aside0.mk (blk_kept (Bz BK337) hkp (fun hs_ => (fun e_ => (Kd.R_ne HO_8.out BK337.out (by decide)) e_) hs_)); replace HO_8 := Aside0.mk (Kd.R_reok rfl hy0 (fun k_ e_ => HO_8.out.1 k_ e_)); replace HB := Aside0.mk (hb); (try clear hb); (try clear hkp); (try clear hy0)) | ((with_reducible refine gate_callee (f := 26) rfl ?_); refine goesL_ (some 52) rfl rfl Try.func26 (by kernel_rfl) rfl #[.slice Ao26 t351.length co26, .int .i64 1] rfl (by (try simp only [List.map_toArray, List.map_cons, List.map_nil]); first | done | (rw [show t351.length = t338.length from (Kd.R_reads' HO_8.out).1.symm] <;> rfl) | rfl | (simp only [List.length_drop, List.length_take]; rfl)) ?_; (with_reducible refine (laws_heldIntS.calls kj43 _ _ t351 1 t352 _ ?side1 ?side2 A47.out).mono ?_); (case side1 => exact Cz ((Kd.R_reads' HO_8.out).2.2)); (case side2 => rw [show t351.length = t338.length from (Kd.R_reads' HO_8.out).1.symm]; exact (Kd.R_reads' HO_8.out).2.1); rintro e w' ⟨rfl, ⟨nd, rfl⟩⟩; refine ⟨_, rfl, ?_⟩))
           (try simp only [Act.put, List.setIfInBounds_toArray, List.set_cons_zero, List.set_cons_succ])
           go_cut [] (fun wc => ∃ (kq : Nat), Aside0 (laws_FnExactDistancesFrom.j5 kq a1 t330 t351 t350 t352 a0_0 l0_1 = some r) ∧ Aside0 (kq ≤ kj43) ∧ Aside0 (Kd.R (Kd.int .i64) 3 wc w.heap.size (fun k_ => some k_ ≠ ((.slice Ao26 t338.length co26) : Value).ownBlock) (.slice Ao27 t330.length co27) t330) ∧ Aside0 (Kd.R (Kd.int .i64) 3 wc w.heap.size (fun k_ => some k_ ≠ ((.slice Ao27 t330.length co27) : Value).ownBlock) (.slice Ao26 t338.length co26) t351) ∧ Aside0 (Kd.R k75 75 wc w.heap.size (fun _ => True) (.slice Ao24 t348.length co24) t348) ∧ Aside0 (wc.heap[gb324]? = some (.cells #[.int .i64 a0_0, (.slice A0_1 l0_1.length c0_1)] 37 (0, 0))) ∧ Aside0 (wc.heap[gb337]? = some (.cells #[.int .i64 t333, (.slice Ao24 t348.length co24)] 42 (0, 0))) ∧ Aside0 (Below w.heap.size w wc))
           case first =>
            have H := HC48.out
            clear HC48
            by_cases c50 : t352 < 0
            ·rw [if_pos c50] at H
             have c50b0 : decide (t352 < 0) = true := decide_eq_true c50
             clear c50
             (first | rw [c50b0] | (simp only [i64_w, i32_w]; rw [c50b0]) | skip)
             obtain rfl := Option.some.inj H
             go_wp2
             go_ret
             exact ⟨by first | rfl | (simp [errW_none, errW_some] <;> rfl) | (simp [*, errW_none, errW_some] <;> rfl), by exact Lz2 HB GE324 GE337⟩
            rw [if_neg c50] at H
            have c50b0 : decide (t352 < 0) = false := decide_eq_false c50
            clear c50
            (first | rw [c50b0] | (simp only [i64_w, i32_w]; rw [c50b0]) | skip)
            have H' := Aside0.mk H
            clear H
            go_wp2
            go_meet
            case rel => exact ⟨_, H', ⟨by have := HJ3.out; have := HJ13.out; have := HJ30.out; have := HJ37.out; have := HJ43.out; first | omega | exact Nat.le_refl _⟩, ⟨by (try simp only [hl338001_37]); exact Rz HO_6⟩, ⟨by (try simp only [hl338001_37]); exact Rz HO_8⟩, ⟨by (try simp only [hl338001_37]); exact Rz HO_338001⟩, ⟨by (try simp only [hl338001_37]); exact Bz BK324⟩, ⟨by (try simp only [hl338001_37]); exact Bz BK337⟩, ⟨by exact Lz2 HB GE324 GE337⟩⟩
           case rest =>
            clear HC48
            try clear c8
            try clear c8b0
            try clear c28
            try clear c36
            try clear c42
            try clear c42b0
            try clear c45
            try clear c50
            try clear c50b0
            obtain ⟨kq, HA, HJ47, HO_6, HO_8, HO_338001, BK324, BK337, HB⟩ := hcut
            have hl8_47 := (Kd.R_reads' HO_8.out).1
            rw [hl8_47] at HO_8
            (try simp only [hl8_47])
            (try simp only [hl8_47] at BK324)
            (try simp only [hl8_47] at BK337)
            (try simp only [hl8_47] at HO_6)
            (try simp only [hl8_47] at HO_338001)
            cases kq with
            | zero => exact absurd HA.out (by simp [laws_FnExactDistancesFrom.j5])
            | succ kj47 =>
             have H := HA.out
             clear HA
             simp only [laws_FnExactDistancesFrom.j5] at H
             have HC51 := Aside0.mk H
             clear H
             go_upto_if 57 with (fail)
             go_cut [] (fun wc => ∃ (kq : Nat), Aside0 (laws_FnExactDistancesFrom.j6 kq a1 t330 t351 t350 a0_0 l0_1 = some r) ∧ Aside0 (kq ≤ kj47) ∧ Aside0 (Kd.R (Kd.int .i64) 3 wc w.heap.size (fun k_ => some k_ ≠ ((.slice Ao26 t351.length co26) : Value).ownBlock) (.slice Ao27 t330.length co27) t330) ∧ Aside0 (Kd.R (Kd.int .i64) 3 wc w.heap.size (fun k_ => some k_ ≠ ((.slice Ao27 t330.length co27) : Value).ownBlock) (.slice Ao26 t351.length co26) t351) ∧ Aside0 (Kd.R k75 75 wc w.heap.size (fun _ => True) (.slice Ao24 t348.length co24) t348) ∧ Aside0 (wc.heap[gb324]? = some (.cells #[.int .i64 a0_0, (.slice A0_1 l0_1.length c0_1)] 37 (0, 0))) ∧ Aside0 (wc.heap[gb337]? = some (.cells #[.int .i64 t333, (.slice Ao24 t348.length co24)] 42 (0, 0))) ∧ Aside0 (Below w.heap.size w wc))
             case first =>
              have H := HC51.out
              clear HC51
              by_cases c52 : t352 = t350
              ·rw [if_pos c52] at H
               have c52b0 : (t352 == t350) = true := beq_iff_eq.mpr c52
               have c52b1 : (t352 != t350) = false := bne_eq_false_iff_eq.mpr c52
               clear c52
               (first | rw [c52b0] | (simp only [i64_w, i32_w]; rw [c52b0]) | skip)
               have H' := Aside0.mk H
               clear H
               go_wp2
               go_meet
               case rel => exact ⟨_, H', ⟨by have := HJ3.out; have := HJ13.out; have := HJ30.out; have := HJ37.out; have := HJ43.out; have := HJ47.out; first | omega | exact Nat.le_refl _⟩, ⟨by (try simp only [hl338001_37]); (try simp only [hl8_47]); exact Rz HO_6⟩, ⟨by (try simp only [hl338001_37]); (try simp only [hl8_47]); exact Rz HO_8⟩, ⟨by (try simp only [hl338001_37]); (try simp only [hl8_47]); exact Rz HO_338001⟩, ⟨by (try simp only [hl338001_37]); (try simp only [hl8_47]); exact Bz BK324⟩, ⟨by (try simp only [hl338001_37]); (try simp only [hl8_47]); exact Bz BK337⟩, ⟨by exact Lz2 HB GE324 GE337⟩⟩
              rw [if_neg c52] at H
              have c52b0 : (t352 == t350) = false := beq_eq_false_iff_ne.mpr c52
              have c52b1 : (t352 != t350) = true := bne_iff_ne.mpr c52
              (first | rw [c52b0] | (simp only [i64_w, i32_w]; rw [c52b0]) | skip)
              obtain rfl := Option.some.inj H
              go_wp2
              go_ret
              exact ⟨by first | rfl | (simp [errW_none, errW_some] <;> rfl) | (simp [*, errW_none, errW_some] <;> rfl), by exact Lz2 HB GE324 GE337⟩
             case rest =>
              clear HC51
              try clear c8
              try clear c8b0
              try clear c28
              try clear c36
              try clear c42
              try clear c42b0
              try clear c45
              try clear c50
              try clear c50b0
              try clear c52
              try clear c52b0
              try clear c52b1
              obtain ⟨kq, HA, HJ50, HO_6, HO_8, HO_338001, BK324, BK337, HB⟩ := hcut
              cases kq with
              | zero => exact absurd HA.out (by simp [laws_FnExactDistancesFrom.j6])
              | succ kj50 =>
               have H := HA.out
               clear HA
               simp only [laws_FnExactDistancesFrom.j6] at H
               replace H := Option.bind_eq_some_iff.mp H
               obtain ⟨⟨t353, t354⟩, A530, H⟩ := H
               replace H : ((impl_DistancesFrom.f kj50 t353 t354 a1).bind fun t357 => ((laws_eqIntS.f kj50 t357 t330).bind fun t360 => (if t360 = true then (laws_FnExactDistancesFrom.j7 kj50 t351 t350) else (some false)))) = some r := H
               have A53 := Aside0.mk A530
               clear A530
               replace H := Option.bind_eq_some_iff.mp H
               obtain ⟨t357, A540, H⟩ := H
               replace H : ((laws_eqIntS.f kj50 t357 t330).bind fun t360 => (if t360 = true then (laws_FnExactDistancesFrom.j7 kj50 t351 t350) else (some false))) = some r := H
               have A54 := Aside0.mk A540
               clear A540
               replace H := Option.bind_eq_some_iff.mp H
               obtain ⟨t360, A550, H⟩ := H
               replace H : (if t360 = true then (laws_FnExactDistancesFrom.j7 kj50 t351 t350) else (some false)) = some r := H
               have A55 := Aside0.mk A550
               clear A550
               have HC56 := Aside0.mk H
               clear H
               have hnb57 := NB324_337.out
               have hnc57 := NB337_324.out
               have hcz58_0 : wc.cell? ⟨gb324, 0, none⟩ = some (.int .i64 a0_0) := (blk_cell BK324.out 0).trans rfl
               have hcz58_1 : wc.cell? ⟨gb324, 1, none⟩ = some (.slice A0_1 l0_1.length c0_1) := (blk_cell BK324.out 1).trans rfl
               have hfz58_0 := blk_frozen BK324.out 0
               have hfz58_1 := blk_frozen BK324.out 1
               go_upto_if 65 with (first | ((with_reducible refine gate_callee (f := 33) rfl ?_); refine goesM_ (some 59) rfl rfl Try.func33 (by kernel_rfl) rfl #[.agg #[.int .i64 a0_0, .slice A0_1 l0_1.length c0_1]] rfl ?_; (with_reducible refine (laws_toGraph.calls kj50 a0_0 _ _ l0_1 t353 t354 _ ?side1 ?side2 A53.out).mono ?_); (case side1 => exact Cz ((Kd.C_below HR0_1.out HB.out))); (case side2 => exact HC0_1.out); rintro e w59 ⟨v355, rfl, ho0, hb⟩; refine ⟨_, rfl, ?_⟩; replace HO_6 := Aside0.mk (Kd.R_below (Rz HO_6) hb); replace HO_8 := Aside0.mk (Kd.R_below (Rz HO_8) hb); have HO356 := Aside0.mk (Kd.R_lower (Kd.R_new' ho0 (Kd.R_lt (Rz HO_338001))) (below_size (by exact Lz2 HB GE324 GE337))); replace HO_338001 := Aside0.mk (Kd.R_elder' (Rz HO_338001) (Kd.R_base ho0) hb); replace BK324 := Aside0.mk (blk_below (g := gb324) (o := .cells #[.int .i64 a0_0, .slice A0_1 l0_1.length c0_1] 37 (0, 0)) (Bz BK324) hb); replace BK337 := Aside0.mk (blk_below (g := gb337) (o := .cells #[.int .i64 t333, .slice Ao24 t348.length co24] 42 (0, 0)) (Bz BK337) hb); replace HB := Aside0.mk (below_step (by exact Lz2 HB GE324 GE337) hb); (try clear hb); (try clear ho0); obtain ⟨Ao60, co60, eo60⟩ := Kd.R_slice HO356.out; subst eo60) | ((with_reducible refine gate_callee (f := 48) rfl ?_); refine goesM_ (some 61) rfl rfl Try.func48 (by kernel_rfl) rfl #[.agg #[.int .i64 t353, .slice Ao60 t354.length co60], .int .i64 a1] rfl ?_; (with_reducible refine (impl_DistancesFrom.calls kj50 t353 _ _ t354 a1 t357 _ ?side1 ?side2 A54.out).mono ?_); (case side1 => exact Cz ((Kd.R_reads' HO356.out).2.2)); (case side2 => exact (Kd.R_reads' HO356.out).2.1); rintro e w61 ⟨v358, rfl, ho0, hb⟩; refine ⟨_, rfl, ?_⟩; replace HO_338001 := Aside0.mk (Kd.R_below (Rz HO_338001) hb); replace HO356 := Aside0.mk (Kd.R_below (Rz HO356) hb); have HO359 := Aside0.mk (Kd.R_lower (Kd.R_new' (Kd.R_new' ho0 (Kd.R_lt (Rz HO_6))) (Kd.R_lt (Rz HO_8))) (below_size (by exact Lz2 HB GE324 GE337))); replace HO_6 := Aside0.mk (Kd.R_elder' (Rz HO_6) (Kd.R_base ho0) hb); replace HO_8 := Aside0.mk (Kd.R_elder' (Rz HO_8) (Kd.R_base ho0) hb); replace BK324 := Aside0.mk (blk_below (g := gb324) (o := .cells #[.int .i64 a0_0, .slice A0_1 l0_1.length c0_1] 37 (0, 0)) (Bz BK324) hb); replace BK337 := Aside0.mk (blk_below (g := gb337) (o := .cells #[.int .i64 t333, .slice Ao24 t348.length co24] 42 (0, 0)) (Bz BK337) hb); replace HB := Aside0.mk (below_step (by exact Lz2 HB GE324 GE337) hb); (try clear hb); (try clear ho0); obtain ⟨Ao62, co62, eo62⟩ := Kd.R_slice HO359.out; subst eo62) | ((with_reducible refine gate_callee (f := 23) rfl ?_); refine goesM_ (some 64) rfl rfl Try.func23 (by kernel_rfl) rfl #[.slice Ao62 t357.length co62, .slice Ao27 t330.length co27] rfl ?_; (with_reducible refine (laws_eqIntS.calls kj50 _ _ t357 _ _ t330 t360 _ ?side1 ?side2 ?side3 ?side4 A55.out).mono ?_); (case side1 => exact Cz ((Kd.R_reads' HO359.out).2.2)); (case side2 => exact (Kd.R_reads' HO359.out).2.1); (case side3 => exact Cz ((Kd.R_reads' HO_6.out).2.2)); (case side4 => exact (Kd.R_reads' HO_6.out).2.1); rintro e w' ⟨rfl, ⟨nd, rfl⟩⟩; refine ⟨_, rfl, ?_⟩))
               (try simp only [Act.put, List.setIfInBounds_toArray, List.set_cons_zero, List.set_cons_succ])
               go_cut [] (fun wc => ∃ (kq : Nat), Aside0 (laws_FnExactDistancesFrom.j7 kq t351 t350 = some r) ∧ Aside0 (kq ≤ kj50) ∧ Aside0 (Kd.R (Kd.int .i64) 3 wc w.heap.size (fun _ => True) (.slice Ao26 t351.length co26) t351) ∧ Aside0 (Kd.R k75 75 wc w.heap.size (fun _ => True) (.slice Ao24 t348.length co24) t348) ∧ Aside0 (wc.heap[gb324]? = some (.cells #[.int .i64 a0_0, (.slice A0_1 l0_1.length c0_1)] 37 (0, 0))) ∧ Aside0 (wc.heap[gb337]? = some (.cells #[.int .i64 t333, (.slice Ao24 t348.length co24)] 42 (0, 0))) ∧ Aside0 (Below w.heap.size w wc))
               case first =>
                have H := HC56.out
                clear HC56
                by_cases c63 : t360 = true
                ·subst c63
                 have H1 : (laws_FnExactDistancesFrom.j7 kj50 t351 t350) = some r := by rw [if_pos rfl] at H; exact H
                 clear H
                 have H := H1
                 clear H1
                 have H' := Aside0.mk H
                 clear H
                 go_wp2
                 go_meet
                 case rel => exact ⟨_, H', ⟨by have := HJ3.out; have := HJ13.out; have := HJ30.out; have := HJ37.out; have := HJ43.out; have := HJ47.out; have := HJ50.out; first | omega | exact Nat.le_refl _⟩, ⟨by (try simp only [hl338001_37]); (try simp only [hl8_47]); (with_reducible repeat (first | apply Kd.R_alloc | apply Kd.R_drewN | apply Kd.R_drew)); exact Kd.R_mono HO_8.out (fun _ hk => trivial)⟩, ⟨by (try simp only [hl338001_37]); (try simp only [hl8_47]); (with_reducible repeat (first | apply Kd.R_alloc | apply Kd.R_drewN | apply Kd.R_drew)); exact Kd.R_mono HO_338001.out (fun _ hk => trivial)⟩, ⟨by (try simp only [hl338001_37]); (try simp only [hl8_47]); exact Bz BK324⟩, ⟨by (try simp only [hl338001_37]); (try simp only [hl8_47]); exact Bz BK337⟩, ⟨by exact Lz2 HB GE324 GE337⟩⟩
                replace c63 := Bool.eq_false_iff.mpr c63
                subst c63
                have H1 : (some false) = some r := by rw [if_neg (show ¬ (false = true) by decide)] at H; exact H
                clear H
                have H := H1
                clear H1
                exact absurd (Option.some.inj H) (by rw [HR_.out]; decide)
               case rest =>
                clear HC56
                try clear c8
                try clear c8b0
                try clear c28
                try clear c36
                try clear c42
                try clear c42b0
                try clear c45
                try clear c50
                try clear c50b0
                try clear c52
                try clear c52b0
                try clear c52b1
                try clear c63
                obtain ⟨kq, HA, HJ55, HO_8, HO_338001, BK324, BK337, HB⟩ := hcut
                cases kq with
                | zero => exact absurd HA.out (by simp [laws_FnExactDistancesFrom.j7])
                | succ kj55 =>
                 have H := HA.out
                 clear HA
                 simp only [laws_FnExactDistancesFrom.j7] at H
                 replace H := Option.bind_eq_some_iff.mp H
                 obtain ⟨t361, A640, H⟩ := H
                 replace H : (if t361 < 0 then (some false) else (laws_FnExactDistancesFrom.j8 kj55 t350 t361)) = some r := H
                 have A64 := Aside0.mk A640
                 clear A640
                 have HC65 := Aside0.mk H
                 clear H
                 go_upto_if 70 with (first | ((with_reducible refine gate_callee (f := 26) rfl ?_); refine goesM_ (some 68) rfl rfl Try.func26 (by kernel_rfl) rfl #[.slice Ao26 t351.length co26, .int .i64 1] rfl ?_; (with_reducible refine (laws_heldIntS.calls kj55 _ _ t351 1 t361 _ ?side1 ?side2 A64.out).mono ?_); (case side1 => exact Cz ((Kd.R_reads' HO_8.out).2.2)); (case side2 => exact (Kd.R_reads' HO_8.out).2.1); rintro e w' ⟨rfl, ⟨nd, rfl⟩⟩; refine ⟨_, rfl, ?_⟩))
                 (try simp only [Act.put, List.setIfInBounds_toArray, List.set_cons_zero, List.set_cons_succ])
                 go_cut [] (fun wc => ∃ (kq : Nat), Aside0 (laws_FnExactDistancesFrom.j8 kq t350 t361 = some r) ∧ Aside0 (kq ≤ kj55) ∧ Aside0 (Kd.R k75 75 wc w.heap.size (fun _ => True) (.slice Ao24 t348.length co24) t348) ∧ Aside0 (wc.heap[gb324]? = some (.cells #[.int .i64 a0_0, (.slice A0_1 l0_1.length c0_1)] 37 (0, 0))) ∧ Aside0 (wc.heap[gb337]? = some (.cells #[.int .i64 t333, (.slice Ao24 t348.length co24)] 42 (0, 0))) ∧ Aside0 (Below w.heap.size w wc))
                 case first =>
                  have H := HC65.out
                  clear HC65
                  by_cases c66 : t361 < 0
                  ·rw [if_pos c66] at H
                   have c66b0 : decide (t361 < 0) = true := decide_eq_true c66
                   clear c66
                   (first | rw [c66b0] | (simp only [i64_w, i32_w]; rw [c66b0]) | skip)
                   obtain rfl := Option.some.inj H
                   go_wp2
                   go_ret
                   exact ⟨by first | rfl | (simp [errW_none, errW_some] <;> rfl) | (simp [*, errW_none, errW_some] <;> rfl), by exact Lz2 HB GE324 GE337⟩
                  rw [if_neg c66] at H
                  have c66b0 : decide (t361 < 0) = false := decide_eq_false c66
                  clear c66
                  (first | rw [c66b0] | (simp only [i64_w, i32_w]; rw [c66b0]) | skip)
                  have H' := Aside0.mk H
                  clear H
                  go_wp2
                  go_meet
                  case rel => exact ⟨_, H', ⟨by have := HJ3.out; have := HJ13.out; have := HJ30.out; have := HJ37.out; have := HJ43.out; have := HJ47.out; have := HJ50.out; have := HJ55.out; first | omega | exact Nat.le_refl _⟩, ⟨by (try simp only [hl338001_37]); (try simp only [hl8_47]); exact Rz HO_338001⟩, ⟨by (try simp only [hl338001_37]); (try simp only [hl8_47]); exact Bz BK324⟩, ⟨by (try simp only [hl338001_37]); (try simp only [hl8_47]); exact Bz BK337⟩, ⟨by exact Lz2 HB GE324 GE337⟩⟩
                 case rest =>
                  clear HC65
                  try clear c8
                  try clear c8b0
                  try clear c28
                  try clear c36
                  try clear c42
                  try clear c42b0
                  try clear c45
                  try clear c50
                  try clear c50b0
                  try clear c52
                  try clear c52b0
                  try clear c52b1
                  try clear c63
                  try clear c66
                  try clear c66b0
                  obtain ⟨kq, HA, HJ64, HO_338001, BK324, BK337, HB⟩ := hcut
                  cases kq with
                  | zero => exact absurd HA.out (by simp [laws_FnExactDistancesFrom.j8])
                  | succ kj64 =>
                   have H := HA.out
                   clear HA
                   simp only [laws_FnExactDistancesFrom.j8] at H
                   by_cases c67 : t361 = t350
                   ·rw [if_pos c67] at H
                    have c67b0 : (t361 == t350) = true := beq_iff_eq.mpr c67
                    have c67b1 : (t361 != t350) = false := bne_eq_false_iff_eq.mpr c67
                    clear c67
                    obtain rfl := Option.some.inj H
                    go_wp2
                    go_ret
                    exact ⟨by first | rfl | (simp [errW_none, errW_some] <;> rfl) | (simp [*, errW_none, errW_some] <;> rfl), by exact Lz2 HB GE324 GE337⟩
                   rw [if_neg c67] at H
                   have c67b0 : (t361 == t350) = false := beq_eq_false_iff_ne.mpr c67
                   have c67b1 : (t361 != t350) = true := bne_iff_ne.mpr c67
                   obtain rfl := Option.some.inj H
                   go_wp2
                   go_ret
                   exact ⟨by first | rfl | (simp [errW_none, errW_some] <;> rfl) | (simp [*, errW_none, errW_some] <;> rfl), by exact Lz2 HB GE324 GE337⟩
end Go.Proofs.Ytchkndeeaoohpaa.P
end
section
namespace Go.Proofs.Ytchkndeeaoohpaa.Pure
open Go.RowKit Go.Proofs.Ytchkndeeaoohpaa.P Go.Proofs.YtchkndeeaoohpaaW.PrintWords Go.Proofs.YtchkndeeaoohpaaW.PrintLast Go.Proofs.YtchkndeeaoohpaaW.PrintMore
def StatFnExactDistancesFrom : Prop := ∀ (a0_0 : Int) (l0_1 : List (S88)) (a1 : Int), ((Lit.int .i64 a0_0).wf = true ∧ (l0_1.length ≤ maxLen ∧ ∀ x4 ∈ l0_1, (Lit.int .i64 x4.f0).wf = true ∧ (Lit.int .i64 x4.f1).wf = true)) → (Lit.int .i64 a1).wf = true → ∃ k, laws_FnExactDistancesFrom.f k a0_0 l0_1 a1 = some true
end Go.Proofs.Ytchkndeeaoohpaa.Pure
end
section
set_option linter.unusedVariables false
set_option linter.unusedSimpArgs false
namespace Go.Proofs.Ytchkndeeaoohpaa.Pure
open Go.RowKit Go.Proofs.Ytchkndeeaoohpaa.P Go.Proofs.YtchkndeeaoohpaaW.PrintWords Go.Proofs.YtchkndeeaoohpaaW.PrintLast Go.Proofs.YtchkndeeaoohpaaW.PrintMore Go.Proofs.Ytchkndeeaoohpaa.Base Go.Proofs.Ytchkndeeaoohpaa.Loops
def cvE (e : S88) : S75 := ⟨e.f0, e.f1⟩
theorem rd_IE {l : List S75} {i : Nat} {a : S75} {r : List S75} (h : l.drop i = a :: r) : rd_T75 l (i : Int) = a := by
  unfold rd_T75
  rw [Int.toNat_natCast]
  exact get_drop h _
theorem rd_LE {l : List S88} {i : Nat} {a : S88} {r : List S88} (h : l.drop i = a :: r) : rd_T88 l (i : Int) = a := by
  unfold rd_T88
  rw [Int.toNat_natCast]
  exact get_drop h _
theorem szGraph_eq (a : Int) (l : List S88) (hl : l.length ≤ maxLen) (n : Int) (h0 : 0 ≤ n) (h1 : n ≤ 1048576) : laws_szGraph.f a l n = some (if (l.length : Int) ≤ n then n - l.length else -1) := by
  unfold maxLen at hl
  unfold laws_szGraph.f laws_szEdgeS.f
  have e : wrap64 (n - (l.length : Int)) = n - l.length := by unfold wrap64; omega
  rw [e]
  by_cases h : (l.length : Int) ≤ n
  · rw [if_neg (by omega), if_pos h]
    simp only [Option.bind_some]
    rw [if_neg (by omega)]
  · rw [if_pos (by omega), if_neg h]
    rfl
theorem toEdgeS_l0 (l : List S88) (hl : l.length < 4611686018427387904) : ∀ (d k i : Nat) (x : List S75), i + d = l.length → x.length = l.length → x.take i = (l.map cvE).take i → d < k → laws_toEdgeS.l0 k l x (i : Int) = some (l.map cvE) := by
  intro d
  induction d with
  | zero =>
    intro k i x hi hx ht hk
    obtain ⟨k, rfl⟩ := succ_of_lt hk
    simp only [laws_toEdgeS.l0]
    rw [if_neg (by omega), fill_end (x := x) (y := l.map cvE) (by simpa using hx) (by rw [List.length_map, show l.length = i by omega]; exact ht)]
  | succ d ih =>
    intro k i x hi hx ht hk
    obtain ⟨k, rfl⟩ := succ_of_lt hk
    have hlt : i < l.length := by omega
    have hd := List.drop_eq_getElem_cons hlt
    simp only [laws_toEdgeS.l0, laws_toEdge.f, Option.bind_some]
    rw [if_pos (by omega), if_pos (by omega), if_pos (by omega), wrap_succ (by omega), rd_LE hd, Int.toNat_natCast]
    refine ih k (i + 1) _ (by omega) (by simpa using hx) ?_ (by omega)
    refine fill_step (rest := (l.map cvE).drop (i + 1)) (by simpa using hx) ht ?_
    rw [List.drop_eq_getElem_cons (by simpa using hlt)]
    simp [cvE]
theorem toGraph_ev (a : Int) (l : List S88) (hl : l.length ≤ 1048576) : Ev (fun k => laws_toGraph.f k a l) (a, l.map cvE) := by
  refine ev_k l.length fun k hk => ?_
  unfold laws_toGraph.f laws_toEdgeS.f
  rw [if_pos (by omega), if_pos (by omega), show (0 : Int) = ((0 : Nat) : Int) from rfl, toEdgeS_l0 l (by omega) l.length k 0 _ (by omega) (by simp) (by simp) hk]
  rfl
theorem eqEdgeS_ev (l : List S75) (hl : l.length < 4611686018427387904) : Ev (fun k => laws_eqEdgeS.f k l l) true := by
  simp only [laws_eqEdgeS.f, if_true]
  refine ev_list0 l (fun k (_ : Unit) i => laws_eqEdgeS.l0 k l l i) (fun _ _ => true) (fun _ _ => True) (fun s _ => ev1 fun k => ?_) (fun s a rest i hlt hd _ => Or.inr ⟨(), trivial, rfl, 0, fun k _ => ?_⟩) () trivial
  · simp only [laws_eqEdgeS.l0]
    rw [if_neg (by omega)]
  · simp only [laws_eqEdgeS.l0, laws_eqEdge.f, if_true, Option.bind_some]
    rw [if_pos (by omega), if_pos (by omega), if_pos (by omega), wrap_succ (by omega)]
theorem eqGraph_ev (a : Int) (l : List S75) (hl : l.length < 4611686018427387904) : Ev (fun k => laws_eqGraph.f k a l a l) true := by
  simp only [laws_eqGraph.f, if_true]
  refine Ev.bind (eqEdgeS_ev l hl) ?_
  simp only [if_true]
  exact Ev.now _
theorem map_cv_length (l : List S88) : (l.map cvE).length = l.length := List.length_map ..
def multN (es : List S75) (a b : Int) : Nat := es.countP fun e => decide (e.f0 = mn a b) && decide (e.f1 = mx a b)
def multI (n : Int) (es : List S75) (a b : Int) : Int := if 0 ≤ a ∧ a < n ∧ 0 ≤ b ∧ b < n ∧ a ≠ b then (multN es a b : Int) else 0
theorem mult_loop (es : List S75) (hl : es.length < 4611686018427387904) (a b : Int) (g : Nat → Int → Int → Option Int)
    (hg : ∀ k c i, g (k + 1) c i = if i < (es.length : Int) then (if 0 ≤ i then (if i < (es.length : Int) then (if ((rd_T75 es i).f0) = (mn a b) then (if ((rd_T75 es i).f1) = (mx a b) then (g k (wrap64 (c + 1)) (wrap64 (i + 1))) else (g k c (wrap64 (i + 1)))) else (g k c (wrap64 (i + 1)))) else (none)) else (none)) else (some c)) :
    Ev (fun k => g k 0 0) (multN es a b : Int) := by
  have h := ev_list es (fun k (c : Int) i => g k c i) (fun c r => c + (r.countP fun e => decide (e.f0 = mn a b) && decide (e.f1 = mx a b) : Nat)) (fun c r => 0 ≤ c ∧ c + r.length ≤ es.length) (fun s _ => ev1 fun k => ?_) (fun s e rest i hlt hd hinv => Or.inr ?_) es 0 0 (by omega) rfl (by simp)
  · simpa [multN] using h
  · rw [hg, if_neg (by omega)]; simp
  · simp only [List.length_cons] at hinv
    by_cases hc : e.f0 = mn a b ∧ e.f1 = mx a b
    · refine ⟨s + 1, by omega, ?_, 0, fun k _ => ?_⟩
      · rw [List.countP_cons_of_pos (by simp [hc])]; omega
      · rw [hg, if_pos (by omega), if_pos (by omega), if_pos (by omega), rd_IE hd, if_pos hc.1, if_pos hc.2, wrap_succ (by omega), wrap_id (by omega) (by omega)]
    · refine ⟨s, by omega, ?_, 0, fun k _ => ?_⟩
      · rw [List.countP_cons_of_neg (by simp; intro h1 h2; exact hc ⟨h1, h2⟩)]
      · rw [hg, if_pos (by omega), if_pos (by omega), if_pos (by omega), rd_IE hd, wrap_succ (by omega)]
        by_cases h1 : e.f0 = mn a b
        · rw [if_pos h1, if_neg (fun h2 => hc ⟨h1, h2⟩)]
        · rw [if_neg h1]
theorem spec_mult_ev (n : Int) (es : List S75) (hl : es.length < 4611686018427387904) (a b : Int) : Ev (fun k => spec_Multiplicity.f k n es a b) (multI n es a b) := by
  have hv : ∀ v, spec_l02Vert.f n es v = some (decide (0 ≤ v ∧ v < n)) := by
    intro v
    unfold spec_l02Vert.f
    by_cases h : v ≥ 0
    · rw [if_pos h]; simp; omega
    · rw [if_neg h]; simp; omega
  simp only [spec_Multiplicity.f, hv, Option.bind_some]
  have off : ∀ q : Bool, q = true → Ev (fun k => spec_Multiplicity.j0 k a b 0 q n es) 0 := fun q hq => ev1 fun k => by
    simp only [spec_Multiplicity.j0, hq, if_true]
  by_cases ha : 0 ≤ a ∧ a < n
  · by_cases hb : 0 ≤ b ∧ b < n
    · simp only [ha, hb, and_self, decide_true, if_true]
      by_cases hab : a = b
      · rw [multI, if_neg (by omega)]
        exact off _ (by simp [hab])
      · rw [multI, if_pos ⟨ha.1, ha.2, hb.1, hb.2, hab⟩]
        obtain ⟨K, hK⟩ := mult_loop es hl a b (fun k c i => spec_Multiplicity.l0 k a b c es (es.length : Int) i) (fun k c i => by simp only [spec_Multiplicity.l0])
        refine ⟨K + 1, fun k hk => ?_⟩
        obtain ⟨m, rfl⟩ : ∃ m, k = m + 1 := ⟨k - 1, by omega⟩
        have h2 := hK m (by omega)
        dsimp only at h2 ⊢
        simp only [spec_Multiplicity.j0]
        rw [if_neg (by simp [hab]), h2]
    · simp only [ha, and_self, decide_true, if_true, decide_eq_true_eq, if_neg hb]
      rw [multI, if_neg (by omega)]
      exact off _ rfl
  · simp only [decide_eq_true_eq, if_neg ha]
    rw [multI, if_neg (by omega)]
    exact off _ rfl
def edgesB (n : Int) (es : List S75) : Bool := decide (1 ≤ n) && decide (n ≤ 6) && decide (es.length ≤ 12) && es.all fun e => decide (0 ≤ e.f0) && decide (e.f0 < e.f1) && decide (e.f1 < n)
theorem impl_edgesOk_ev (n : Int) (es : List S75) (hl : es.length < 4611686018427387904) : Ev (fun k => impl_EdgesOk.f k n es) (edgesB n es) := by
  have hw : impl_within.f n 1 6 = some (decide (1 ≤ n) && decide (n ≤ 6)) := by
    unfold impl_within.f
    by_cases h : n ≥ 1
    · rw [if_pos h]; simp [h]
    · rw [if_neg h]; simp [h]
  simp only [impl_EdgesOk.f, hw, Option.bind_some]
  by_cases hn : 1 ≤ n ∧ n ≤ 6
  · by_cases h12 : es.length ≤ 12
    · have loop : Ev (fun k => impl_EdgesOk.l0 k es (es.length : Int) 0 n es) (es.all fun e => decide (0 ≤ e.f0) && decide (e.f0 < e.f1) && decide (e.f1 < n)) := by
        refine ev_listE es (fun k (_ : Unit) i => impl_EdgesOk.l0 k es (es.length : Int) i n es) (fun _ r => r.all fun e => decide (0 ≤ e.f0) && decide (e.f0 < e.f1) && decide (e.f1 < n)) (fun _ _ => True)
          (fun s _ => ev1 fun k => ?_) (fun s a rest i hlt hd _ => ?_) () trivial
        · simp only [impl_EdgesOk.l0]
          rw [if_neg (by omega)]; rfl
        · have bad : a.f0 < 0 ∨ a.f0 ≥ a.f1 ∨ a.f1 ≥ n → ((a :: rest).all fun e => decide (0 ≤ e.f0) && decide (e.f0 < e.f1) && decide (e.f1 < n)) = false := by
            intro h; simp only [List.all_cons, Bool.and_eq_false_iff, decide_eq_false_iff_not]; omega
          have stop : Ev (fun k => impl_EdgesOk.j2 k es (es.length : Int) (i : Int) true n es) false := ev1 fun k => by simp only [impl_EdgesOk.j2, if_true]
          by_cases h1 : a.f0 < 0
          · refine Or.inl (ev_succ ?_)
            simp only [impl_EdgesOk.l0, rd_IE hd]
            rw [bad (by omega)]
            exact ev_ift (by omega) (ev_ift (by omega) (ev_ift (by omega) (ev_ift h1 stop)))
          by_cases h2 : a.f0 ≥ a.f1
          · refine Or.inl (ev_succ ?_)
            simp only [impl_EdgesOk.l0, rd_IE hd]
            rw [bad (by omega)]
            exact ev_ift (by omega) (ev_ift (by omega) (ev_ift (by omega) (ev_ifn h1 (ev_ift h2 stop))))
          by_cases h3 : a.f1 ≥ n
          · refine Or.inl (ev_succ ?_)
            simp only [impl_EdgesOk.l0, rd_IE hd]
            rw [bad (by omega), decide_eq_true h3]
            exact ev_ift (by omega) (ev_ift (by omega) (ev_ift (by omega) (ev_ifn h1 (ev_ifn h2 stop))))
          refine Or.inr ⟨(), trivial, ?_, fun r hr => ev_succ ?_⟩
          · simp; omega
          · simp only [impl_EdgesOk.l0, rd_IE hd, decide_eq_false h3]
            refine ev_ift (by omega) (ev_ift (by omega) (ev_ift (by omega) (ev_ifn h1 (ev_ifn h2 (ev_succ ?_)))))
            simp only [impl_EdgesOk.j2, Bool.false_eq_true, if_false, wrap_succ (show i < 4611686018427387904 by omega)]
            exact hr
      obtain ⟨K, hK⟩ := loop
      dsimp only at hK
      refine ⟨K + 1, fun k hk => ?_⟩
      obtain ⟨m, rfl⟩ : ∃ m, k = m + 1 := ⟨k - 1, by omega⟩
      have := hK m (by omega)
      simp only [hn.1, hn.2, decide_true, Bool.and_self, if_true, impl_EdgesOk.j0]
      rw [if_neg (by simp; omega), this]
      simp [edgesB, hn, h12]
    · refine ev1 fun k => ?_
      simp only [hn.1, hn.2, decide_true, Bool.and_self, if_true, impl_EdgesOk.j0]
      rw [if_pos (by simp; omega)]
      simp [edgesB, h12]
  · refine ev1 fun k => ?_
    rw [if_neg (by simp; omega)]
    simp only [impl_EdgesOk.j0, if_true]
    simp [edgesB]
    intro a b
    exact absurd ⟨a, b⟩ hn
theorem spec_edgesOk_ev (n : Int) (es : List S75) (hl : es.length < 4611686018427387904) : Ev (fun k => spec_EdgesOk.f k n es) (edgesB n es) := by
  have hw : ∀ a b c : Int, spec_l01In.f a b c = some (decide (b ≤ a) && decide (a ≤ c)) := by
    intro a b c
    unfold spec_l01In.f
    by_cases h : a ≥ b
    · rw [if_pos h]; simp [h]
    · rw [if_neg h]; simp [h]
  simp only [spec_EdgesOk.f, hw, Option.bind_some]
  by_cases hn : 1 ≤ n ∧ n ≤ 6
  · have hn1 : wrap64 (n - 1) = n - 1 := by unfold wrap64; omega
    by_cases h12 : es.length ≤ 12
    · have loop : Ev (fun k => spec_EdgesOk.l0 k es (es.length : Int) 0 n es) (es.all fun e => decide (0 ≤ e.f0) && decide (e.f0 < e.f1) && decide (e.f1 < n)) := by
        refine ev_list0 es (fun k (_ : Unit) i => spec_EdgesOk.l0 k es (es.length : Int) i n es) (fun _ r => r.all fun e => decide (0 ≤ e.f0) && decide (e.f0 < e.f1) && decide (e.f1 < n)) (fun _ _ => True)
          (fun s _ => ev1 fun k => ?_) (fun s a rest i hlt hd _ => ?_) () trivial
        · simp only [spec_EdgesOk.l0]
          rw [if_neg (by omega)]; rfl
        · by_cases h1 : 0 ≤ a.f0 ∧ a.f0 ≤ n - 1
          · have e1 : wrap64 (a.f0 + 1) = a.f0 + 1 := by unfold wrap64; omega
            by_cases h2 : a.f0 + 1 ≤ a.f1 ∧ a.f1 ≤ n - 1
            · refine Or.inr ⟨(), trivial, ?_, 0, fun k _ => ?_⟩
              · simp; omega
              · simp only [spec_EdgesOk.l0, rd_IE hd, hw, hn1, e1, Option.bind_some]
                rw [if_pos (by omega), if_pos (by omega), if_pos (by omega), if_pos (by simp; omega), if_pos (by simp; omega), wrap_succ (by omega)]
            · refine Or.inl (ev1 fun k => ?_)
              simp only [spec_EdgesOk.l0, rd_IE hd, hw, hn1, e1, Option.bind_some]
              rw [if_pos (by omega), if_pos (by omega), if_pos (by omega), if_pos (by simp; omega), if_neg (by simp; omega)]
              simp; omega
          · refine Or.inl (ev1 fun k => ?_)
            simp only [spec_EdgesOk.l0, rd_IE hd, hw, hn1, Option.bind_some]
            rw [if_pos (by omega), if_pos (by omega), if_pos (by omega), if_neg (by simp; omega)]
            simp; omega
      obtain ⟨K, hK⟩ := loop
      dsimp only at hK
      refine ⟨K + 1, fun k hk => ?_⟩
      obtain ⟨m, rfl⟩ : ∃ m, k = m + 1 := ⟨k - 1, by omega⟩
      have := hK m (by omega)
      simp only [hn.1, hn.2, decide_true, Bool.and_self, if_true, spec_EdgesOk.j0]
      rw [if_neg (by simp; omega), this]
      simp [edgesB, hn, h12]
    · refine ev1 fun k => ?_
      simp only [hn.1, hn.2, decide_true, Bool.and_self, if_true, spec_EdgesOk.j0]
      rw [if_pos (by simp; omega)]
      simp [edgesB, h12]
  · refine ev1 fun k => ?_
    rw [if_neg (by simp; omega)]
    simp only [spec_EdgesOk.j0, if_true]
    simp [edgesB]
    intro a b
    exact absurd ⟨a, b⟩ hn
end Go.Proofs.Ytchkndeeaoohpaa.Pure
end
section
set_option linter.unusedVariables false
set_option linter.unusedSimpArgs false
namespace Go.Proofs.Ytchkndeeaoohpaa.Pure
open Go.RowKit Go.Proofs.Ytchkndeeaoohpaa.P Go.Proofs.YtchkndeeaoohpaaW.PrintWords Go.Proofs.YtchkndeeaoohpaaW.PrintLast Go.Proofs.YtchkndeeaoohpaaW.PrintMore Go.Proofs.Ytchkndeeaoohpaa.Base Go.Proofs.Ytchkndeeaoohpaa.Bits Go.Proofs.Ytchkndeeaoohpaa.Loops
def SortedE (es : List S75) : Prop := ∀ i, i + 1 < es.length → ¬ ((es.getD (i + 1) z75).f0 < (es.getD i z75).f0 ∨ ((es.getD (i + 1) z75).f0 = (es.getD i z75).f0 ∧ (es.getD (i + 1) z75).f1 < (es.getD i z75).f1))
def ConnE (n : Int) (es : List S75) : Prop := ∀ P : Int → Prop, P 0 → (∀ e ∈ es, P e.f0 ↔ P e.f1) → ∀ v, 0 ≤ v → v < n → P v
def GraphP (n : Int) (es : List S75) : Prop := edgesB n es = true ∧ SortedE es ∧ ConnE n es
theorem rdE_nat (es : List S75) (i : Nat) : rd_T75 es (i : Int) = es.getD i z75 := by unfold rd_T75; rw [Int.toNat_natCast]
theorem edgesB_facts {n : Int} {es : List S75} (h : edgesB n es = true) : 1 ≤ n ∧ n ≤ 6 ∧ es.length ≤ 12 ∧ ∀ e ∈ es, 0 ≤ e.f0 ∧ e.f0 < e.f1 ∧ e.f1 < n := by
  simp only [edgesB, Bool.and_eq_true, decide_eq_true_eq, List.all_eq_true] at h
  exact ⟨h.1.1.1, h.1.1.2, h.1.2, fun e he => ⟨(h.2 e he).1.1, (h.2 e he).1.2, (h.2 e he).2⟩⟩
theorem compare_eq (a0 a1 b0 b1 : Int) : ∃ c, impl_compareEdges.f a0 a1 b0 b1 = some c ∧ (c < 0 ↔ a0 < b0 ∨ (a0 = b0 ∧ a1 < b1)) := by
  have hc : ∀ x y : Int, cmp_Compare_int.f x y = some (if x < y then -1 else if x > y then 1 else 0) := by
    intro x y
    unfold cmp_Compare_int.f cmp_isNaN_int.f
    simp only [Option.bind_some, bne_self_eq_false, Bool.false_eq_true, if_false]
    by_cases h1 : x < y
    · rw [if_pos h1, if_pos h1]
    · rw [if_neg h1, if_neg h1]
      by_cases h2 : x > y
      · rw [if_pos h2, if_pos h2]
      · rw [if_neg h2, if_neg h2]
  unfold impl_compareEdges.f
  simp only [hc, Option.bind_some]
  by_cases h1 : a0 < b0
  · rw [if_pos h1, if_neg (by decide)]
    exact ⟨_, rfl, by omega⟩
  · by_cases h2 : a0 > b0
    · rw [if_neg h1, if_pos h2, if_neg (by decide)]
      exact ⟨_, rfl, by omega⟩
    · rw [if_neg h1, if_neg h2, if_pos rfl]
      refine ⟨_, rfl, ?_⟩
      by_cases h3 : a1 < b1
      · rw [if_pos h3]; omega
      · rw [if_neg h3]
        split <;> omega
theorem impl_sorted_ev (es : List S75) (hl : es.length < 4611686018427387904) : ∃ b : Bool, Ev (fun k => slices_IsSortedFunc_Edge.f k es) b ∧ (b = true ↔ SortedE es) := by
  have main : ∀ i : Nat, i < es.length → ∃ b : Bool, Ev (fun k => slices_IsSortedFunc_Edge.l0 k es (i : Int)) b ∧ (b = true ↔ ∀ j, j < i → ¬ ((es.getD (j + 1) z75).f0 < (es.getD j z75).f0 ∨ ((es.getD (j + 1) z75).f0 = (es.getD j z75).f0 ∧ (es.getD (j + 1) z75).f1 < (es.getD j z75).f1))) := by
    intro i
    induction i with
    | zero =>
      intro _
      refine ⟨true, ev1 fun k => ?_, by simp⟩
      simp only [slices_IsSortedFunc_Edge.l0]
      rw [if_neg (by omega)]
    | succ i ih =>
      intro hi
      obtain ⟨b, ⟨K, hb⟩, hiff⟩ := ih (by omega)
      have ew : wrap64 (((i + 1 : Nat) : Int) - 1) = (i : Int) := by unfold wrap64; omega
      obtain ⟨c, hc, hneg⟩ := compare_eq (es.getD (i + 1) z75).f0 (es.getD (i + 1) z75).f1 (es.getD i z75).f0 (es.getD i z75).f1
      by_cases h : c < 0
      · refine ⟨false, ev1 fun k => ?_, ?_⟩
        · simp only [slices_IsSortedFunc_Edge.l0, ew, rdE_nat, hc, Option.bind_some]
          rw [if_pos (by omega), if_pos (by omega), if_pos (by omega), if_pos (by omega), if_pos (by omega), if_pos h]
        · simp only [Bool.false_eq_true, false_iff]
          intro hall
          exact hall i (by omega) (hneg.1 h)
      · refine ⟨b, ⟨K + 1, fun k hk => ?_⟩, ?_⟩
        · obtain ⟨m, rfl⟩ : ∃ m, k = m + 1 := ⟨k - 1, by omega⟩
          have h2 := hb m (by omega)
          dsimp only at h2 ⊢
          simp only [slices_IsSortedFunc_Edge.l0, ew, rdE_nat, hc, Option.bind_some]
          rw [if_pos (by omega), if_pos (by omega), if_pos (by omega), if_pos (by omega), if_pos (by omega), if_neg h, h2]
        · rw [hiff]
          constructor
          · intro hall j hj
            by_cases e : j = i
            · subst e; exact fun hh => h (hneg.2 hh)
            · exact hall j (by omega)
          · exact fun hall j hj => hall j (by omega)
  simp only [slices_IsSortedFunc_Edge.f]
  by_cases h0 : es.length = 0
  · refine ⟨true, ev1 fun k => ?_, ?_⟩
    · simp only [slices_IsSortedFunc_Edge.l0]
      rw [if_neg (by unfold wrap64; omega)]
    · simp only [true_iff]
      intro i hi
      omega
  · obtain ⟨b, hb, hiff⟩ := main (es.length - 1) (by omega)
    have ew : wrap64 ((es.length : Int) - 1) = ((es.length - 1 : Nat) : Int) := by unfold wrap64; omega
    rw [ew]
    refine ⟨b, hb, ?_⟩
    rw [hiff]
    exact ⟨fun h i hi => h i (by omega), fun h i hi => h i (by omega)⟩
def toN (e : S75) : Nat × Nat := (e.f0.toNat, e.f1.toNat)
theorem conn_l1 (n : Nat) (es : List S75) (hn : n ≤ 6) (he : ∀ e ∈ es, 0 ≤ e.f0 ∧ e.f0 < e.f1 ∧ e.f1 < n) (x8 x9 : Int) (r : Bool) (hl : es.length < 4611686018427387904) :
    ∀ (rest : List S75) (i : Nat) (M : Nat), i ≤ es.length → es.drop i = rest → M < 2 ^ n → Ev (fun k => impl_connected.l0 k n es ((rnd (rest.map toN) M : Nat) : Int) x8 (wrap64 (x9 + 1))) r →
      Ev (fun k => impl_connected.l1 k n es (M : Int) x8 x9 es (es.length : Int) (i : Int)) r := by
  intro rest
  induction rest with
  | nil =>
    intro i M hi hd hM h
    have := drop_nil hd
    obtain ⟨K, hK⟩ := h
    refine ⟨K + 1, fun k hk => ?_⟩
    obtain ⟨m, rfl⟩ : ∃ m, k = m + 1 := ⟨k - 1, by omega⟩
    simp only [impl_connected.l1]
    rw [if_neg (by omega)]
    exact hK m (by omega)
  | cons e rest ih =>
    intro i M hi hd hM h
    have hlt := drop_lt hd
    have hmem : e ∈ es := by
      have : e ∈ es.drop i := by rw [hd]; simp
      exact List.mem_of_mem_drop this
    obtain ⟨h0, h1, h2⟩ := he e hmem
    obtain ⟨a, ha⟩ : ∃ a : Nat, e.f0 = a := ⟨e.f0.toNat, by omega⟩
    obtain ⟨b, hb⟩ : ∃ b : Nat, e.f1 = b := ⟨e.f1.toNat, by omega⟩
    have hte : toN e = (a, b) := by simp [toN, ha, hb]
    have hM62 : M < 2 ^ 62 := Nat.lt_of_lt_of_le hM (Nat.pow_le_pow_right (by decide) (by omega))
    have hlt' := upd_lt M (a, b) n hM (by show a < n; omega) (by show b < n; omega)
    rw [List.map_cons, hte] at h
    obtain ⟨K, hK⟩ := ih (i + 1) (upd M (a, b)) (by omega) (drop_next hd) hlt' h
    refine ⟨K + 1, fun k hk => ?_⟩
    obtain ⟨m, rfl⟩ : ∃ m, k = m + 1 := ⟨k - 1, by omega⟩
    have h3 := hK m (by omega)
    dsimp only at h3 ⊢
    simp only [impl_connected.l1, rd_IE hd, ha, hb, bit_of M a hM62 (by omega), bit_of M b hM62 (by omega), or_two M a b hM62 (by omega) (by omega)]
    rw [if_pos (by omega), if_pos (by omega), if_pos (by omega), if_pos (by omega), wrap_succ (by omega)]
    unfold upd at h3
    by_cases ta : M.testBit a = true
    · rw [if_pos (by simp [ta]), if_pos (by omega)]
      rw [if_pos (by simp [ta])] at h3
      exact h3
    · by_cases tb : M.testBit b = true
      · rw [if_neg (by simp [ta]), if_pos (by omega), if_pos (by simp [tb])]
        rw [if_pos (by simp [tb])] at h3
        exact h3
      · rw [if_neg (by simp [ta]), if_pos (by omega), if_neg (by simp [tb])]
        rw [if_neg (by simp [ta, tb])] at h3
        exact h3
theorem toN_lt {n : Nat} {es : List S75} (he : ∀ e ∈ es, 0 ≤ e.f0 ∧ e.f0 < e.f1 ∧ e.f1 < n) : ∀ x ∈ es.map toN, x.1 < n ∧ x.2 < n := by
  intro x hx
  obtain ⟨e, hm, rfl⟩ := List.mem_map.1 hx
  have := he e hm
  simp only [toN]
  omega
theorem impl_connected_ev (n : Nat) (es : List S75) (hn0 : 0 < n) (hn : n ≤ 6) (he : ∀ e ∈ es, 0 ≤ e.f0 ∧ e.f0 < e.f1 ∧ e.f1 < n) (hl : es.length < 4611686018427387904) :
    Ev (fun k => impl_connected.f k n es) (decide (iter (es.map toN) n 1 = 2 ^ n - 1)) := by
  have main : ∀ (d : Nat) (x9 M : Nat), x9 + d = n → M < 2 ^ n → Ev (fun k => impl_connected.l0 k n es (M : Int) n (x9 : Int)) (decide (iter (es.map toN) d M = 2 ^ n - 1)) := by
    intro d
    induction d with
    | zero =>
      intro x9 M hx hM
      refine ev1 fun k => ?_
      simp only [impl_connected.l0, iter]
      rw [if_neg (by omega), if_pos (by omega), shl_nat n (by omega)]
      have : wrap64 (((2 ^ n : Nat) : Int) - 1) = ((2 ^ n - 1 : Nat) : Int) := by
        have h1 : 2 ^ n ≤ 2 ^ 6 := Nat.pow_le_pow_right (by decide) hn
        have h2 : 0 < 2 ^ n := Nat.pow_pos (by decide)
        unfold wrap64
        omega
      rw [this]
      have e : ((M : Int) == ((2 ^ n - 1 : Nat) : Int)) = decide (M = 2 ^ n - 1) := by
        generalize 2 ^ n - 1 = q
        rw [Bool.eq_iff_iff, beq_iff_eq, decide_eq_true_eq]
        omega
      rw [e]
      rfl
    | succ d ih =>
      intro x9 M hx hM
      have h1 := ih (x9 + 1) (rnd (es.map toN) M) (by omega) (rnd_lt _ n M hM (toN_lt he))
      have h2 := conn_l1 n es hn he n x9 _ hl es 0 M (by omega) rfl hM (by rw [wrap_succ (by omega)]; exact h1)
      obtain ⟨K, hK⟩ := h2
      refine ⟨K + 1, fun k hk => ?_⟩
      obtain ⟨m, rfl⟩ : ∃ m, k = m + 1 := ⟨k - 1, by omega⟩
      have h3 := hK m (by omega)
      dsimp only [iter] at h3 ⊢
      simp only [impl_connected.l0]
      rw [if_pos (by omega)]
      exact h3
  exact main n 0 1 (by omega) (Nat.one_lt_two_pow (by omega))
theorem full_iff (n : Nat) (es : List S75) (hn0 : 0 < n) (he : ∀ e ∈ es, 0 ≤ e.f0 ∧ e.f0 < e.f1 ∧ e.f1 < n) : iter (es.map toN) n 1 = 2 ^ n - 1 ↔ ConnE n es := by
  rw [iter_full (es.map toN) n hn0 (toN_lt he)]
  constructor
  · intro h P h0 hP v hv0 hv
    obtain ⟨u, rfl⟩ : ∃ u : Nat, v = u := ⟨v.toNat, by omega⟩
    refine h (fun u => P u) h0 (fun x hx => ?_) u (by omega)
    obtain ⟨e, hm, rfl⟩ := List.mem_map.1 hx
    have hb := he e hm
    simp only [toN]
    rw [show ((e.f0.toNat : Nat) : Int) = e.f0 by omega, show ((e.f1.toNat : Nat) : Int) = e.f1 by omega]
    exact hP e hm
  · intro h P h0 hP v hv
    have := h (fun u => P u.toNat) h0 (fun e hm => hP (toN e) (List.mem_map.2 ⟨e, hm, rfl⟩)) v (by omega) (by omega)
    simpa using this
theorem impl_graphOk_iff (n : Int) (es : List S75) (hl : es.length < 4611686018427387904) : ∃ b : Bool, Ev (fun k => impl_GraphOk.f k n es) b ∧ (b = true ↔ GraphP n es) := by
  have h1 := impl_edgesOk_ev n es hl
  simp only [impl_GraphOk.f]
  by_cases hb : edgesB n es = true
  · obtain ⟨f1, f2, f3, f4⟩ := edgesB_facts hb
    obtain ⟨m, rfl⟩ : ∃ m : Nat, n = m := ⟨n.toNat, by omega⟩
    obtain ⟨b, h2, hs⟩ := impl_sorted_ev es hl
    rw [hb] at h1
    cases b with
    | false =>
      refine ⟨false, Ev.bind h1 ?_, ?_⟩
      · simp only [if_true]
        refine Ev.bind h2 ?_
        simp only [Bool.false_eq_true, if_false]
        exact Ev.now _
      · simp only [Bool.false_eq_true, false_iff] at hs ⊢
        exact fun h => hs h.2.1
    | true =>
      refine ⟨decide (iter (es.map toN) m 1 = 2 ^ m - 1), Ev.bind h1 ?_, ?_⟩
      · simp only [if_true]
        refine Ev.bind h2 ?_
        simp only [if_true]
        refine Ev.bind (impl_connected_ev m es (by omega) (by omega) f4 hl) ?_
        exact Ev.now _
      · rw [decide_eq_true_eq, full_iff m es (by omega) f4]
        simp only [true_iff] at hs
        exact ⟨fun h => ⟨hb, hs, h⟩, fun h => h.2.2⟩
  · refine ⟨false, Ev.bind h1 ?_, ?_⟩
    · simp only [hb]
      exact Ev.now _
    · simp only [Bool.false_eq_true, false_iff]
      exact fun h => hb h.1
theorem has_ev (l : List Int) (v : Int) (hl : l.length < 4611686018427387904) : Ev (fun k => spec_l02Has.f k l v) (decide (v ∈ l)) := by
  simp only [spec_l02Has.f]
  refine ev_list0 l (fun k (_ : Unit) i => spec_l02Has.l0 k v l (l.length : Int) i) (fun _ r => decide (v ∈ r)) (fun _ _ => True) (fun s _ => ev1 fun k => ?_) (fun s a rest i hlt hd _ => ?_) () trivial
  · simp only [spec_l02Has.l0]
    rw [if_neg (by omega)]; simp
  · by_cases h : a = v
    · refine Or.inl (ev1 fun k => ?_)
      simp only [spec_l02Has.l0, rd_drop hd]
      rw [if_pos (by omega), if_pos (by omega), if_pos (by omega), if_pos h]
      simp [h]
    · refine Or.inr ⟨(), trivial, ?_, 0, fun k _ => ?_⟩
      · simp [Ne.symm h]
      · simp only [spec_l02Has.l0, rd_drop hd]
        rw [if_pos (by omega), if_pos (by omega), if_pos (by omega), if_neg h, wrap_succ (by omega)]
def RInv (n : Nat) (es : List S75) (q : List Int) : Prop :=
  q.Nodup ∧ (∀ v ∈ q, 0 ≤ v ∧ v < n) ∧ (0 : Int) ∈ q ∧ ∀ P : Int → Prop, P 0 → (∀ e ∈ es, P e.f0 ↔ P e.f1) → ∀ v ∈ q, P v
theorem rinv_len {n : Nat} {es : List S75} {q : List Int} (h : RInv n es q) : q.length ≤ n := by
  have := List.Nodup.length_le_of_subset h.1 (l₂ := (List.range n).map fun i : Nat => (i : Int)) (fun v hv => by
    have hb := h.2.1 v hv
    exact List.mem_map.2 ⟨v.toNat, by simp; omega, by omega⟩)
  simpa using this
theorem rinv_add {n : Nat} {es : List S75} {q : List Int} (h : RInv n es q) {u v : Int} {e : S75} (he : e ∈ es) (hb : 0 ≤ e.f0 ∧ e.f0 < e.f1 ∧ e.f1 < n) (hu : u ∈ q) (huv : (u = e.f0 ∧ v = e.f1) ∨ (u = e.f1 ∧ v = e.f0)) (hv : v ∉ q) : RInv n es (q ++ [v]) := by
  refine ⟨?_, fun x hx => ?_, by simp [h.2.2.1], fun P h0 hP x hx => ?_⟩
  · rw [List.nodup_append]
    refine ⟨h.1, by simp, fun a ha b hb' => ?_⟩
    simp at hb'
    subst hb'
    intro e'
    subst e'
    exact hv ha
  · rcases List.mem_append.1 hx with hx | hx
    · exact h.2.1 x hx
    · simp at hx
      omega
  · rcases List.mem_append.1 hx with hx | hx
    · exact h.2.2.2 P h0 hP x hx
    · simp at hx
      subst hx
      have := h.2.2.2 P h0 hP u hu
      rcases huv with ⟨h1, h2⟩ | ⟨h1, h2⟩
      · rw [h2]; exact (hP e he).1 (h1 ▸ this)
      · rw [h2]; exact (hP e he).2 (h1 ▸ this)
theorem get_mem_append {q : List Int} {i : Nat} (h : i < q.length) (v : Int) : rd (q ++ [v]) (i : Int) = rd q (i : Int) := by
  rw [rd_nat q i h, rd_nat (q ++ [v]) i (by simp; omega), List.getElem_append_left h]
theorem reach_step (n : Nat) (es : List S75) (q : List Int) (pos i : Nat) (e : S75) (rest : List S75) (hd : es.drop i = e :: rest) (hne : e.f0 ≠ e.f1) (hpos : pos < q.length) (hq : q.length ≤ 6) (hl : es.length < 4611686018427387904) (r : List Int)
    (h : Ev (fun k => spec_l02Reach.l1 k (if e.f0 = rd q pos ∧ e.f1 ∉ q then q ++ [e.f1] else if e.f1 = rd q pos ∧ e.f0 ∉ q then q ++ [e.f0] else q) (pos : Int) es (es.length : Int) ((i + 1 : Nat) : Int) n es) r) :
    Ev (fun k => spec_l02Reach.l1 k q (pos : Int) es (es.length : Int) (i : Int) n es) r := by
  have hlt := drop_lt hd
  have b1 := has_ev q e.f1 (by omega)
  have tail : ∀ q' : List Int, pos < q'.length → q'.length ≤ 7 →
      Ev (fun k => spec_l02Reach.l1 k (if e.f1 = rd q' pos ∧ e.f0 ∉ q' then q' ++ [e.f0] else q') (pos : Int) es (es.length : Int) ((i + 1 : Nat) : Int) n es) r →
      Ev (fun k => spec_l02Reach.j3 k q' (pos : Int) es (es.length : Int) (i : Int) n es e.f0 e.f1) r := by
    intro q' hp' hq' h'
    have b2 := has_ev q' e.f0 (by omega)
    refine ev_succ ?_
    simp only [spec_l02Reach.j3, wrap_succ (show i < 4611686018427387904 by omega)]
    refine ev_ift (by omega) (ev_ift (by omega) ?_)
    by_cases c1 : e.f1 = rd q' pos
    · refine ev_ift c1 (Ev.bind b2 ?_)
      by_cases m0 : e.f0 ∈ q'
      · rw [if_neg (fun hh => hh.2 m0)] at h'
        exact ev_ift (by simp [m0]) h'
      · rw [if_pos ⟨c1, m0⟩] at h'
        exact ev_ifn (by simp [m0]) (ev_ift (by omega) h')
    · rw [if_neg (fun hh => c1 hh.1)] at h'
      exact ev_ifn c1 h'
  refine ev_succ ?_
  simp only [spec_l02Reach.l1, rd_IE hd]
  refine ev_ift (by omega) (ev_ift (by omega) (ev_ift (by omega) (ev_ift (by omega) (ev_ift (by omega) ?_))))
  by_cases c0 : e.f0 = rd q pos
  · have c1 : ¬ e.f1 = rd q pos := fun hh => hne (c0.trans hh.symm)
    refine ev_ift c0 (Ev.bind b1 (ev_succ ?_))
    simp only [spec_l02Reach.j2]
    by_cases m1 : e.f1 ∈ q
    · rw [if_neg (fun hh => hh.2 m1), if_neg (fun hh => c1 hh.1)] at h
      refine ev_ifn (by simp [m1]) (tail q hpos (by omega) ?_)
      rw [if_neg (fun hh => c1 hh.1)]
      exact h
    · rw [if_pos ⟨c0, m1⟩] at h
      refine ev_ift (by simp [m1]) (ev_ift (by omega) (tail (q ++ [e.f1]) (by simp; omega) (by simp; omega) ?_))
      rw [get_mem_append hpos, if_neg (fun hh => c1 hh.1)]
      exact h
  · refine ev_ifn c0 (ev_succ ?_)
    simp only [spec_l02Reach.j2]
    rw [if_neg (fun hh => c0 hh.1)] at h
    exact ev_ifn (by simp) (tail q hpos (by omega) h)
def Done (es : List S75) (q : List Int) (pos : Nat) : Prop := ∀ j, j < pos → ∀ e ∈ es, (e.f0 = rd q j → e.f1 ∈ q) ∧ (e.f1 = rd q j → e.f0 ∈ q)
theorem done_add {es : List S75} {q : List Int} {pos : Nat} (h : Done es q pos) (hp : pos ≤ q.length) (v : Int) : Done es (q ++ [v]) pos := by
  intro j hj e he
  rw [get_mem_append (by omega)]
  have := h j hj e he
  exact ⟨fun hh => List.mem_append_left _ (this.1 hh), fun hh => List.mem_append_left _ (this.2 hh)⟩
theorem reach_inner (n : Nat) (hn : n ≤ 6) (es : List S75) (he : ∀ e ∈ es, 0 ≤ e.f0 ∧ e.f0 < e.f1 ∧ e.f1 < n) (hl : es.length < 4611686018427387904) (pos : Nat)
    (next : ∀ q, RInv n es q → Done es q (pos + 1) → pos < q.length → ∃ r, Ev (fun k => spec_l02Reach.l0 k q ((pos + 1 : Nat) : Int) n es) r ∧ RInv n es r ∧ Done es r r.length) :
    ∀ (rest : List S75) (i : Nat) (q : List Int), i ≤ es.length → es.drop i = rest → RInv n es q → Done es q pos → pos < q.length →
      (∀ e ∈ es.take i, (e.f0 = rd q pos → e.f1 ∈ q) ∧ (e.f1 = rd q pos → e.f0 ∈ q)) →
      ∃ r, Ev (fun k => spec_l02Reach.l1 k q (pos : Int) es (es.length : Int) (i : Int) n es) r ∧ RInv n es r ∧ Done es r r.length := by
  intro rest
  induction rest with
  | nil =>
    intro i q hi hd hinv hdone hpos hpart
    have hge := drop_nil hd
    have hlen := rinv_len hinv
    rw [List.take_of_length_le hge] at hpart
    obtain ⟨r, ⟨K, hK⟩, h1, h2⟩ := next q hinv (fun j hj => by
      by_cases e : j = pos
      · subst e; exact hpart
      · exact hdone j (by omega)) hpos
    refine ⟨r, ⟨K + 1, fun k hk => ?_⟩, h1, h2⟩
    obtain ⟨m, rfl⟩ : ∃ m, k = m + 1 := ⟨k - 1, by omega⟩
    have h3 := hK m (by omega)
    dsimp only at h3 ⊢
    simp only [spec_l02Reach.l1]
    rw [if_neg (by omega), wrap_succ (by omega), h3]
  | cons e rest ih =>
    intro i q hi hd hinv hdone hpos hpart
    have hlt := drop_lt hd
    have hmem : e ∈ es := by
      have : e ∈ es.drop i := by rw [hd]; simp
      exact List.mem_of_mem_drop this
    have hb := he e hmem
    have hlen := rinv_len hinv
    have hx : rd q pos ∈ q := by rw [rd_nat q pos hpos]; exact List.getElem_mem _
    have htake : es.take (i + 1) = es.take i ++ [e] := take_drop hd
    have step := reach_step n es q pos i e rest hd (by omega) hpos (by omega) hl
    by_cases c0 : e.f0 = rd q pos ∧ e.f1 ∉ q
    · obtain ⟨r, hr, h1, h2⟩ := ih (i + 1) (q ++ [e.f1]) (by omega) (drop_next hd) (rinv_add hinv hmem hb hx (Or.inl ⟨c0.1.symm, rfl⟩) c0.2) (done_add hdone (by omega) _) (by simp; omega) (fun x hx' => by
        rw [get_mem_append hpos]
        rw [htake] at hx'
        rcases List.mem_append.1 hx' with hx' | hx'
        · have := hpart x hx'
          exact ⟨fun hh => List.mem_append_left _ (this.1 hh), fun hh => List.mem_append_left _ (this.2 hh)⟩
        · simp at hx'
          subst hx'
          exact ⟨fun _ => by simp, fun hh => absurd (c0.1.trans hh.symm) (by omega)⟩)
      refine ⟨r, step r ?_, h1, h2⟩
      simp only [if_pos c0]
      exact hr
    · by_cases c1 : e.f1 = rd q pos ∧ e.f0 ∉ q
      · obtain ⟨r, hr, h1, h2⟩ := ih (i + 1) (q ++ [e.f0]) (by omega) (drop_next hd) (rinv_add hinv hmem hb hx (Or.inr ⟨c1.1.symm, rfl⟩) c1.2) (done_add hdone (by omega) _) (by simp; omega) (fun x hx' => by
          rw [get_mem_append hpos]
          rw [htake] at hx'
          rcases List.mem_append.1 hx' with hx' | hx'
          · have := hpart x hx'
            exact ⟨fun hh => List.mem_append_left _ (this.1 hh), fun hh => List.mem_append_left _ (this.2 hh)⟩
          · simp at hx'
            subst hx'
            exact ⟨fun hh => absurd (hh.trans c1.1.symm) (by omega), fun _ => by simp⟩)
        refine ⟨r, step r ?_, h1, h2⟩
        simp only [if_neg c0, if_pos c1]
        exact hr
      · obtain ⟨r, hr, h1, h2⟩ := ih (i + 1) q (by omega) (drop_next hd) hinv hdone hpos (fun x hx' => by
          rw [htake] at hx'
          rcases List.mem_append.1 hx' with hx' | hx'
          · exact hpart x hx'
          · simp at hx'
            subst hx'
            exact ⟨fun hh => Classical.byContradiction fun hn => c0 ⟨hh, hn⟩, fun hh => Classical.byContradiction fun hn => c1 ⟨hh, hn⟩⟩)
        refine ⟨r, step r ?_, h1, h2⟩
        simp only [if_neg c0, if_neg c1]
        exact hr
theorem reach_ev (n : Nat) (hn0 : 0 < n) (hn : n ≤ 6) (es : List S75) (he : ∀ e ∈ es, 0 ≤ e.f0 ∧ e.f0 < e.f1 ∧ e.f1 < n) (hl : es.length < 4611686018427387904) :
    ∃ r, Ev (fun k => spec_l02Reach.f k n es) r ∧ RInv n es r ∧ Done es r r.length := by
  have main : ∀ (d pos : Nat) (q : List Int), RInv n es q → Done es q pos → pos ≤ q.length → n < pos + d → ∃ r, Ev (fun k => spec_l02Reach.l0 k q (pos : Int) n es) r ∧ RInv n es r ∧ Done es r r.length := by
    intro d
    induction d with
    | zero =>
      intro pos q hinv _ hp hd
      have := rinv_len hinv
      omega
    | succ d ih =>
      intro pos q hinv hdone hp hd
      by_cases hlt : pos < q.length
      · obtain ⟨r, ⟨K, hK⟩, h1, h2⟩ := reach_inner n hn es he hl pos (fun q' h1 h2 h3 => ih (pos + 1) q' h1 h2 (by omega) (by omega)) es 0 q (by omega) rfl hinv hdone hlt (fun e he' => by simp at he')
        refine ⟨r, ⟨K + 1, fun k hk => ?_⟩, h1, h2⟩
        obtain ⟨m, rfl⟩ : ∃ m, k = m + 1 := ⟨k - 1, by omega⟩
        have h3 := hK m (by omega)
        dsimp only at h3 ⊢
        simp only [spec_l02Reach.l0]
        rw [if_pos (by omega)]
        exact h3
      · refine ⟨q, ev1 fun k => ?_, hinv, ?_⟩
        · simp only [spec_l02Reach.l0]
          rw [if_neg (by omega)]
        · have : pos = q.length := by omega
          rw [this] at hdone
          exact hdone
  refine main (n + 1) 0 [0] ⟨by simp, fun v hv => by simp at hv; omega, by simp, fun P h0 _ v hv => by simp at hv; rw [hv]; exact h0⟩ (fun j hj => by omega) (by simp) (by omega)
theorem reach_all (n : Nat) (es : List S75) (r : List Int) (h1 : RInv n es r) (h2 : Done es r r.length) : ((r.length : Int) == n) = true ↔ ConnE n es := by
  have hlen := rinv_len h1
  constructor
  · intro h P h0 hP v hv0 hv
    simp at h
    refine h1.2.2.2 P h0 hP v (Classical.byContradiction fun hno => ?_)
    have := List.Nodup.length_le_of_subset (l₁ := v :: r) (by rw [List.nodup_cons]; exact ⟨hno, h1.1⟩) (l₂ := (List.range n).map fun i : Nat => (i : Int)) (fun u hu => by
      have hb : 0 ≤ u ∧ u < n := by
        rcases List.mem_cons.1 hu with rfl | hu
        · omega
        · exact h1.2.1 u hu
      exact List.mem_map.2 ⟨u.toNat, by simp; omega, by omega⟩)
    simp at this
    omega
  · intro h
    have hall := h (fun v => v ∈ r) h1.2.2.1 (fun e he => by
      constructor
      · intro hm
        obtain ⟨j, hj, hjv⟩ := List.mem_iff_getElem.1 hm
        exact (h2 j hj e he).1 (by rw [rd_nat r j hj]; exact hjv.symm)
      · intro hm
        obtain ⟨j, hj, hjv⟩ := List.mem_iff_getElem.1 hm
        exact (h2 j hj e he).2 (by rw [rd_nat r j hj]; exact hjv.symm))
    have := List.Nodup.length_le_of_subset (l₁ := (List.range n).map fun i : Nat => (i : Int)) (l₂ := r) (by
      refine List.Pairwise.map _ (fun a b hab => ?_) List.nodup_range
      show (a : Int) ≠ b
      omega) (fun v hv => by
      obtain ⟨i, hi, rfl⟩ := List.mem_map.1 hv
      simp at hi
      exact hall _ (by omega) (by omega))
    simp at this ⊢
    omega
theorem spec_graphOk_iff (n : Int) (es : List S75) (hl : es.length < 4611686018427387904) : ∃ b : Bool, Ev (fun k => spec_GraphOk.f k n es) b ∧ (b = true ↔ GraphP n es) := by
  have h1 := spec_edgesOk_ev n es hl
  simp only [spec_GraphOk.f]
  by_cases hb : edgesB n es = true
  · obtain ⟨f1, f2, f3, f4⟩ := edgesB_facts hb
    obtain ⟨m, rfl⟩ : ∃ m : Nat, n = m := ⟨n.toNat, by omega⟩
    obtain ⟨r, hr, r1, r2⟩ := reach_ev m (by omega) (by omega) es f4 hl
    rw [hb] at h1
    have main : ∀ (d i : Nat), i + d = es.length → ∃ b : Bool, Ev (fun k => spec_GraphOk.l0 k es (es.length : Int) (i : Int) m es) b ∧
        (b = true ↔ (∀ j, i ≤ j + 1 → j + 1 < es.length → ¬ ((es.getD (j + 1) z75).f0 < (es.getD j z75).f0 ∨ ((es.getD (j + 1) z75).f0 = (es.getD j z75).f0 ∧ (es.getD (j + 1) z75).f1 < (es.getD j z75).f1))) ∧ ConnE m es) := by
      intro d
      induction d with
      | zero =>
        intro i hi
        obtain ⟨K, hK⟩ := hr
        refine ⟨((r.length : Int) == m), ⟨K + 1, fun k hk => ?_⟩, ?_⟩
        · obtain ⟨p, rfl⟩ : ∃ p, k = p + 1 := ⟨k - 1, by omega⟩
          have h3 := hK p (by omega)
          dsimp only at h3 ⊢
          simp only [spec_GraphOk.l0]
          rw [if_neg (by omega), h3]
          rfl
        · rw [reach_all m es r r1 r2]
          exact ⟨fun h => ⟨fun j h1 h2 => by omega, h⟩, fun h => h.2⟩
      | succ d ih =>
        intro i hi
        obtain ⟨b, hK, hiff⟩ := ih (i + 1) (by omega)
        have stop : Ev (fun k => spec_GraphOk.j1 k es (es.length : Int) (i : Int) true m es) false := ev1 fun k => by simp only [spec_GraphOk.j1, if_true]
        have go : Ev (fun k => spec_GraphOk.j1 k es (es.length : Int) (i : Int) false m es) b := by
          refine ev_succ ?_
          simp only [spec_GraphOk.j1, Bool.false_eq_true, if_false, wrap_succ (show i < 4611686018427387904 by omega)]
          exact hK
        by_cases i0 : i = 0
        · subst i0
          refine ⟨b, ev_succ ?_, ?_⟩
          · simp only [spec_GraphOk.l0]
            exact ev_ift (by omega) (ev_ift (by omega) (ev_ift (by omega) (ev_ifn (by omega) go)))
          · rw [hiff]
            exact ⟨fun h => ⟨fun j _ h2 => h.1 j (by omega) h2, h.2⟩, fun h => ⟨fun j _ h2 => h.1 j (by omega) h2, h.2⟩⟩
        · obtain ⟨p, rfl⟩ : ∃ p, i = p + 1 := ⟨i - 1, by omega⟩
          have ew : wrap64 (((p + 1 : Nat) : Int) - 1) = (p : Int) := by unfold wrap64; omega
          by_cases hc : (es.getD (p + 1) z75).f0 < (es.getD p z75).f0 ∨ ((es.getD (p + 1) z75).f0 = (es.getD p z75).f0 ∧ (es.getD (p + 1) z75).f1 < (es.getD p z75).f1)
          · refine ⟨false, ev_succ ?_, ?_⟩
            · simp only [spec_GraphOk.l0, ew, rdE_nat]
              refine ev_ift (by omega) (ev_ift (by omega) (ev_ift (by omega) (ev_ift (by omega) (ev_ift (by omega) (ev_ift (by omega) ?_)))))
              by_cases c0 : (es.getD (p + 1) z75).f0 < (es.getD p z75).f0
              · exact ev_ift c0 stop
              · have c1 : (es.getD (p + 1) z75).f1 < (es.getD p z75).f1 := by omega
                simp only [decide_eq_true c1]
                exact ev_ifn c0 (ev_ift (by omega) stop)
            · simp only [Bool.false_eq_true, false_iff]
              exact fun h => h.1 p (by omega) (by omega) hc
          · refine ⟨b, ev_succ ?_, ?_⟩
            · simp only [spec_GraphOk.l0, ew, rdE_nat]
              refine ev_ift (by omega) (ev_ift (by omega) (ev_ift (by omega) (ev_ift (by omega) (ev_ift (by omega) (ev_ift (by omega) (ev_ifn (by omega) ?_))))))
              by_cases c0 : (es.getD (p + 1) z75).f0 = (es.getD p z75).f0
              · have c1 : ¬ (es.getD (p + 1) z75).f1 < (es.getD p z75).f1 := by omega
                simp only [decide_eq_false c1]
                exact ev_ift c0 go
              · exact ev_ifn c0 go
            · rw [hiff]
              refine ⟨fun h => ⟨fun j h1 h2 => ?_, h.2⟩, fun h => ⟨fun j _ h2 => h.1 j (by omega) h2, h.2⟩⟩
              by_cases e : j = p
              · subst e; exact hc
              · exact h.1 j (by omega) h2
    obtain ⟨b, hb2, hiff⟩ := main es.length 0 (by omega)
    refine ⟨b, Ev.bind h1 ?_, ?_⟩
    · simp only [if_true]
      exact hb2
    · rw [hiff]
      exact ⟨fun h => ⟨hb, fun i hi => h.1 i (by omega) hi, h.2⟩, fun h => ⟨fun j _ h2 => h.2.1 j h2, h.2.2⟩⟩
  · refine ⟨false, Ev.bind h1 ?_, ?_⟩
    · simp only [hb]
      exact Ev.now _
    · simp only [Bool.false_eq_true, false_iff]
      exact fun h => hb h.1
theorem graphOk_both (n : Int) (es : List S75) (hl : es.length < 4611686018427387904) : ∃ b : Bool, Ev (fun k => impl_GraphOk.f k n es) b ∧ Ev (fun k => spec_GraphOk.f k n es) b ∧ (b = true ↔ GraphP n es) := by
  obtain ⟨b, h1, i1⟩ := impl_graphOk_iff n es hl
  obtain ⟨b', h2, i2⟩ := spec_graphOk_iff n es hl
  have : b' = b := by rw [Bool.eq_iff_iff, i1, i2]
  subst this
  exact ⟨b', h1, h2, i1⟩
end Go.Proofs.Ytchkndeeaoohpaa.Pure
end
section
set_option linter.unusedVariables false
set_option linter.unusedSimpArgs false
namespace Go.Proofs.Ytchkndeeaoohpaa.Pure
open Go.RowKit Go.Proofs.Ytchkndeeaoohpaa.P Go.Proofs.YtchkndeeaoohpaaW.PrintWords Go.Proofs.YtchkndeeaoohpaaW.PrintLast Go.Proofs.YtchkndeeaoohpaaW.PrintMore Go.Proofs.Ytchkndeeaoohpaa.Base Go.Proofs.Ytchkndeeaoohpaa.Loops
theorem eqIntS_l0 (l : List Int) (hl : l.length < 4611686018427387904) : ∀ (d k i : Nat), i + d = l.length → d < k → laws_eqIntS.l0 k l l (i : Int) = some true := by
  intro d
  induction d with
  | zero =>
    intro k i hi hk
    obtain ⟨k, rfl⟩ := succ_of_lt hk
    simp only [laws_eqIntS.l0]
    rw [if_neg (by omega)]
  | succ d ih =>
    intro k i hi hk
    obtain ⟨k, rfl⟩ := succ_of_lt hk
    simp only [laws_eqIntS.l0]
    rw [if_pos (by omega), if_pos (by omega), if_pos (by omega), wrap_succ (by omega)]
    exact ih k (i + 1) (by omega) (by omega)
theorem eqIntS_ev (l : List Int) (hl : l.length < 4611686018427387904) : Ev (fun k => laws_eqIntS.f k l l) true := by
  refine ev_k l.length fun k hk => ?_
  unfold laws_eqIntS.f
  simp only [if_true]
  exact eqIntS_l0 l hl l.length k 0 (by omega) hk
end Go.Proofs.Ytchkndeeaoohpaa.Pure
end
section
set_option linter.unusedVariables false
set_option linter.unusedSimpArgs false
namespace Go.Proofs.Ytchkndeeaoohpaa.Pure
open Go.RowKit Go.Proofs.Ytchkndeeaoohpaa.P Go.Proofs.YtchkndeeaoohpaaW.PrintWords Go.Proofs.YtchkndeeaoohpaaW.PrintLast Go.Proofs.YtchkndeeaoohpaaW.PrintMore Go.Proofs.Ytchkndeeaoohpaa.Base Go.Proofs.Ytchkndeeaoohpaa.Bits Go.Proofs.Ytchkndeeaoohpaa.Loops
theorem within_eq (a b c : Int) : impl_within.f a b c = some (decide (b ≤ a ∧ a ≤ c)) := by
  unfold impl_within.f
  by_cases h : a ≥ b
  · rw [if_pos h]; simp; omega
  · rw [if_neg h]; simp; omega
theorem in_eq (a b c : Int) : spec_l01In.f a b c = some (decide (b ≤ a ∧ a ≤ c)) := by
  unfold spec_l01In.f
  by_cases h : a ≥ b
  · rw [if_pos h]; simp; omega
  · rw [if_neg h]; simp; omega
end Go.Proofs.Ytchkndeeaoohpaa.Pure
end
section
set_option linter.unusedVariables false
set_option linter.unusedSimpArgs false
namespace Go.Proofs.Ytchkndeeaoohpaa.Pure
open Go.RowKit Go.Proofs.Ytchkndeeaoohpaa.P Go.Proofs.YtchkndeeaoohpaaW.PrintWords Go.Proofs.YtchkndeeaoohpaaW.PrintLast Go.Proofs.YtchkndeeaoohpaaW.PrintMore Go.Proofs.Ytchkndeeaoohpaa.Base Go.Proofs.Ytchkndeeaoohpaa.Loops Go.Proofs.Ytchkndeeaoohpaa.Bits
def AdjE (es : List S75) (x y : Int) : Prop := ∃ e ∈ es, (e.f0 = x ∧ e.f1 = y) ∨ (e.f0 = y ∧ e.f1 = x)
theorem adj_symm {es : List S75} {x y : Int} (h : AdjE es x y) : AdjE es y x := by
  obtain ⟨e, he, h⟩ := h
  exact ⟨e, he, h.symm⟩
theorem adj_range {n : Int} {es : List S75} (hb : ∀ e ∈ es, 0 ≤ e.f0 ∧ e.f0 < e.f1 ∧ e.f1 < n) {x y : Int} (h : AdjE es x y) : 0 ≤ x ∧ x < n ∧ 0 ≤ y ∧ y < n ∧ x ≠ y := by
  obtain ⟨e, he, h⟩ := h
  have := hb e he
  omega
theorem adj_mult {n : Int} {es : List S75} (hb : ∀ e ∈ es, 0 ≤ e.f0 ∧ e.f0 < e.f1 ∧ e.f1 < n) (x y : Int) : multI n es x y > 0 ↔ AdjE es x y := by
  unfold multI multN
  constructor
  · intro h
    by_cases c : 0 ≤ x ∧ x < n ∧ 0 ≤ y ∧ y < n ∧ x ≠ y
    · rw [if_pos c] at h
      have h' : 0 < es.countP fun e => decide (e.f0 = mn x y) && decide (e.f1 = mx x y) := by omega
      obtain ⟨e, he, h2⟩ := List.countP_pos_iff.1 h'
      simp only [Bool.and_eq_true, decide_eq_true_eq] at h2
      refine ⟨e, he, ?_⟩
      unfold mn mx at h2
      split at h2 <;> split at h2 <;> omega
    · rw [if_neg c] at h
      exact absurd h (by decide)
  · intro h
    have hr := adj_range hb h
    rw [if_pos hr]
    obtain ⟨e, he, h⟩ := h
    have h3 := hb e he
    have h' : 0 < es.countP fun e => decide (e.f0 = mn x y) && decide (e.f1 = mx x y) := List.countP_pos_iff.2 ⟨e, he, by
      simp only [Bool.and_eq_true, decide_eq_true_eq]
      unfold mn mx
      split <;> split <;> omega⟩
    omega
theorem rd_set (l : List Int) (i j : Int) (a : Int) (hi : 0 ≤ i) (hj : 0 ≤ j) (h : i < l.length) : rd (l.set i.toNat a) j = if j = i then a else rd l j := by
  unfold rd
  by_cases e : j = i
  · subst e
    rw [if_pos rfl, List.getD_eq_getElem?_getD, List.getElem?_set_self (by omega)]
    rfl
  · rw [if_neg e, List.getD_eq_getElem?_getD, List.getD_eq_getElem?_getD, List.getElem?_set_ne (by omega)]
theorem mem_rd {q : List Int} {y : Int} : y ∈ q ↔ ∃ j : Nat, j < q.length ∧ rd q (j : Int) = y := by
  constructor
  · intro h
    obtain ⟨j, hj, e⟩ := List.mem_iff_getElem.1 h
    exact ⟨j, hj, by rw [rd_nat q j hj, e]⟩
  · rintro ⟨j, hj, e⟩
    rw [rd_nat q j hj] at e
    exact List.mem_iff_getElem.2 ⟨j, hj, e⟩
theorem rd_ext {a b : List Int} (h : a.length = b.length) (h2 : ∀ i : Nat, i < a.length → rd a (i : Int) = rd b (i : Int)) : a = b :=
  List.ext_getElem h fun i h3 h4 => by
    have := h2 i h3
    rwa [rd_nat a i h3, rd_nat b i h4] at this
structure DistP (n : Nat) (es : List S75) (v : Int) (D : List Int) : Prop where
  len : D.length = n
  z : rd D v = 0
  near : ∀ x y, AdjE es x y → rd D x ≤ rd D y + 1
  pre : ∀ w : Int, 0 ≤ w → w < n → w ≠ v → ∃ u, AdjE es u w ∧ rd D w = rd D u + 1
  pos : ∀ w : Int, 0 ≤ w → w < n → 0 ≤ rd D w ∧ rd D w ≤ (n : Int) - 1
structure BInv (n : Nat) (es : List S75) (v : Int) (D q : List Int) (p : Nat) (y : Nat) : Prop where
  len : D.length = n
  nod : q.Nodup
  rng : ∀ w ∈ q, 0 ≤ w ∧ w < n
  one : 0 < q.length
  hd : rd q ((0 : Nat) : Int) = v
  dv : rd D v = 0
  val : ∀ j : Nat, j < q.length → 0 ≤ rd D (rd q (j : Int)) ∧ rd D (rd q (j : Int)) ≤ j
  mono : ∀ i j : Nat, i ≤ j → j < q.length → rd D (rd q (i : Int)) ≤ rd D (rd q (j : Int))
  lim : ∀ j : Nat, p < q.length → j < q.length → rd D (rd q (j : Int)) ≤ rd D (rd q (p : Int)) + 1
  pred : ∀ j : Nat, 1 ≤ j → j < q.length → ∃ i : Nat, i < j ∧ AdjE es (rd q (i : Int)) (rd q (j : Int)) ∧ rd D (rd q (j : Int)) = rd D (rd q (i : Int)) + 1
  done : ∀ i : Nat, i < p → i < q.length → ∀ z, AdjE es (rd q (i : Int)) z → z ∈ q ∧ rd D z ≤ rd D (rd q (i : Int)) + 1
  cur : p < q.length → ∀ z : Int, z < y → AdjE es (rd q (p : Int)) z → z ∈ q ∧ rd D z ≤ rd D (rd q (p : Int)) + 1
theorem binv_len {n : Nat} {es : List S75} {v : Int} {D q : List Int} {p y : Nat} (h : BInv n es v D q p y) : q.length ≤ n := by
  have := List.Nodup.length_le_of_subset h.nod (l₂ := (List.range n).map fun i : Nat => (i : Int)) (fun v hv => by
    have hb := h.rng v hv
    exact List.mem_map.2 ⟨v.toNat, by simp; omega, by omega⟩)
  simpa using this
theorem binv_next {n : Nat} {es : List S75} (hb : ∀ e ∈ es, 0 ≤ e.f0 ∧ e.f0 < e.f1 ∧ e.f1 < n) {v : Int} {D q : List Int} {p : Nat} (h : BInv n es v D q p n) (hp : p < q.length) : BInv n es v D q (p + 1) 0 where
  len := h.len
  nod := h.nod
  rng := h.rng
  one := h.one
  hd := h.hd
  dv := h.dv
  val := h.val
  mono := h.mono
  lim := fun j h1 h2 => by
    have a := h.lim j hp h2
    have b := h.mono p (p + 1) (by omega) h1
    omega
  pred := h.pred
  done := fun i h1 h2 z hz => by
    by_cases e : i = p
    · subst e
      exact h.cur h2 z (by have := adj_range hb hz; omega) hz
    · exact h.done i (by omega) h2 z hz
  cur := fun _ z h1 hz => by
    have := adj_range hb hz
    omega
theorem binv_skip {n : Nat} {es : List S75} {v : Int} {D q : List Int} {p y : Nat} (h : BInv n es v D q p y) (hc : ¬ AdjE es (rd q (p : Int)) (y : Int) ∨ (y : Int) ∈ q) : BInv n es v D q p (y + 1) :=
  { h with
    cur := fun h1 z h2 hz => by
      by_cases e : z = (y : Int)
      · subst e
        rcases hc with hc | hc
        · exact absurd hz hc
        · obtain ⟨j, hj, ej⟩ := mem_rd.1 hc
          refine ⟨hc, ?_⟩
          rw [← ej]
          exact h.lim j h1 hj
      · exact h.cur h1 z (by omega) hz }
theorem binv_add {n : Nat} {es : List S75} {v : Int} {D q : List Int} {p y : Nat} (h : BInv n es v D q p y) (hp : p < q.length) (hy : y < n) (ha : AdjE es (rd q (p : Int)) (y : Int)) (hn : (y : Int) ∉ q) :
    BInv n es v (D.set y (rd D (rd q (p : Int)) + 1)) (q ++ [(y : Int)]) p (y + 1) := by
  have hl : (q ++ [(y : Int)]).length = q.length + 1 := by simp
  have old : ∀ j : Nat, j < q.length → rd (q ++ [(y : Int)]) (j : Int) = rd q (j : Int) := fun j hj => get_mem_append hj _
  have new : rd (q ++ [(y : Int)]) ((q.length : Nat) : Int) = (y : Int) := by
    rw [rd_nat _ _ (by omega)]
    simp
  have hD : ∀ w : Int, 0 ≤ w → rd (D.set y (rd D (rd q (p : Int)) + 1)) w = if w = (y : Int) then rd D (rd q (p : Int)) + 1 else rd D w := fun w hw => by
    have := rd_set D (y : Int) w (rd D (rd q (p : Int)) + 1) (by omega) hw (by rw [h.len]; omega)
    rwa [Int.toNat_natCast] at this
  have inq : ∀ w ∈ q, rd (D.set y (rd D (rd q (p : Int)) + 1)) w = rd D w := fun w hw => by
    rw [hD w (h.rng w hw).1, if_neg (fun e : w = (y : Int) => hn (by rw [← e]; exact hw))]
  have memq : ∀ j : Nat, j < q.length → rd q (j : Int) ∈ q := fun j hj => mem_rd.2 ⟨j, hj, rfl⟩
  have inj : ∀ j : Nat, j < q.length → rd (D.set y (rd D (rd q (p : Int)) + 1)) (rd q (j : Int)) = rd D (rd q (j : Int)) := fun j hj => inq _ (memq j hj)
  have hDy : rd (D.set y (rd D (rd q (p : Int)) + 1)) (y : Int) = rd D (rd q (p : Int)) + 1 := by rw [hD (y : Int) (by omega), if_pos rfl]
  refine { len := by simp [h.len], nod := ?_, rng := ?_, one := by omega, hd := by rw [old 0 h.one]; exact h.hd, dv := ?_, val := ?_, mono := ?_, lim := ?_, pred := ?_, done := ?_, cur := ?_ }
  · rw [List.nodup_append]
    refine ⟨h.nod, by simp, fun a ha b hb' => ?_⟩
    simp at hb'
    subst hb'
    intro e'
    subst e'
    exact hn ha
  · intro w hw
    rcases List.mem_append.1 hw with hw | hw
    · exact h.rng w hw
    · simp at hw
      omega
  · rw [← h.hd, inj 0 h.one, h.hd]
    exact h.dv
  · intro j hj
    by_cases e : j < q.length
    · rw [old j e, inj j e]
      exact h.val j e
    · obtain rfl : j = q.length := by omega
      rw [new, hDy]
      have := h.val p hp
      omega
  · intro i j hij hj
    by_cases e : j < q.length
    · rw [old j e, inj j e, old i (by omega), inj i (by omega)]
      exact h.mono i j hij e
    · obtain rfl : j = q.length := by omega
      rw [new, hDy]
      by_cases e2 : i < q.length
      · rw [old i e2, inj i e2]
        exact h.lim i hp e2
      · obtain rfl : i = q.length := by omega
        rw [new, hDy]
        exact Int.le_refl _
  · intro j _ hj
    rw [old p hp, inj p hp]
    by_cases e : j < q.length
    · rw [old j e, inj j e]
      exact h.lim j hp e
    · obtain rfl : j = q.length := by omega
      rw [new, hDy]
      exact Int.le_refl _
  · intro j h1 hj
    by_cases e : j < q.length
    · obtain ⟨i, hi, a, b⟩ := h.pred j h1 e
      refine ⟨i, hi, ?_⟩
      rw [old j e, inj j e, old i (by omega), inj i (by omega)]
      exact ⟨a, b⟩
    · obtain rfl : j = q.length := by omega
      refine ⟨p, hp, ?_⟩
      rw [new, hDy, old p hp, inj p hp]
      exact ⟨ha, rfl⟩
  · intro i h1 _ z hz
    rw [old i (by omega)] at hz ⊢
    obtain ⟨a, b⟩ := h.done i h1 (by omega) z hz
    refine ⟨List.mem_append_left _ a, ?_⟩
    rw [inq z a, inj i (by omega)]
    exact b
  · intro _ z h2 hz
    rw [old p hp] at hz ⊢
    rw [inj p hp]
    by_cases e : z = (y : Int)
    · subst e
      rw [hDy]
      exact ⟨by simp, Int.le_refl _⟩
    · obtain ⟨a, b⟩ := h.cur hp z (by omega) hz
      refine ⟨List.mem_append_left _ a, ?_⟩
      rw [inq z a]
      exact b
theorem binv_end {n : Nat} {es : List S75} (hb : ∀ e ∈ es, 0 ≤ e.f0 ∧ e.f0 < e.f1 ∧ e.f1 < n) (hC : ConnE n es) {v : Int} (hv : 0 ≤ v ∧ v < n) {D q : List Int} {p y : Nat} (h : BInv n es v D q p y) (hp : q.length ≤ p) : DistP n es v D := by
  have vq : v ∈ q := mem_rd.2 ⟨0, h.one, h.hd⟩
  have clo : ∀ x ∈ q, ∀ z, AdjE es x z → z ∈ q := fun x hx z hz => by
    obtain ⟨j, hj, e⟩ := mem_rd.1 hx
    subst e
    exact (h.done j (by omega) hj z hz).1
  have all : ∀ w : Int, 0 ≤ w → w < n → (w ∈ q ↔ (0 : Int) ∈ q) := hC (fun w => w ∈ q ↔ (0 : Int) ∈ q) Iff.rfl (fun e he => by
    have h1 : AdjE es e.f0 e.f1 := ⟨e, he, Or.inl ⟨rfl, rfl⟩⟩
    have h2 : e.f0 ∈ q ↔ e.f1 ∈ q := ⟨fun a => clo _ a _ h1, fun a => clo _ a _ (adj_symm h1)⟩
    rw [h2])
  have zq : (0 : Int) ∈ q := (all v hv.1 hv.2).1 vq
  have inq : ∀ w : Int, 0 ≤ w → w < n → w ∈ q := fun w h1 h2 => (all w h1 h2).2 zq
  have hlen := binv_len h
  refine ⟨h.len, h.dv, fun x y' hxy => ?_, fun w h1 h2 hw => ?_, fun w h1 h2 => ?_⟩
  · have hr := adj_range hb hxy
    have hyq : y' ∈ q := inq y' hr.2.2.1 hr.2.2.2.1
    obtain ⟨j, hj, e⟩ := mem_rd.1 hyq
    subst e
    exact (h.done j (by omega) hj x (adj_symm hxy)).2
  · obtain ⟨j, hj, e⟩ := mem_rd.1 (inq w h1 h2)
    subst e
    have hj0 : 1 ≤ j := by
      rcases Nat.eq_zero_or_pos j with h0 | h0
      · subst h0
        exact absurd h.hd hw
      · exact h0
    obtain ⟨i, hi, a, b⟩ := h.pred j hj0 hj
    exact ⟨_, a, b⟩
  · obtain ⟨j, hj, e⟩ := mem_rd.1 (inq w h1 h2)
    subst e
    have := h.val j hj
    omega
theorem distL1 (n : Nat) (es : List S75) (hl : es.length < 4611686018427387904) (hn : n ≤ 6) (hb : ∀ e ∈ es, 0 ≤ e.f0 ∧ e.f0 < e.f1 ∧ e.f1 < n) (v : Int) (p : Nat) :
    ∀ (c y : Nat) (D q : List Int), y + c = n → BInv n es v D q p y → p < q.length →
      ∃ D' q', BInv n es v D' q' (p + 1) 0 ∧ ∀ R, Ev (fun k => spec_DistancesFrom.l0 k D' q' ((p + 1 : Nat) : Int) n es) R → Ev (fun k => spec_DistancesFrom.l1 k D q (p : Int) (rd q (p : Int)) (y : Int) n es) R := by
  intro c
  induction c with
  | zero =>
    intro y D q hy h hp
    obtain rfl : y = n := by omega
    have hq := binv_len h
    refine ⟨D, q, binv_next hb h hp, fun R hR => ev_succ ?_⟩
    simp only [spec_DistancesFrom.l1, wrap_succ (show p < 4611686018427387904 by omega)]
    exact ev_ifn (by omega) hR
  | succ c ih =>
    intro y D q hy h hp
    have hq := binv_len h
    have hm := spec_mult_ev n es hl (rd q (p : Int)) (y : Int)
    have hh := has_ev q (y : Int) (by omega)
    by_cases ha : AdjE es (rd q (p : Int)) (y : Int)
    · have hpos := (adj_mult hb _ _).2 ha
      by_cases hq2 : (y : Int) ∈ q
      · obtain ⟨D', q', h1, h2⟩ := ih (y + 1) D q (by omega) (binv_skip h (Or.inr hq2)) hp
        refine ⟨D', q', h1, fun R hR => ev_succ ?_⟩
        have g := h2 R hR
        rw [decide_eq_true hq2] at hh
        simp only [spec_DistancesFrom.l1, wrap_succ (show y < 4611686018427387904 by omega)]
        exact ev_ift (by omega) (Ev.bind hm (ev_ift hpos (Ev.bind hh (ev_ift (by first | rfl | with_reducible exact True.intro) g))))
      · have hA := binv_add h hp (by omega) ha hq2
        obtain ⟨D', q', h1, h2⟩ := ih (y + 1) _ _ (by omega) hA (by simp; omega)
        refine ⟨D', q', h1, fun R hR => ev_succ ?_⟩
        have g := h2 R hR
        rw [get_mem_append hp] at g
        rw [decide_eq_false hq2] at hh
        have hv := h.val p hp
        have hw : wrap64 (rd D (rd q (p : Int)) + 1) = rd D (rd q (p : Int)) + 1 := by unfold wrap64; omega
        have hr := h.rng _ (mem_rd.2 ⟨p, hp, rfl⟩)
        have hlen := h.len
        simp only [spec_DistancesFrom.l1, wrap_succ (show y < 4611686018427387904 by omega), hw, Int.toNat_natCast]
        exact ev_ift (by omega) (Ev.bind hm (ev_ift hpos (Ev.bind hh (ev_iff (ev_ift (by omega) (ev_ift (by omega) (ev_ift (by omega) (ev_ift (by omega) (ev_ift (by omega) g)))))))))
    · have hpos : ¬ multI n es (rd q (p : Int)) (y : Int) > 0 := fun h' => ha ((adj_mult hb _ _).1 h')
      obtain ⟨D', q', h1, h2⟩ := ih (y + 1) D q (by omega) (binv_skip h (Or.inl ha)) hp
      refine ⟨D', q', h1, fun R hR => ev_succ ?_⟩
      have g := h2 R hR
      simp only [spec_DistancesFrom.l1, wrap_succ (show y < 4611686018427387904 by omega)]
      exact ev_ift (by omega) (Ev.bind hm (ev_ifn hpos g))
theorem distS_ex (n : Nat) (es : List S75) (hl : es.length < 4611686018427387904) (hn : n ≤ 6) (hb : ∀ e ∈ es, 0 ≤ e.f0 ∧ e.f0 < e.f1 ∧ e.f1 < n) (hC : ConnE n es) (v : Int) (hv : 0 ≤ v ∧ v < n) :
    ∃ R, Ev (fun k => spec_DistancesFrom.l0 k (List.replicate n 0) [v] 0 n es) R ∧ DistP n es v R := by
  have main : ∀ (d p : Nat) (D q : List Int), p + d = n → BInv n es v D q p 0 → ∃ R, Ev (fun k => spec_DistancesFrom.l0 k D q (p : Int) n es) R ∧ DistP n es v R := by
    intro d
    induction d with
    | zero =>
      intro p D q hp h
      have hq := binv_len h
      refine ⟨D, ev_succ ?_, binv_end hb hC hv h (by omega)⟩
      simp only [spec_DistancesFrom.l0]
      exact ev_ifn (by omega) (Ev.now _)
    | succ d ih =>
      intro p D q hp h
      by_cases c : p < q.length
      · obtain ⟨D', q', h1, h2⟩ := distL1 n es hl hn hb v p n 0 D q (by omega) h c
        obtain ⟨R, g, hR⟩ := ih (p + 1) D' q' (by omega) h1
        refine ⟨R, ev_succ ?_, hR⟩
        have g2 := h2 R g
        simp only [spec_DistancesFrom.l0]
        exact ev_ift (by omega) (ev_ift (by omega) g2)
      · refine ⟨D, ev_succ ?_, binv_end hb hC hv h (by omega)⟩
        simp only [spec_DistancesFrom.l0]
        exact ev_ifn (by omega) (Ev.now _)
  have rz : ∀ w : Int, rd (List.replicate n 0) w = 0 := fun w => by
    unfold rd
    rw [List.getD_eq_getElem?_getD, List.getElem?_replicate]
    split <;> rfl
  have r0 : rd [v] ((0 : Nat) : Int) = v := rfl
  refine main n 0 _ _ (by omega) { len := by simp, nod := by simp, rng := ?_, one := by simp, hd := r0, dv := rz v, val := ?_, mono := ?_, lim := ?_, pred := ?_, done := ?_, cur := ?_ }
  · intro w hw
    simp at hw
    omega
  · intro j hj
    rw [rz]; omega
  · intro i j _ _
    rw [rz, rz]; omega
  · intro j _ _
    rw [rz, rz]; omega
  · intro j h1 h2
    simp at h2
    omega
  · intro i h1
    omega
  · intro _ z h1 hz
    have := adj_range hb hz
    omega
def rlx (a b : Int) (o : List Int) : List Int := o.set a.toNat (mn (rd o a) (wrap64 (rd o b + 1)))
structure FInv (n : Nat) (es : List S75) (D : List Int) (k : Int) (S : Int → Int → Prop) (o : List Int) : Prop where
  len : o.length = n
  lo : ∀ w : Int, 0 ≤ w → w < n → rd D w ≤ rd o w ∧ rd o w ≤ n
  ex : ∀ w : Int, 0 ≤ w → w < n → rd D w ≤ k → rd o w = rd D w
  nx : ∀ u w : Int, S u w → 0 ≤ w → w < n → rd D u = k → rd D w = k + 1 → rd o w = rd D w
theorem rlx_len (a b : Int) (o : List Int) : (rlx a b o).length = o.length := by simp [rlx]
theorem rlx_inv {n : Nat} (hn : n ≤ 6) {es : List S75} (hb : ∀ e ∈ es, 0 ≤ e.f0 ∧ e.f0 < e.f1 ∧ e.f1 < n) {v : Int} {D : List Int} (P : DistP n es v D) {k : Int} {S : Int → Int → Prop} {o : List Int} (F : FInv n es D k S o) {a b : Int} (hab : AdjE es a b) :
    FInv n es D k (fun u w => S u w ∨ (u = b ∧ w = a)) (rlx a b o) := by
  have hr := adj_range hb hab
  have hoa := F.lo a hr.1 hr.2.1
  have hob := F.lo b hr.2.2.1 hr.2.2.2.1
  have hpa := P.pos a hr.1 hr.2.1
  have hpb := P.pos b hr.2.2.1 hr.2.2.2.1
  have hna := P.near a b hab
  have hw : wrap64 (rd o b + 1) = rd o b + 1 := by unfold wrap64; omega
  have hlen := F.len
  have hR : ∀ w : Int, 0 ≤ w → rd (rlx a b o) w = if w = a then mn (rd o a) (rd o b + 1) else rd o w := fun w h => by
    unfold rlx
    rw [rd_set o a w _ hr.1 h (by omega), hw]
  refine ⟨by rw [rlx_len, F.len], fun w h1 h2 => ?_, fun w h1 h2 h3 => ?_, fun u w hs h1 h2 h3 h4 => ?_⟩
  · rw [hR w h1]
    by_cases e : w = a
    · subst e
      rw [if_pos rfl]
      unfold mn
      split <;> omega
    · rw [if_neg e]
      exact F.lo w h1 h2
  · rw [hR w h1]
    by_cases e : w = a
    · subst e
      rw [if_pos rfl]
      have := F.ex w h1 h2 h3
      unfold mn
      split <;> omega
    · rw [if_neg e]
      exact F.ex w h1 h2 h3
  · rw [hR w h1]
    by_cases e : w = a
    · subst e
      rw [if_pos rfl]
      rcases hs with hs | ⟨rfl, _⟩
      · have := F.nx u w hs h1 h2 h3 h4
        unfold mn
        split <;> omega
      · have := F.ex u hr.2.2.1 hr.2.2.2.1 (by omega)
        unfold mn
        split <;> omega
    · rw [if_neg e]
      rcases hs with hs | ⟨_, hs⟩
      · exact F.nx u w hs h1 h2 h3 h4
      · exact absurd hs e
theorem finv_weak {n : Nat} {es : List S75} {D : List Int} {k : Int} {S S' : Int → Int → Prop} {o : List Int} (F : FInv n es D k S o) (h : ∀ u w, S' u w → S u w) : FInv n es D k S' o :=
  ⟨F.len, F.lo, F.ex, fun u w hs => F.nx u w (h u w hs)⟩
theorem finv_up {n : Nat} {es : List S75} (hb : ∀ e ∈ es, 0 ≤ e.f0 ∧ e.f0 < e.f1 ∧ e.f1 < n) {v : Int} {D : List Int} (P : DistP n es v D) {k : Int} (hk : 0 ≤ k) {o : List Int} (F : FInv n es D k (AdjE es) o) : FInv n es D (k + 1) (fun _ _ => False) o := by
  refine ⟨F.len, F.lo, fun w h1 h2 h3 => ?_, fun _ _ h => absurd h id⟩
  by_cases e : rd D w ≤ k
  · exact F.ex w h1 h2 e
  · have hw : w ≠ v := fun hh => by
      subst hh
      have := P.z
      omega
    obtain ⟨u, hu, eu⟩ := P.pre w h1 h2 hw
    exact F.nx u w hu h1 h2 (by omega) (by omega)
theorem distL2 (n : Nat) (es : List S75) (hl : es.length < 4611686018427387904) (hn : n ≤ 6) (hb : ∀ e ∈ es, 0 ≤ e.f0 ∧ e.f0 < e.f1 ∧ e.f1 < n) {v : Int} {D : List Int} (P : DistP n es v D) (k : Int) (x31 : Int) (j : Nat) (hj : j < 4611686018427387904) :
    ∀ (rest : List S75) (i : Nat) (o : List Int), i ≤ es.length → es.drop i = rest → FInv n es D k (AdjE (es.take i)) o →
      ∃ o', FInv n es D k (AdjE es) o' ∧ ∀ R, Ev (fun k => impl_DistancesFrom.l1 k o' x31 ((j + 1 : Nat) : Int) n es) R → Ev (fun k => impl_DistancesFrom.l2 k o x31 (j : Int) es (es.length : Int) (i : Int) n es) R := by
  intro rest
  induction rest with
  | nil =>
    intro i o hi hd F
    have : es.length ≤ i := drop_nil hd
    obtain rfl : i = es.length := by omega
    rw [List.take_of_length_le (Nat.le_refl _)] at F
    refine ⟨o, F, fun R hR => ev_succ ?_⟩
    simp only [impl_DistancesFrom.l2, wrap_succ hj]
    exact ev_ifn (by omega) hR
  | cons e rest ih =>
    intro i o hi hd F
    have hlt := drop_lt hd
    have hmem : e ∈ es := by
      have : e ∈ es.drop i := by rw [hd]; simp
      exact List.mem_of_mem_drop this
    have hr := hb e hmem
    have a1 : AdjE es e.f0 e.f1 := ⟨e, hmem, Or.inl ⟨rfl, rfl⟩⟩
    have F1 := rlx_inv hn hb P F a1
    have F2 := rlx_inv hn hb P F1 (adj_symm a1)
    have F3 : FInv n es D k (AdjE (es.take (i + 1))) (rlx e.f1 e.f0 (rlx e.f0 e.f1 o)) := finv_weak F2 (fun u w h => by
      obtain ⟨e', he', h'⟩ := h
      rw [take_drop hd] at he'
      rcases List.mem_append.1 he' with he' | he'
      · exact Or.inl (Or.inl ⟨e', he', h'⟩)
      · simp at he'
        subst he'
        rcases h' with ⟨h1, h2⟩ | ⟨h1, h2⟩
        · exact Or.inr ⟨h1.symm, h2.symm⟩
        · exact Or.inl (Or.inr ⟨h2.symm, h1.symm⟩))
    obtain ⟨o', G, hG⟩ := ih (i + 1) _ (by omega) (drop_next hd) F3
    refine ⟨o', G, fun R hR => ev_succ ?_⟩
    have g := hG R hR
    have l0 := F.len
    have l1 := F1.len
    simp only [impl_DistancesFrom.l2, rd_IE hd, wrap_succ (show i < 4611686018427387904 by omega), Option.bind_some]
    exact ev_ift (by omega) (ev_ift (by omega) (ev_ift (by omega) (ev_ift (by omega) (ev_ift (by omega) (ev_ift (by omega) (ev_ift (by omega) g))))))
theorem distI_ev (n : Nat) (es : List S75) (hl : es.length < 4611686018427387904) (hn : n ≤ 6) (hb : ∀ e ∈ es, 0 ≤ e.f0 ∧ e.f0 < e.f1 ∧ e.f1 < n) {v : Int} (hv : 0 ≤ v ∧ v < n) {D : List Int} (P : DistP n es v D) :
    Ev (fun k => impl_DistancesFrom.l0 k v (List.replicate n 0) (n : Int) 0 n es) D := by
  have rounds : ∀ (d j : Nat) (o : List Int), j + d = n → FInv n es D (j : Int) (fun _ _ => False) o → Ev (fun k => impl_DistancesFrom.l1 k o (n : Int) (j : Int) n es) D := by
    intro d
    induction d with
    | zero =>
      intro j o hj F
      have e : o = D := rd_ext (by rw [F.len, P.len]) (fun i hi => by
        rw [F.len] at hi
        have := P.pos (i : Int) (by omega) (by omega)
        exact F.ex (i : Int) (by omega) (by omega) (by omega))
      subst e
      refine ev_succ ?_
      simp only [impl_DistancesFrom.l1]
      exact ev_ifn (by omega) (Ev.now _)
    | succ d ih =>
      intro j o hj F
      obtain ⟨o', G, hG⟩ := distL2 n es hl hn hb P (j : Int) (n : Int) j (by omega) es 0 o (by omega) rfl (finv_weak F (fun u w h => by
        obtain ⟨e, he, _⟩ := h
        simp at he))
      have F' := finv_up hb P (by omega) G
      have g := hG D (ih (j + 1) o' (by omega) F')
      refine ev_succ ?_
      simp only [impl_DistancesFrom.l1]
      exact ev_ift (by omega) g
  have rN : ∀ (i : Nat) (w : Int), 0 ≤ w → w < i → i ≤ n → rd (List.replicate i (n : Int) ++ List.replicate (n - i) 0) w = (n : Int) := fun i w h1 h2 h3 => by
    unfold rd
    rw [List.getD_eq_getElem?_getD, List.getElem?_append_left (by simp; omega), List.getElem?_replicate, if_pos (by omega)]
    rfl
  have start : ∀ (d i : Nat), i + d = n → Ev (fun k => impl_DistancesFrom.l0 k v (List.replicate i (n : Int) ++ List.replicate (n - i) 0) (n : Int) (i : Int) n es) D := by
    intro d
    induction d with
    | zero =>
      intro i hi
      obtain rfl : i = n := by omega
      have hlen : (List.replicate i (i : Int) ++ List.replicate (i - i) 0).length = i := by simp
      have hlen2 : ((List.replicate i (i : Int) ++ List.replicate (i - i) 0).set v.toNat 0).length = i := by rw [List.length_set, hlen]
      have hS : ∀ w : Int, 0 ≤ w → w < i → rd ((List.replicate i (i : Int) ++ List.replicate (i - i) 0).set v.toNat 0) w = if w = v then 0 else (i : Int) := fun w h1 h2 => by
        rw [rd_set _ v w 0 hv.1 h1 (by omega)]
        by_cases e : w = v
        · rw [if_pos e, if_pos e]
        · rw [if_neg e, if_neg e]
          exact rN i w h1 h2 (Nat.le_refl _)
      have g := rounds i 0 _ (by omega) (⟨hlen2, fun w h1 h2 => by
        rw [hS w h1 h2]
        have := P.pos w h1 h2
        by_cases e : w = v
        · subst e
          have := P.z
          rw [if_pos rfl]; omega
        · rw [if_neg e]; omega, fun w h1 h2 h3 => by
        rw [hS w h1 h2]
        by_cases e : w = v
        · subst e
          have := P.z
          rw [if_pos rfl]; omega
        · obtain ⟨u, hu, eu⟩ := P.pre w h1 h2 e
          have hr := adj_range hb hu
          have := P.pos u hr.1 hr.2.1
          omega, fun _ _ h => absurd h id⟩ : FInv i es D ((0 : Nat) : Int) (fun _ _ => False) _)
      refine ev_succ ?_
      simp only [impl_DistancesFrom.l0, hlen]
      exact ev_ifn (by omega) (ev_ift (by omega) (ev_ift (by omega) g))
    | succ d ih =>
      intro i hi
      have g := ih (i + 1) (by omega)
      have hlen : (List.replicate i (n : Int) ++ List.replicate (n - i) 0).length = n := by simp; omega
      have hset : (List.replicate i (n : Int) ++ List.replicate (n - i) 0).set i (n : Int) = List.replicate (i + 1) (n : Int) ++ List.replicate (n - (i + 1)) 0 := by
        obtain ⟨m, hm⟩ : ∃ m, n - i = m + 1 := ⟨n - i - 1, by omega⟩
        rw [hm, show n - (i + 1) = m by omega, List.set_append_right _ _ (by simp), List.length_replicate, Nat.sub_self, List.replicate_succ, List.set_cons_zero, List.replicate_succ', List.append_assoc]
        rfl
      refine ev_succ ?_
      simp only [impl_DistancesFrom.l0, hlen, Int.toNat_natCast, hset, wrap_succ (show i < 4611686018427387904 by omega)]
      exact ev_ift (by omega) (ev_ift (by omega) (ev_ift (by omega) g))
  have g := start n 0 (by omega)
  simpa using g
theorem distances_both (n : Int) (es : List S75) (v : Int) (hL : es.length < 4611686018427387904) :
    ∃ r : List Int, Ev (fun k => impl_DistancesFrom.f k n es v) r ∧ Ev (fun k => spec_DistancesFrom.f k n es v) r ∧ r.length ≤ 6 ∧ True := by
  obtain ⟨b, h1, h2, hb⟩ := graphOk_both n es hL
  simp only [impl_DistancesFrom.f, impl_isVertex.f, spec_DistancesFrom.f, within_eq, in_eq, Option.bind_some]
  have off : Ev (fun k => spec_DistancesFrom.j0 k v true n es) ([] : List Int) := ev_succ (by
    simp only [spec_DistancesFrom.j0]
    exact ev_ift (by first | rfl | with_reducible exact True.intro) (Ev.now _))
  cases b with
  | false => exact ⟨[], Ev.bind (Ev.bind h1 (ev_iff (Ev.now _))) (ev_iff (Ev.now _)), Ev.bind h2 (ev_iff off), by simp, trivial⟩
  | true =>
    simp only [true_iff] at hb
    obtain ⟨f1, f2, f3, f4⟩ := edgesB_facts hb.1
    have ew : wrap64 (n - 1) = n - 1 := by unfold wrap64; omega
    rw [ew]
    obtain ⟨m, rfl⟩ : ∃ m : Nat, n = m := ⟨n.toNat, by omega⟩
    by_cases hv : 0 ≤ v ∧ v ≤ (m : Int) - 1
    · rw [decide_eq_true hv]
      obtain ⟨R, gs, P⟩ := distS_ex m es hL (by omega) f4 hb.2.2 v (by omega)
      have gi := distI_ev m es hL (by omega) f4 (by omega : 0 ≤ v ∧ v < m) P
      refine ⟨R, Ev.bind (Ev.bind h1 (ev_ift (by first | rfl | with_reducible exact True.intro) (Ev.now _))) (ev_ift (by first | rfl | with_reducible exact True.intro) ?_), Ev.bind h2 (ev_ift (by first | rfl | with_reducible exact True.intro) (ev_succ ?_)), by rw [P.len]; omega, trivial⟩
      · simp only [Int.toNat_natCast, List.length_replicate]
        exact ev_ift (by omega) (ev_ift (by omega) gi)
      · simp only [spec_DistancesFrom.j0, Int.toNat_natCast]
        exact ev_ifnn (ev_ift (by omega) (ev_ift (by omega) gs))
    · rw [decide_eq_false hv]
      exact ⟨[], Ev.bind (Ev.bind h1 (ev_ift (by first | rfl | with_reducible exact True.intro) (Ev.now _))) (ev_iff (Ev.now _)), Ev.bind h2 (ev_ift (by first | rfl | with_reducible exact True.intro) off), by simp, trivial⟩
end Go.Proofs.Ytchkndeeaoohpaa.Pure
end
section
set_option linter.unusedVariables false
set_option linter.unusedSimpArgs false
namespace Go.Proofs.Ytchkndeeaoohpaa.Pure
open Go.RowKit Go.Proofs.Ytchkndeeaoohpaa.P Go.Proofs.YtchkndeeaoohpaaW.PrintWords Go.Proofs.YtchkndeeaoohpaaW.PrintLast Go.Proofs.YtchkndeeaoohpaaW.PrintMore Go.Proofs.Ytchkndeeaoohpaa.Base Go.Proofs.Ytchkndeeaoohpaa.Loops
def mkI (m : Int) (n : Nat) : List Int := (List.range n).map fun i : Nat => m + (i : Int)
theorem mkI_length (m : Int) (n : Nat) : (mkI m n).length = n := by simp [mkI]
theorem mkI_drop {m : Int} {n i : Nat} (h : i < n) : (mkI m n).drop i = (m + (i : Int)) :: (mkI m n).drop (i + 1) := by
  rw [List.drop_eq_getElem_cons (by rw [mkI_length]; exact h)]
  simp [mkI]
theorem markIntS_ev (m : Int) (h0 : 0 ≤ m) (l : List Int) (hl : m + l.length < 2305843009213693952) : Ev (fun k => laws_markIntS.f k l m) (m + (l.length : Int), mkI m l.length) := by
  have main : ∀ (d k i : Nat) (x : List Int), i + d = l.length → x.length = l.length → x.take i = (mkI m l.length).take i → d < k → laws_markIntS.l0 k x (m + (i : Int)) (i : Int) = some (m + (l.length : Int), mkI m l.length) := by
    intro d
    induction d with
    | zero =>
      intro k i x hi hx ht hk
      obtain ⟨k, rfl⟩ := succ_of_lt hk
      have e : i = l.length := by omega
      subst e
      have ex : x = mkI m l.length := fill_end (by rw [mkI_length]; exact hx) (by rw [mkI_length]; exact ht)
      simp only [laws_markIntS.l0]
      rw [if_neg (by omega), ex]
    | succ d ih =>
      intro k i x hi hx ht hk
      obtain ⟨k, rfl⟩ := succ_of_lt hk
      simp only [laws_markIntS.l0]
      rw [if_pos (by omega), if_pos (by omega), wrap_succ (by omega), show wrap64 (m + (i : Int) + 1) = m + ((i + 1 : Nat) : Int) by unfold wrap64; omega, Int.toNat_natCast]
      exact ih k (i + 1) _ (by omega) (by simpa using hx) (fill_step (by rw [mkI_length]; exact hx) ht (mkI_drop (by omega))) (by omega)
  refine ev_k l.length fun k hk => ?_
  unfold laws_markIntS.f
  have h := main l.length k 0 l (by omega) rfl (by simp) hk
  rw [show m + ((0 : Nat) : Int) = m by omega] at h
  exact h
theorem heldIntS_ev (n : Nat) (hn : n < 2305843009213693952) : Ev (fun k => laws_heldIntS.f k (mkI 1 n) 1) (1 + (n : Int)) := by
  have main : ∀ (d k i : Nat), i + d = n → d < k → laws_heldIntS.l0 k (mkI 1 n) (1 + (i : Int)) (i : Int) = some (1 + (n : Int)) := by
    intro d
    induction d with
    | zero =>
      intro k i hi hk
      obtain ⟨k, rfl⟩ := succ_of_lt hk
      simp only [laws_heldIntS.l0, mkI_length]
      rw [if_neg (by omega), show (i : Int) = n by omega]
    | succ d ih =>
      intro k i hi hk
      obtain ⟨k, rfl⟩ := succ_of_lt hk
      simp only [laws_heldIntS.l0, mkI_length, rd_drop (mkI_drop (show i < n by omega))]
      rw [if_pos (by omega), if_pos (by omega), wrap_succ (by omega), show wrap64 (1 + (i : Int) + 1) = 1 + ((i + 1 : Nat) : Int) by unfold wrap64; omega]
      simp only [if_true]
      exact ih k (i + 1) (by omega) (by omega)
  refine ev_k n fun k hk => ?_
  unfold laws_heldIntS.f
  have h := main n k 0 (by omega) hk
  rw [show (1 : Int) + ((0 : Nat) : Int) = 1 by omega] at h
  exact h
theorem markGraph_ev (n : Int) (l : List S75) (hl : l.length < 2305843009213693952) : ∃ y, Ev (fun k => laws_markGraph.f k n l 1) (2 * (l.length : Int) + 1, y) := by
  have main : ∀ (d i : Nat) (x : List S75), i + d = l.length → x.length = l.length → ∃ y, ∀ k, d < k → laws_markEdgeS.l0 k x (2 * (i : Int) + 1) (i : Int) = some (2 * (l.length : Int) + 1, y) := by
    intro d
    induction d with
    | zero =>
      intro i x hi hx
      refine ⟨x, fun k hk => ?_⟩
      obtain ⟨k, rfl⟩ := succ_of_lt hk
      simp only [laws_markEdgeS.l0]
      rw [if_neg (by omega), show (i : Int) = l.length by omega]
    | succ d ih =>
      intro i x hi hx
      obtain ⟨y, hy⟩ := ih (i + 1) ((x.set i (⟨2 * (i : Int) + 1, (rd_T75 x i).f1⟩ : S75)).set i (⟨(rd_T75 (x.set i (⟨2 * (i : Int) + 1, (rd_T75 x i).f1⟩ : S75)) i).f0, wrap64 (2 * (i : Int) + 1 + 1)⟩ : S75)) (by omega) (by simpa using hx)
      refine ⟨y, fun k hk => ?_⟩
      obtain ⟨k, rfl⟩ := succ_of_lt hk
      simp only [laws_markEdgeS.l0, Option.bind_some]
      rw [if_pos (by omega), if_pos (by omega), wrap_succ (by omega), show wrap64 (wrap64 (2 * (i : Int) + 1 + 1) + 1) = 2 * ((i + 1 : Nat) : Int) + 1 by unfold wrap64; omega, Int.toNat_natCast]
      exact hy k (by omega)
  obtain ⟨y, hy⟩ := main l.length 0 l (by omega) rfl
  refine ⟨y, l.length + 1, fun k hk => ?_⟩
  dsimp only [laws_markGraph.f, laws_markEdgeS.f]
  rw [show (1 : Int) = 2 * ((0 : Nat) : Int) + 1 from rfl, show (0 : Int) = ((0 : Nat) : Int) from rfl, hy k (by omega)]
  rfl
end Go.Proofs.Ytchkndeeaoohpaa.Pure
end
section
set_option linter.unusedVariables false
set_option linter.unusedSimpArgs false
namespace Go.Proofs.Ytchkndeeaoohpaa.Pure
open Go.RowKit Go.Proofs.Ytchkndeeaoohpaa.P Go.Proofs.YtchkndeeaoohpaaW.PrintWords Go.Proofs.YtchkndeeaoohpaaW.PrintLast Go.Proofs.YtchkndeeaoohpaaW.PrintMore Go.Proofs.Ytchkndeeaoohpaa.Base Go.Proofs.Ytchkndeeaoohpaa.Loops Go.Proofs.Ytchkndeeaoohpaa.Bits
theorem FnExactDistancesFrom : StatFnExactDistancesFrom := by
  intro n l i1 ⟨_, hl, _⟩ _
  refine Ev.rounds (r := true) ?_
  unfold laws_FnExactDistancesFrom.f
  have hs := szGraph_eq n l hl 1048576 (by omega) (by omega)
  by_cases h : (l.length : Int) ≤ 1048576
  · have es : Ev (fun _ : Nat => laws_szGraph.f n l 1048576) (1048576 - (l.length : Int)) := ev_const fun _ => by rw [hs, if_pos h]
    have tg := toGraph_ev n l (by omega)
    have hm := map_cv_length l
    have hL : (l.map cvE).length < 4611686018427387904 := by omega
    obtain ⟨r, g1, g2, hr, _⟩ := distances_both n (l.map cvE) i1 hL
    have eg := eqGraph_ev n (l.map cvE) hL
    have er := eqIntS_ev r (by omega)
    obtain ⟨y, my⟩ := markGraph_ev n (l.map cvE) (by omega)
    have mr := markIntS_ev 1 (by omega) r (by omega)
    have he := heldIntS_ev r.length (by omega)
    repeat (first
      | exact Ev.now _
      | dsimp only
      | (with_reducible refine Ev.bind es ?_) | (with_reducible refine Ev.bind tg ?_) | (with_reducible refine Ev.bind g1 ?_) | (with_reducible refine Ev.bind g2 ?_) | (with_reducible refine Ev.bind eg ?_) | (with_reducible refine Ev.bind er ?_) | (with_reducible refine Ev.bind my ?_) | (with_reducible refine Ev.bind mr ?_) | (with_reducible refine Ev.bind he ?_)
      | with_reducible refine ev_ift (by first | rfl | omega) ?_
      | with_reducible refine ev_ifn (by omega) ?_
      | with_reducible refine ev_ifb ?_
      | with_reducible refine ev_ifnn ?_
      | with_reducible refine ev_iff ?_
      | (refine ev_succ ?_; simp only [if_true, laws_FnExactDistancesFrom.j0, laws_FnExactDistancesFrom.j1, laws_FnExactDistancesFrom.j2, laws_FnExactDistancesFrom.j3, laws_FnExactDistancesFrom.j4, laws_FnExactDistancesFrom.j5, laws_FnExactDistancesFrom.j6, laws_FnExactDistancesFrom.j7, laws_FnExactDistancesFrom.j8])
      )
  · have es : Ev (fun _ : Nat => laws_szGraph.f n l 1048576) (-1) := ev_const fun _ => by rw [hs, if_neg h]
    repeat (first
      | exact Ev.now _
      | dsimp only
      | (with_reducible refine Ev.bind es ?_)
      | with_reducible refine ev_ift (by first | rfl | omega) ?_
      | with_reducible refine ev_ifn (by omega) ?_
      | with_reducible refine ev_ifb ?_
      | with_reducible refine ev_ifnn ?_
      | with_reducible refine ev_iff ?_
      | (refine ev_succ ?_; simp only [if_true, laws_FnExactDistancesFrom.j0, laws_FnExactDistancesFrom.j1, laws_FnExactDistancesFrom.j2, laws_FnExactDistancesFrom.j3, laws_FnExactDistancesFrom.j4, laws_FnExactDistancesFrom.j5, laws_FnExactDistancesFrom.j6, laws_FnExactDistancesFrom.j7, laws_FnExactDistancesFrom.j8])
      )
end Go.Proofs.Ytchkndeeaoohpaa.Pure
end
