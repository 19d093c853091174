/- Functions of the program as plain Lean functions and that the machine's calls answer as they do, the words of the print that these use, lemmas and plain proofs of laws. Put together by a program of this work that leaves out what nothing uses; Lean checks it. -/
import Derived.Test.YtplcclifmajcfaaGace029dd32
import Derived.Test.YtplcclifmajcfaaGed361a54fe
section
namespace Go.Proofs.Ytplcclifmajcfaa.P
open Go.RowKit Go.Proofs.YtplcclifmajcfaaW.PrintWords Go.Proofs.YtplcclifmajcfaaW.PrintLast Go.Proofs.YtplcclifmajcfaaW.PrintMore
attribute [local go_sem] max2_int min2_int max_two min_two max_three min_three max_four min_four
set_option linter.unusedVariables false
set_option linter.unusedSimpArgs false
def spec_MakeGraph.f (k : Nat) (l0 : List Int) : Option (Int × (List (S57))) := (spec_l01New.f k l0).bind fun bt616 => ((spec_l02Graph.f k bt616.1 bt616.2.1 bt616.2.2).bind fun bt620 => (some (bt620.1, bt620.2.1)))
set_option maxHeartbeats 8000000 in
set_option maxRecDepth 100000 in
theorem spec_MakeGraph.calls (k : Nat) (A0 : Option Addr) (c0 : Nat) (l0 : List Int) (r1 : Int) (r2 : List (S57)) (w : World) (hr0 : Kd.C (Kd.int .u8) w A0 l0.length l0) (hc0 : l0.length ≤ c0) (h : spec_MakeGraph.f k l0 = some (r1, r2)) :
  Calls Try.prog 36 #[.slice A0 l0.length c0] w fun e w' => ∃ v1_ : Value, e = .returned (.agg #[.int .i64 r1, v1_]) ∧ Kd.R k57 57 w' w.heap.size (fun _ => True) v1_ r2 ∧ Below w.heap.size w w' := by
 have hu30 := Try.underlying30
 have HR0 := Aside0.mk hr0
 have HC0 := Aside0.mk hc0
 clear hr0 hc0
 have HB := Aside0.mk (Below.refl w.heap.size w)
 have H : ((spec_l01New.f k l0).bind fun bt616 => ((spec_l02Graph.f k bt616.1 bt616.2.1 bt616.2.2).bind fun bt620 => (some (bt620.1, bt620.2.1)))) = some (r1, r2) := h
 clear h
 replace H := Option.bind_eq_some_iff.mp H
 obtain ⟨⟨t616, t617, t618⟩, A20, H⟩ := H
 replace H : ((spec_l02Graph.f k t616 t617 t618).bind fun bt620 => (some (bt620.1, bt620.2.1))) = some (r1, r2) := H
 have A2 := Aside0.mk A20
 clear A20
 replace H := Option.bind_eq_some_iff.mp H
 obtain ⟨⟨t620, t621, t624, t625⟩, A30, H⟩ := H
 replace H : (some (t620, t621)) = some (r1, r2) := H
 have A3 := Aside0.mk A30
 clear A30
 simp only [Option.some.injEq, Prod.mk.injEq] at H
 obtain ⟨rfl, rfl⟩ := H
 go_enter Try.func36, Try.ntmps36
 go_wp2_with (first | ((with_reducible refine gate_dst (N := 2) rfl ?_); refine box_event ?hg (N := 2) ?hd (cs := #[.int .i64 0, .slice none 0 0]) (t := 30) ?hr ?_; (case hd => rfl); (case hg => rfl); (case hr => first | (go_simp; done) | (go_simp; rfl)); intro gb615 hg w4 hbox hb; have BK615 := Aside0.mk (hbox); have GW615 := Aside0.mk ((by rw [hg]; exact (below_size (Lz HB)) : w.heap.size ≤ gb615)); have GE615 := Aside0.mk ((by rw [hg]; exact (below_size (Lz HB)) : w.heap.size ≤ gb615)); replace HB := Aside0.mk (below_step (Lz HB) hb); clear hb hbox hg) | ((with_reducible refine gate_callee (f := 73) rfl ?_); refine goesM_ (some 4) rfl rfl Try.func73 (by kernel_rfl) rfl #[.slice A0 l0.length c0] rfl ?_; (with_reducible refine (spec_l01New.calls k _ _ l0 t616 t617 t618 w _ ?side1 ?side2 ?side3 A2.out).mono ?_); (case side1 => exact Lz1 HB GE615); (case side2 => exact HR0.out); (case side3 => exact HC0.out); rintro e w5 ⟨g619, rfl, hi, hb, hb2⟩; refine ⟨_, rfl, ?_⟩; replace HB := Aside0.mk (hb); have HI619 := Aside0.mk (hi); have NB619_615 := Aside0.mk (IsS88.ne_blk hi (blk_below (g := gb615) (o := .cells #[.int .i64 0, .slice none 0 0] 30 (0, 0)) (Bz BK615) hb2) (by decide)); have NB615_619 := Aside0.mk (Ne.symm (IsS88.ne_blk hi (blk_below (g := gb615) (o := .cells #[.int .i64 0, .slice none 0 0] 30 (0, 0)) (Bz BK615) hb2) (by decide))); replace BK615 := Aside0.mk (blk_below (g := gb615) (o := .cells #[.int .i64 0, .slice none 0 0] 30 (0, 0)) (Bz BK615) hb2); (try clear hb); (try clear hb2); (try clear hk); (try clear hi)) | ((with_reducible refine gate_callee (f := 72) rfl ?_); refine goesM_ (some 5) rfl rfl Try.func72 (by kernel_rfl) rfl #[.pointer (some ⟨g619, 0, none⟩)] rfl ?_; (with_reducible refine (spec_l02Graph.calls k g619 t616 t617 t618 t620 t621 t624 t625 w _ ?side1 ?side2 A3.out).mono ?_); (case side1 => repeat (first | (with_reducible first | exact HI619.out | apply IsS88.alloc | apply IsS88.drewN | apply IsS88.drew | apply IsS88.set_1 | apply IsS88.set_2 | refine IsS88.far ?_ NB619_615.out _) | exact HI619.out)); (case side2 => repeat (first | (with_reducible first | exact HB.out | apply below_alloc | apply pw_below_drewN | apply below_drew1 | refine below_set ?_ (IsS88.ge HI619.out) | refine below_set ?_ GE615.out) | exact HB.out)); rintro e w6 ⟨v622, rfl, ho0, hi, hb, hk⟩; refine ⟨_, rfl, ?_⟩; replace BK615 := Aside0.mk (KeepBut.blk hk (g' := gb615) (o := .cells #[.int .i64 0, .slice none 0 0] 30 (0, 0)) (Bz BK615) NB615_619.out (by simp)); have HO623 := Aside0.mk (Kd.R_lower ho0 (below_size (by repeat (first | (with_reducible first | exact HB.out | apply below_alloc | apply pw_below_drewN | apply below_drew1 | refine below_set ?_ (IsS88.ge HI619.out) | refine below_set ?_ GE615.out) | exact HB.out)))); replace HB := Aside0.mk (hb); replace HI619 := Aside0.mk (hi); (try clear hb); (try clear ho0); have hnb7 := NB615_619.out; have hnc7 := NB619_615.out; have hcz8_0 : w6.cell? ⟨gb615, 0, none⟩ = some (.int .i64 0) := (blk_cell BK615.out 0).trans rfl; have hcz8_1 : w6.cell? ⟨gb615, 1, none⟩ = some (.slice none 0 0) := (blk_cell BK615.out 1).trans rfl; have hfz8_0 := blk_frozen BK615.out 0; have hfz8_1 := blk_frozen BK615.out 1; obtain ⟨Ao9, co9, eo9⟩ := Kd.R_slice HO623.out; subst eo9))
 refine bodyPost_ret (results_cell_row rfl _ _ gb615 30 #[.int .i64 t620, .slice Ao9 t621.length co9] (0, 0) _ rfl (by (with_reducible repeat (first | refine blk_drewN ?_ _ | refine blk_drew ?_ | refine blk_alloc ?_ _)); refine blk_put (cs := #[.int .i64 t620, .slice none 0 0]) ?_ 1 _ rfl; (with_reducible repeat (first | refine blk_drewN ?_ _ | refine blk_drew ?_ | refine blk_alloc ?_ _)); refine blk_put (cs := #[.int .i64 0, .slice none 0 0]) ?_ 0 _ rfl; exact Bz BK615) Try.underlying30 rfl (by kernel_rfl)) rfl ?_
 exact ⟨_, by first | rfl | (simp [errW_none, errW_some] <;> rfl) | (simp [*, errW_none, errW_some] <;> rfl), by (with_reducible repeat (first | apply Kd.R_alloc | apply Kd.R_drewN | apply Kd.R_drew)); exact Kd.R_mono (Kd.R_far (p := ⟨gb615, 1, none⟩) (Kd.R_far (p := ⟨gb615, 0, none⟩) (Kd.R_types HO623.out BK615.out (by decide)) (fun _ hk => hk.2) (.int .i64 t620)) (fun _ hk => hk.2) (.slice Ao9 t621.length co9)) (fun _ hk => trivial), by repeat (first | (with_reducible first | exact HB.out | apply below_alloc | apply pw_below_drewN | apply below_drew1 | refine below_set ?_ (IsS88.ge HI619.out) | refine below_set ?_ GE615.out) | exact HB.out)⟩
def impl_isVertex.f (k : Nat) (a0_0 : Int) (l0_1 : List (S57)) (a1 : Int) : Option (Bool) := (impl_GraphOk.f k a0_0 l0_1).bind fun t389 => (if t389 = true then ((impl_within.f a1 0 (wrap64 (a0_0 - 1))).bind fun t390 => (some t390)) else (some false))
set_option maxHeartbeats 8000000 in
set_option maxRecDepth 100000 in
theorem impl_isVertex.calls (k : Nat) (a0_0 : Int) (A0_1 : Option Addr) (c0_1 : Nat) (l0_1 : List (S57)) (a1 : Int) (r : Bool) (w : World) (hr0_1 : Kd.C k57 w A0_1 l0_1.length l0_1) (hc0_1 : l0_1.length ≤ c0_1) (h : impl_isVertex.f k a0_0 l0_1 a1 = some r) :
  Calls Try.prog 64 #[.agg #[.int .i64 a0_0, .slice A0_1 l0_1.length c0_1], .int .i64 a1] w fun e w' => e = .returned (.bool r) ∧ Below w.heap.size w w' := by
 have hu30 := Try.underlying30
 have HR0_1 := Aside0.mk hr0_1
 have HC0_1 := Aside0.mk hc0_1
 clear hr0_1 hc0_1
 have HB := Aside0.mk (Below.refl w.heap.size w)
 have H : ((impl_GraphOk.f k a0_0 l0_1).bind fun t389 => (if t389 = true then ((impl_within.f a1 0 (wrap64 (a0_0 - 1))).bind fun t390 => (some t390)) else (some false))) = some r := h
 clear h
 replace H := Option.bind_eq_some_iff.mp H
 obtain ⟨t389, A30, H⟩ := H
 replace H : (if t389 = true then ((impl_within.f a1 0 (wrap64 (a0_0 - 1))).bind fun t390 => (some t390)) else (some false)) = some r := H
 have A3 := Aside0.mk A30
 clear A30
 by_cases c4 : t389 = true
 ·subst c4
  have H1 : ((impl_within.f a1 0 (wrap64 (a0_0 - 1))).bind fun t390 => (some t390)) = some r := by rw [if_pos rfl] at H; exact H
  clear H
  have H := H1
  clear H1
  replace H := Option.bind_eq_some_iff.mp H
  obtain ⟨t390, A50, H⟩ := H
  replace H : (some t390) = some r := H
  have A5 := Aside0.mk A50
  clear A50
  obtain rfl := Option.some.inj H
  go_enter Try.func64, Try.ntmps64
  go_wp2_with (first | ((with_reducible refine gate_dst (N := 2) rfl ?_); refine box_event ?hg (N := 2) ?hd (cs := #[.int .i64 a0_0, .slice A0_1 l0_1.length c0_1]) (t := 30) ?hr ?_; (case hd => rfl); (case hg => rfl); (case hr => first | (go_simp; done) | (go_simp; rfl)); intro gb388 hg w6 hbox hb; have BK388 := Aside0.mk (hbox); have GW388 := Aside0.mk ((by rw [hg]; exact (below_size (Lz HB)) : w.heap.size ≤ gb388)); have GE388 := Aside0.mk ((by rw [hg]; exact (below_size (Lz HB)) : w.heap.size ≤ gb388)); replace HB := Aside0.mk (below_step (Lz HB) hb); clear hb hbox hg; have hcz7_0 : w6.cell? ⟨gb388, 0, none⟩ = some (.int .i64 a0_0) := (blk_cell BK388.out 0).trans rfl; have hcz7_1 : w6.cell? ⟨gb388, 1, none⟩ = some (.slice A0_1 l0_1.length c0_1) := (blk_cell BK388.out 1).trans rfl; have hfz7_0 := blk_frozen BK388.out 0; have hfz7_1 := blk_frozen BK388.out 1) | ((with_reducible refine gate_callee (f := 38) rfl ?_); refine goesM_ (some 6) rfl rfl Try.func38 (by kernel_rfl) rfl #[.agg #[.int .i64 a0_0, .slice A0_1 l0_1.length c0_1]] rfl ?_; (with_reducible refine (impl_GraphOk.calls k a0_0 _ _ l0_1 true _ ?side1 ?side2 A3.out).mono ?_); (case side1 => exact Cz ((Kd.C_below HR0_1.out HB.out))); (case side2 => exact HC0_1.out); rintro e w8 ⟨rfl, hb⟩; refine ⟨_, rfl, ?_⟩; replace BK388 := Aside0.mk (blk_below (g := gb388) (o := .cells #[.int .i64 a0_0, .slice A0_1 l0_1.length c0_1] 30 (0, 0)) (Bz BK388) hb); replace HB := Aside0.mk (below_step (by exact Lz1 HB GE388) hb); (try clear hb); (try clear hb2); (try clear hk); (try clear hi); have hcz9_0 : w8.cell? ⟨gb388, 0, none⟩ = some (.int .i64 a0_0) := (blk_cell BK388.out 0).trans rfl; have hcz9_1 : w8.cell? ⟨gb388, 1, none⟩ = some (.slice A0_1 l0_1.length c0_1) := (blk_cell BK388.out 1).trans rfl; have hfz9_0 := blk_frozen BK388.out 0; have hfz9_1 := blk_frozen BK388.out 1) | (go_at_call 68; (with_reducible refine (impl_within.calls a1 0 (wrap64 (a0_0 - 1)) t390 _ A5.out).mono ?_); rintro e w' ⟨rfl, ⟨nd, rfl⟩⟩))
  go_ret
  exact ⟨by first | rfl | (simp [errW_none, errW_some] <;> rfl) | (simp [*, errW_none, errW_some] <;> rfl), by exact Lz1 HB GE388⟩
 replace c4 := Bool.eq_false_iff.mpr c4
 subst c4
 have H1 : (some false) = some r := by rw [if_neg (show ¬ (false = true) by decide)] at H; exact H
 clear H
 have H := H1
 clear H1
 obtain rfl := Option.some.inj H
 go_enter Try.func64, Try.ntmps64
 go_wp2_with (first | ((with_reducible refine gate_dst (N := 2) rfl ?_); refine box_event ?hg (N := 2) ?hd (cs := #[.int .i64 a0_0, .slice A0_1 l0_1.length c0_1]) (t := 30) ?hr ?_; (case hd => rfl); (case hg => rfl); (case hr => first | (go_simp; done) | (go_simp; rfl)); intro gb388 hg w10 hbox hb; have BK388 := Aside0.mk (hbox); have GW388 := Aside0.mk ((by rw [hg]; exact (below_size (Lz HB)) : w.heap.size ≤ gb388)); have GE388 := Aside0.mk ((by rw [hg]; exact (below_size (Lz HB)) : w.heap.size ≤ gb388)); replace HB := Aside0.mk (below_step (Lz HB) hb); clear hb hbox hg; have hcz11_0 : w10.cell? ⟨gb388, 0, none⟩ = some (.int .i64 a0_0) := (blk_cell BK388.out 0).trans rfl; have hcz11_1 : w10.cell? ⟨gb388, 1, none⟩ = some (.slice A0_1 l0_1.length c0_1) := (blk_cell BK388.out 1).trans rfl; have hfz11_0 := blk_frozen BK388.out 0; have hfz11_1 := blk_frozen BK388.out 1) | ((with_reducible refine gate_callee (f := 38) rfl ?_); refine goesM_ (some 6) rfl rfl Try.func38 (by kernel_rfl) rfl #[.agg #[.int .i64 a0_0, .slice A0_1 l0_1.length c0_1]] rfl ?_; (with_reducible refine (impl_GraphOk.calls k a0_0 _ _ l0_1 false _ ?side1 ?side2 A3.out).mono ?_); (case side1 => exact Cz ((Kd.C_below HR0_1.out HB.out))); (case side2 => exact HC0_1.out); rintro e w12 ⟨rfl, hb⟩; refine ⟨_, rfl, ?_⟩; replace BK388 := Aside0.mk (blk_below (g := gb388) (o := .cells #[.int .i64 a0_0, .slice A0_1 l0_1.length c0_1] 30 (0, 0)) (Bz BK388) hb); replace HB := Aside0.mk (below_step (by exact Lz1 HB GE388) hb); (try clear hb); (try clear hb2); (try clear hk); (try clear hi)))
 go_ret
 exact ⟨by first | rfl | (simp [errW_none, errW_some] <;> rfl) | (simp [*, errW_none, errW_some] <;> rfl), by exact Lz1 HB GE388⟩
mutual
def impl_DistancesFrom.l0 : Nat → Int → List Int → Int → Int → Int → List (S57) → Option (List Int)
 | 0, _, _, _, _, _, _ => none
 | k + 1, x1, x5, x17, x18, x627000, x627001 => if x18 < x17 then (if 0 ≤ x18 then (if x18 < (x5.length : Int) then (impl_DistancesFrom.l0 k x1 (x5.set (x18 : Int).toNat x627000) x17 (wrap64 (x18 + 1)) x627000 x627001) else (none)) else (none)) else (if 0 ≤ x1 then (if x1 < (x5.length : Int) then (impl_DistancesFrom.l1 k (x5.set (x1 : Int).toNat 0) (x5.length : Int) 0 x627000 x627001) else (none)) else (none))
def impl_DistancesFrom.l1 : Nat → List Int → Int → Int → Int → List (S57) → Option (List Int)
 | 0, _, _, _, _, _ => none
 | k + 1, x5, x31, x32, x627000, x627001 => if x32 < x31 then (impl_DistancesFrom.l2 k x5 x31 x32 x627001 (x627001.length : Int) 0 x627000 x627001) else (some x5)
def impl_DistancesFrom.l2 : Nat → List Int → Int → Int → List (S57) → Int → Int → Int → List (S57) → Option (List Int)
 | 0, _, _, _, _, _, _, _, _ => none
 | k + 1, x5, x31, x32, x35, x36, x37, x627000, x627001 => if x37 < x36 then (if 0 ≤ x37 then (if x37 < (x35.length : Int) then (if 0 ≤ ((rd_T57 x35 x37).f0) then (if ((rd_T57 x35 x37).f0) < (x5.length : Int) then (if 0 ≤ ((rd_T57 x35 x37).f1) then (if ((rd_T57 x35 x37).f1) < (x5.length : Int) then ((some (x5.set (((rd_T57 x35 x37).f0) : Int).toNat (mn (rd x5 ((rd_T57 x35 x37).f0)) (wrap64 ((rd x5 ((rd_T57 x35 x37).f1)) + 1))) : List Int)).bind fun y637 => (impl_DistancesFrom.l2 k (y637.set (((rd_T57 x35 x37).f1) : Int).toNat (mn (rd y637 ((rd_T57 x35 x37).f1)) (wrap64 ((rd y637 ((rd_T57 x35 x37).f0)) + 1)))) x31 x32 x35 x36 (wrap64 (x37 + 1)) x627000 x627001)) else (none)) else (none)) else (none)) else (none)) else (none)) else (none)) else (impl_DistancesFrom.l1 k x5 x31 (wrap64 (x32 + 1)) x627000 x627001)
end
def impl_DistancesFrom.f (k : Nat) (a0_0 : Int) (l0_1 : List (S57)) (a1 : Int) : Option (List Int) := (impl_isVertex.f k a0_0 l0_1 a1).bind fun t627 => (if t627 = true then (if 0 ≤ a0_0 then (if (a0_0 : Int).toNat ≤ 35184372088832 then ((some (List.replicate (a0_0 : Int).toNat 0 : List Int)).bind fun y628 => (impl_DistancesFrom.l0 k a1 y628 (y628.length : Int) 0 a0_0 l0_1)) else (none)) else (none)) else (some ([] : List Int)))
def impl_DistancesFrom.T15 : Bool × List (List Nat × List Nat) := (true, [([], []), ([], []), ([1], [1]), ([], []), ([], []), ([4], [4]), ([3, 5], [3, 5]), ([6], [6]), ([], []), ([], []), ([9], [9]), ([8, 10], [8, 10]), ([11], [11]), ([12], [12]), ([7, 13], [7, 13]), ([0, 2, 0, 1, 2, 3, 4, 5, 6, 7, 8, 9, 10, 11, 12, 13, 14], [0, 2]), ([15, 14, 0, 1, 2, 3, 4, 5, 6, 7, 8, 9, 10, 11, 12, 13, 14], [14, 15])])
def impl_DistancesFrom.B15 : List Nat := [0, 0, 2, 0, 0, 16, 56, 120, 0, 0, 512, 1792, 3840, 7936, 16376, 32767, 65535]
theorem impl_DistancesFrom.tab15 : rtab .any (opsOf Try.f42 15) = impl_DistancesFrom.T15 := by kernel_rfl
theorem impl_DistancesFrom.bits15 : waitsOk impl_DistancesFrom.T15.2 impl_DistancesFrom.B15 = true := by kernel_rfl
def impl_DistancesFrom.T16 : Bool × List (List Nat × List Nat) := (true, [([], []), ([], []), ([1], [1]), ([], []), ([], []), ([4], [4]), ([3, 5], [3, 5]), ([6], [6]), ([], []), ([], []), ([9], [9]), ([8, 10], [8, 10]), ([11], [11]), ([12], [12]), ([7, 13], [7, 13]), ([0, 2, 0, 1, 2, 3, 4, 5, 6, 7, 8, 9, 10, 11, 12, 13, 14], [0, 2]), ([15, 14, 0, 1, 2, 3, 4, 5, 6, 7, 8, 9, 10, 11, 12, 13, 14], [14, 15])])
def impl_DistancesFrom.B16 : List Nat := [0, 0, 2, 0, 0, 16, 56, 120, 0, 0, 512, 1792, 3840, 7936, 16376, 32767, 65535]
theorem impl_DistancesFrom.tab16 : rtab .any (opsOf Try.f42 16) = impl_DistancesFrom.T16 := by kernel_rfl
theorem impl_DistancesFrom.bits16 : waitsOk impl_DistancesFrom.T16.2 impl_DistancesFrom.B16 = true := by kernel_rfl
set_option maxHeartbeats 8000000 in
set_option maxRecDepth 100000 in
theorem impl_DistancesFrom.calls (k : Nat) (a0_0 : Int) (A0_1 : Option Addr) (c0_1 : Nat) (l0_1 : List (S57)) (a1 : Int) (r : List Int) (w : World) (hr0_1 : Kd.C k57 w A0_1 l0_1.length l0_1) (hc0_1 : l0_1.length ≤ c0_1) (h : impl_DistancesFrom.f k a0_0 l0_1 a1 = some r) :
  Calls Try.prog 42 #[.agg #[.int .i64 a0_0, .slice A0_1 l0_1.length c0_1], .int .i64 a1] w fun e w' => ∃ v0_ : Value, e = .returned (v0_) ∧ Kd.R (Kd.int .i64) 3 w' w.heap.size (fun _ => True) v0_ r ∧ Below w.heap.size w w' := by
 have hu30 := Try.underlying30
 have hu57 := Try.underlying57
 have HR0_1 := Aside0.mk hr0_1
 have HC0_1 := Aside0.mk hc0_1
 clear hr0_1 hc0_1
 have HB := Aside0.mk (Below.refl w.heap.size w)
 have H : ((impl_isVertex.f k a0_0 l0_1 a1).bind fun t627 => (if t627 = true then (if 0 ≤ a0_0 then (if (a0_0 : Int).toNat ≤ 35184372088832 then ((some (List.replicate (a0_0 : Int).toNat 0 : List Int)).bind fun y628 => (impl_DistancesFrom.l0 k a1 y628 (y628.length : Int) 0 a0_0 l0_1)) else (none)) else (none)) else (some ([] : List Int)))) = some r := h
 clear h
 replace H := Option.bind_eq_some_iff.mp H
 obtain ⟨t627, A30, H⟩ := H
 replace H : (if t627 = true then (if 0 ≤ a0_0 then (if (a0_0 : Int).toNat ≤ 35184372088832 then ((some (List.replicate (a0_0 : Int).toNat 0 : List Int)).bind fun y628 => (impl_DistancesFrom.l0 k a1 y628 (y628.length : Int) 0 a0_0 l0_1)) else (none)) else (none)) else (some ([] : List Int))) = some r := H
 have A3 := Aside0.mk A30
 clear A30
 by_cases c4 : t627 = true
 ·subst c4
  have H1 : (if 0 ≤ a0_0 then (if (a0_0 : Int).toNat ≤ 35184372088832 then ((some (List.replicate (a0_0 : Int).toNat 0 : List Int)).bind fun y628 => (impl_DistancesFrom.l0 k a1 y628 (y628.length : Int) 0 a0_0 l0_1)) else (none)) else (none)) = some r := by rw [if_pos rfl] at H; exact H
  clear H
  have H := H1
  clear H1
  by_cases c5 : 0 ≤ a0_0
  ·rw [if_pos c5] at H
   have c5b0 := eq_true c5
   have c5b1 : decide (0 ≤ a0_0) = true := decide_eq_true c5
   clear c5
   by_cases c6 : (a0_0 : Int).toNat ≤ 35184372088832
   ·rw [if_pos c6] at H
    have c6b0 := eq_true c6
    have c6b1 : decide ((a0_0 : Int).toNat ≤ 35184372088832) = true := decide_eq_true c6
    clear c6
    obtain ⟨y628, hy628⟩ : ∃ y_ : List Int, y_ = (List.replicate (a0_0 : Int).toNat 0) := ⟨_, rfl⟩
    replace H : (impl_DistancesFrom.l0 k a1 y628 (y628.length : Int) 0 a0_0 l0_1) = some r := by first | (rw [hy628]; with_reducible exact H) | (have H2_ := (Option.bind_some _ _).symm.trans H; rw [hy628]; with_reducible exact H2_) | (have H2_ := (Option.bind_some _ _).symm.trans H; with_reducible exact H2_) | with_reducible exact H | (rw [hy628]; exact H) | exact H
    have Ny628 := Aside0.mk hy628
    clear hy628
    have H' := Aside0.mk H
    clear H
    go_enter Try.func42, Try.ntmps42
    go_wp2_with (first | ((with_reducible refine gate_dst (N := 2) rfl ?_); refine box_event ?hg (N := 2) ?hd (cs := #[.int .i64 a0_0, .slice A0_1 l0_1.length c0_1]) (t := 30) ?hr ?_; (case hd => rfl); (case hg => rfl); (case hr => first | (go_simp; done) | (go_simp; rfl)); intro gb626 hg w7 hbox hb; have BK626 := Aside0.mk (hbox); have GW626 := Aside0.mk ((by rw [hg]; exact (below_size (Lz HB)) : w.heap.size ≤ gb626)); have GE626 := Aside0.mk ((by rw [hg]; exact (below_size (Lz HB)) : w.heap.size ≤ gb626)); replace HB := Aside0.mk (below_step (Lz HB) hb); clear hb hbox hg; have hcz8_0 : w7.cell? ⟨gb626, 0, none⟩ = some (.int .i64 a0_0) := (blk_cell BK626.out 0).trans rfl; have hcz8_1 : w7.cell? ⟨gb626, 1, none⟩ = some (.slice A0_1 l0_1.length c0_1) := (blk_cell BK626.out 1).trans rfl; have hfz8_0 := blk_frozen BK626.out 0; have hfz8_1 := blk_frozen BK626.out 1) | ((with_reducible refine gate_callee (f := 64) rfl ?_); refine goesM_ (some 11) rfl rfl Try.func64 (by kernel_rfl) rfl #[.agg #[.int .i64 a0_0, .slice A0_1 l0_1.length c0_1], .int .i64 a1] rfl ?_; (with_reducible refine (impl_isVertex.calls k a0_0 _ _ l0_1 a1 true _ ?side1 ?side2 A3.out).mono ?_); (case side1 => exact Cz ((Kd.C_below HR0_1.out HB.out))); (case side2 => exact HC0_1.out); rintro e w9 ⟨rfl, hb⟩; refine ⟨_, rfl, ?_⟩; replace BK626 := Aside0.mk (blk_below (g := gb626) (o := .cells #[.int .i64 a0_0, .slice A0_1 l0_1.length c0_1] 30 (0, 0)) (Bz BK626) hb); replace HB := Aside0.mk (below_step (by exact Lz1 HB GE626) hb); (try clear hb); (try clear hb2); (try clear hk); (try clear hi); have hcz10_0 : w9.cell? ⟨gb626, 0, none⟩ = some (.int .i64 a0_0) := (blk_cell BK626.out 0).trans rfl; have hcz10_1 : w9.cell? ⟨gb626, 1, none⟩ = some (.slice A0_1 l0_1.length c0_1) := (blk_cell BK626.out 1).trans rfl; have hfz10_0 := blk_frozen BK626.out 0; have hfz10_1 := blk_frozen BK626.out 1) | ((with_reducible refine gate_dst (N := 15) rfl ?_); refine Kd.R_make (Kd.int .i64) _ 3 rfl (N := 15) rfl 37 _ _ rfl a0_0 rfl rfl Try.underlying37 (.int .i64 0) 8 info3 rfl (by decide) (by omega) 0 (ok := fun _ => True) (okp := fun _ => True) rfl (fun _ hk => hk) trivial (ofA) (Nat.le_trans (Nat.mul_le_mul_right _ (ofA : a0_0.toNat ≤ 35184372088832)) (by omega)) (Below.refl _ _) (Nat.le_refl _) ?_; intro v629 w11 ho12 hb hg_ hnew_; clear hg_ hnew_; (first | rw [← Ny628.out] at ho12 | (simp only [Int.reduceToNat] at ho12; rw [← Ny628.out] at ho12)); have HO630 := Aside0.mk (Kd.R_lower ho12 (below_size (by exact Lz1 HB GE626))); replace BK626 := Aside0.mk (blk_below (g := gb626) (o := .cells #[.int .i64 a0_0, .slice A0_1 l0_1.length c0_1] 30 (0, 0)) (Bz BK626) hb); replace HB := Aside0.mk (below_step (by exact Lz1 HB GE626) hb); clear hb ho12; obtain ⟨Ao13, co13, eo13⟩ := Kd.R_slice HO630.out; subst eo13))
    go_loopg [18] k (fun kq v18 w' => ∃ (x5_1 : List Int) (x18_1 : Int), v18 = .int .i64 x18_1 ∧ Aside0 (impl_DistancesFrom.l0 kq a1 x5_1 (y628.length : Int) x18_1 a0_0 l0_1 = some r) ∧ Aside0 (kq ≤ k) ∧ Aside0 (Kd.R (Kd.int .i64) 3 w' w.heap.size (fun _ => True) (.slice Ao13 y628.length co13) x5_1) ∧ Aside0 (w'.heap[gb626]? = some (.cells #[.int .i64 a0_0, (.slice A0_1 l0_1.length c0_1)] 30 (0, 0))) ∧ Aside0 (Below w.heap.size w w'))
    case atStart => exact ⟨(y628), (0), eqA, H', ⟨Nat.le_refl _⟩, ⟨by exact Rz HO630⟩, ⟨by exact Bz BK626⟩, ⟨by exact Lz1 HB GE626⟩⟩
    case round =>
     clear H'
     try clear c4
     try clear c5
     try clear c5b0
     try clear c5b1
     try clear c6
     try clear c6b0
     try clear c6b1
     obtain ⟨x5_1, x18_1, rfl, HA, HK1, HO_5, BK626, HB⟩ := hrel
     have hl5_1 := (Kd.R_reads' HO_5.out).1
     rw [hl5_1] at HO_5
     (try simp only [hl5_1])
     (try simp only [hl5_1] at BK626)
     cases gk with
     | zero => exact absurd HA.out (by simp [impl_DistancesFrom.l0])
     | succ k1 =>
      have H := HA.out
      clear HA
      simp only [impl_DistancesFrom.l0] at H
      by_cases c14 : x18_1 < (y628.length : Int)
      ·rw [if_pos c14] at H
       have c14b0 : decide (x18_1 < (y628.length : Int)) = true := decide_eq_true c14
       (try simp only [hl5_1] at c14b0); (try simp only [hl5_2] at c14b0); (try simp only [hl5_3] at c14b0)
       clear c14
       by_cases c15 : 0 ≤ x18_1
       ·rw [if_pos c15] at H
        have c15b0 : decide (0 ≤ x18_1) = true := decide_eq_true c15
        clear c15
        by_cases c16 : x18_1 < (x5_1.length : Int)
        ·rw [if_pos c16] at H
         have c16b0 : decide (x18_1 < (x5_1.length : Int)) = true := decide_eq_true c16
         (try simp only [hl5_1] at c16b0); (try simp only [hl5_2] at c16b0); (try simp only [hl5_3] at c16b0)
         clear c16
         obtain ⟨y631, hy631⟩ : ∃ y_ : List Int, y_ = (x5_1.set (x18_1 : Int).toNat a0_0) := ⟨_, rfl⟩
         replace H : (impl_DistancesFrom.l0 k1 a1 y631 (y628.length : Int) (wrap64 (x18_1 + 1)) a0_0 l0_1) = some r := by first | (rw [hy631]; with_reducible exact H) | (have H2_ := (Option.bind_some _ _).symm.trans H; rw [hy631]; with_reducible exact H2_) | (have H2_ := (Option.bind_some _ _).symm.trans H; with_reducible exact H2_) | with_reducible exact H | (rw [hy631]; exact H) | exact H
         have Ny631 := Aside0.mk hy631
         clear hy631
         have H' := Aside0.mk H
         clear H
         have hcz18_0 : wr.cell? ⟨gb626, 0, none⟩ = some (.int .i64 a0_0) := (blk_cell BK626.out 0).trans rfl
         have hcz18_1 : wr.cell? ⟨gb626, 1, none⟩ = some (.slice A0_1 l0_1.length c0_1) := (blk_cell BK626.out 1).trans rfl
         have hfz18_0 := blk_frozen BK626.out 0
         have hfz18_1 := blk_frozen BK626.out 1
         have p17 : 0 ≤ (x18_1 : Int) := ofA
         have q17 : (x18_1 : Int) < ((x5_1.length : Int) : Int) := ofA
         obtain ⟨go17, co17, eo17, gb17, gl17, cl17, HG17⟩ := Kd.R_form HO_5.out (by omega)
         (first | cases eo17 | (injection eo17 with ea_ en_ ec_; (first | subst ea_ | (injection ea_ with ea_; subst ea_)); subst ec_; clear en_))
         have GB17 := Aside0.mk gb17
         have GG17 := Aside0.mk HG17
         clear gb17 gl17 HG17
         obtain ⟨hx17_0, hf17_0⟩ := Kd.R_celln 0 HO_5.out (x18_1 : Int) p17 q17
         replace p17 := eq_true p17
         replace q17 := eq_true q17
         have HP19 := Kd.R_putg HO_5.out (x18_1 : Int) a0_0
         go_wp2_with (first | ((with_reducible refine gate_store (t := 3) (p := 25) rfl ?_); refine store_event (t := 3) (p := 25) (v := ?vo_w20) (w1 := (wr.setCell ⟨go17, (x18_1 : Int).toNat, none⟩ (.int .i64 a0_0))) ?hg ?ho ?hn ?hr ?_; (case ho => rfl); (case hg => rfl); (case hn => rfl); (case hr => first | (go_simp; done) | (go_simp; rfl)); intro w20 hw; have hg : wr.grownBy w20 (some go17) := (by rw [hw]; exact HP19.2); have hp_ : Kd.R (Kd.int .i64) 3 w20 w.heap.size (fun _ => True) (.slice (some ⟨go17, 0, none⟩) x5_1.length co13) y631 := (by rw [hw, Ny631.out]; exact HP19.1); clear HP19; replace BK626 := Aside0.mk (blk_grown (g := gb626) (o := .cells #[.int .i64 a0_0, .slice A0_1 l0_1.length c0_1] 30 (0, 0)) (Bz BK626) hg (Kd.R_ne HO_5.out BK626.out (by decide))); replace HO_5 := Aside0.mk (hp_); replace HB := Aside0.mk ((by rw [hw]; exact below_set (HB.out) GB17.out : Below w.heap.size w w20)); clear hg hw hp_))
         (try simp only [← hl5_1])
         go_roundg k1
         case measure => have := HK1.out; omega
         case rel => exact ⟨(y631), (wrap64 (x18_1 + 1)), eqA, H', ⟨by have := HK1.out; omega⟩, ⟨by (try simp only [hl5_1]); exact Rz HO_5⟩, ⟨by (try simp only [hl5_1]); exact Bz BK626⟩, ⟨by exact Lz1 HB GE626⟩⟩
        rw [if_neg c16] at H
        exact absurd H (by simp)
       rw [if_neg c15] at H
       exact absurd H (by simp)
      rw [if_neg c14] at H
      have c14b0 : decide (x18_1 < (y628.length : Int)) = false := decide_eq_false c14
      (try simp only [hl5_1] at c14b0); (try simp only [hl5_2] at c14b0); (try simp only [hl5_3] at c14b0)
      clear c14
      by_cases c21 : 0 ≤ a1
      ·rw [if_pos c21] at H
       have c21b0 : decide (0 ≤ a1) = true := decide_eq_true c21
       clear c21
       by_cases c22 : a1 < (x5_1.length : Int)
       ·rw [if_pos c22] at H
        have c22b0 : decide (a1 < (x5_1.length : Int)) = true := decide_eq_true c22
        (try simp only [hl5_1] at c22b0); (try simp only [hl5_2] at c22b0); (try simp only [hl5_3] at c22b0)
        clear c22
        obtain ⟨y632, hy632⟩ : ∃ y_ : List Int, y_ = (x5_1.set (a1 : Int).toNat 0) := ⟨_, rfl⟩
        replace H : (impl_DistancesFrom.l1 k1 y632 (x5_1.length : Int) 0 a0_0 l0_1) = some r := by first | (rw [hy632]; with_reducible exact H) | (have H2_ := (Option.bind_some _ _).symm.trans H; rw [hy632]; with_reducible exact H2_) | (have H2_ := (Option.bind_some _ _).symm.trans H; with_reducible exact H2_) | with_reducible exact H | (rw [hy632]; exact H) | exact H
        have Ny632 := Aside0.mk hy632
        clear hy632
        have H' := Aside0.mk H
        clear H
        have p23 : 0 ≤ (a1 : Int) := ofA
        have q23 : (a1 : Int) < ((x5_1.length : Int) : Int) := ofA
        obtain ⟨go23, co23, eo23, gb23, gl23, cl23, HG23⟩ := Kd.R_form HO_5.out (by omega)
        (first | cases eo23 | (injection eo23 with ea_ en_ ec_; (first | subst ea_ | (injection ea_ with ea_; subst ea_)); subst ec_; clear en_))
        have GB23 := Aside0.mk gb23
        have GG23 := Aside0.mk HG23
        clear gb23 gl23 HG23
        obtain ⟨hx23_0, hf23_0⟩ := Kd.R_celln 0 HO_5.out (a1 : Int) p23 q23
        replace p23 := eq_true p23
        replace q23 := eq_true q23
        have HP24 := Kd.R_putg HO_5.out (a1 : Int) 0
        go_wp2_with (first | ((with_reducible refine gate_store (t := 3) (p := 29) rfl ?_); refine store_event (t := 3) (p := 29) (v := ?vo_w25) (w1 := (wr.setCell ⟨go23, (a1 : Int).toNat, none⟩ (.int .i64 0))) ?hg ?ho ?hn ?hr ?_; (case ho => rfl); (case hg => rfl); (case hn => rfl); (case hr => first | (go_simp; done) | (go_simp; rfl)); intro w25 hw; have hg : wr.grownBy w25 (some go23) := (by rw [hw]; exact HP24.2); have hp_ : Kd.R (Kd.int .i64) 3 w25 w.heap.size (fun _ => True) (.slice (some ⟨go23, 0, none⟩) x5_1.length co13) y632 := (by rw [hw, Ny632.out]; exact HP24.1); clear HP24; replace BK626 := Aside0.mk (blk_grown (g := gb626) (o := .cells #[.int .i64 a0_0, .slice A0_1 l0_1.length c0_1] 30 (0, 0)) (Bz BK626) hg (Kd.R_ne HO_5.out BK626.out (by decide))); replace HO_5 := Aside0.mk (hp_); replace HB := Aside0.mk ((by rw [hw]; exact below_set (HB.out) GB23.out : Below w.heap.size w w25)); clear hg hw hp_))
        go_loopg [32] k1 (fun kq v32 w' => ∃ (x5_2 : List Int) (x32_2 : Int), v32 = .int .i64 x32_2 ∧ Aside0 (impl_DistancesFrom.l1 kq x5_2 (x5_1.length : Int) x32_2 a0_0 l0_1 = some r) ∧ Aside0 (kq ≤ k1) ∧ Aside0 (Kd.R (Kd.int .i64) 3 w' w.heap.size (fun _ => True) (.slice (some ⟨go23, 0, none⟩) x5_1.length co13) x5_2) ∧ Aside0 (w'.heap[gb626]? = some (.cells #[.int .i64 a0_0, (.slice A0_1 l0_1.length c0_1)] 30 (0, 0))) ∧ Aside0 (Below w.heap.size w w'))
        case atStart => exact ⟨(y632), (0), eqA, H', ⟨Nat.le_refl _⟩, ⟨by (try simp only [hl5_1]); exact Rz HO_5⟩, ⟨by (try simp only [hl5_1]); exact Bz BK626⟩, ⟨by exact Lz1 HB GE626⟩⟩
        case round =>
         clear H'
         try clear c4
         try clear c5
         try clear c5b0
         try clear c5b1
         try clear c6
         try clear c6b0
         try clear c6b1
         try clear c14
         try clear c14b0
         try clear c15
         try clear c15b0
         try clear c16
         try clear c16b0
         try clear p17
         try clear q17
         try clear c21
         try clear c21b0
         try clear c22
         try clear c22b0
         try clear p23
         try clear q23
         try clear p17
         try clear p23
         try clear q17
         try clear q23
         obtain ⟨x5_2, x32_2, rfl, HA, HK2, HO_5, BK626, HB⟩ := hrel
         have hl5_2 := (Kd.R_reads' HO_5.out).1
         rw [hl5_2] at HO_5
         (try simp only [hl5_2])
         (try simp only [hl5_2] at BK626)
         cases gk with
         | zero => exact absurd HA.out (by simp [impl_DistancesFrom.l1])
         | succ k2 =>
          have H := HA.out
          clear HA
          simp only [impl_DistancesFrom.l1] at H
          by_cases c26 : x32_2 < (x5_1.length : Int)
          ·rw [if_pos c26] at H
           have c26b0 : decide (x32_2 < (x5_1.length : Int)) = true := decide_eq_true c26
           (try simp only [hl5_1] at c26b0); (try simp only [hl5_2] at c26b0); (try simp only [hl5_3] at c26b0)
           clear c26
           have H' := Aside0.mk H
           clear H
           have hcz27_0 : wr.cell? ⟨gb626, 0, none⟩ = some (.int .i64 a0_0) := (blk_cell BK626.out 0).trans rfl
           have hcz27_1 : wr.cell? ⟨gb626, 1, none⟩ = some (.slice A0_1 l0_1.length c0_1) := (blk_cell BK626.out 1).trans rfl
           have hfz27_0 := blk_frozen BK626.out 0
           have hfz27_1 := blk_frozen BK626.out 1
           go_wp2
           go_loopg [37] k2 (fun kq v37 w' => ∃ (x5_3 : List Int) (x37_3 : Int), v37 = .int .i64 x37_3 ∧ Aside0 (impl_DistancesFrom.l2 kq x5_3 (x5_1.length : Int) x32_2 l0_1 (l0_1.length : Int) x37_3 a0_0 l0_1 = some r) ∧ Aside0 (kq ≤ k2) ∧ Aside0 (Kd.R (Kd.int .i64) 3 w' w.heap.size (fun _ => True) (.slice (some ⟨go23, 0, none⟩) x5_2.length co13) x5_3) ∧ Aside0 (w'.heap[gb626]? = some (.cells #[.int .i64 a0_0, (.slice A0_1 l0_1.length c0_1)] 30 (0, 0))) ∧ Aside0 (Below w.heap.size w w'))
           case atStart => exact ⟨(x5_2), (0), eqA, H', ⟨Nat.le_refl _⟩, ⟨by (try simp only [hl5_1]); (try simp only [hl5_2]); exact Rz HO_5⟩, ⟨by (try simp only [hl5_1]); (try simp only [hl5_2]); exact Bz BK626⟩, ⟨by exact Lz1 HB GE626⟩⟩
           case round =>
            clear H'
            try clear c4
            try clear c5
            try clear c5b0
            try clear c5b1
            try clear c6
            try clear c6b0
            try clear c6b1
            try clear c14
            try clear c14b0
            try clear c15
            try clear c15b0
            try clear c16
            try clear c16b0
            try clear p17
            try clear q17
            try clear c21
            try clear c21b0
            try clear c22
            try clear c22b0
            try clear p23
            try clear q23
            try clear c26
            try clear c26b0
            try clear p17
            try clear p23
            try clear q17
            try clear q23
            obtain ⟨x5_3, x37_3, rfl, HA, HK3, HO_5, BK626, HB⟩ := hrel
            have hl5_3 := (Kd.R_reads' HO_5.out).1
            rw [hl5_3] at HO_5
            (try simp only [hl5_3])
            (try simp only [hl5_3] at BK626)
            cases gk with
            | zero => exact absurd HA.out (by simp [impl_DistancesFrom.l2])
            | succ k3 =>
             have H := HA.out
             clear HA
             simp only [impl_DistancesFrom.l2] at H
             by_cases c28 : x37_3 < (l0_1.length : Int)
             ·rw [if_pos c28] at H
              have c28b0 : decide (x37_3 < (l0_1.length : Int)) = true := decide_eq_true c28
              (try simp only [hl5_1] at c28b0); (try simp only [hl5_2] at c28b0); (try simp only [hl5_3] at c28b0)
              clear c28
              by_cases c29 : 0 ≤ x37_3
              ·rw [if_pos c29] at H
               have c29b0 : decide (0 ≤ x37_3) = true := decide_eq_true c29
               clear c29
               by_cases c30 : x37_3 < (l0_1.length : Int)
               ·rw [if_pos c30] at H
                have c30b0 : decide (x37_3 < (l0_1.length : Int)) = true := decide_eq_true c30
                (try simp only [hl5_1] at c30b0); (try simp only [hl5_2] at c30b0); (try simp only [hl5_3] at c30b0)
                clear c30
                by_cases c31 : 0 ≤ ((rd_T57 l0_1 x37_3).f0)
                ·rw [if_pos c31] at H
                 have c31b0 : decide (0 ≤ ((rd_T57 l0_1 x37_3).f0)) = true := decide_eq_true c31
                 clear c31
                 by_cases c32 : ((rd_T57 l0_1 x37_3).f0) < (x5_3.length : Int)
                 ·rw [if_pos c32] at H
                  have c32b0 : decide (((rd_T57 l0_1 x37_3).f0) < (x5_3.length : Int)) = true := decide_eq_true c32
                  (try simp only [hl5_1] at c32b0); (try simp only [hl5_2] at c32b0); (try simp only [hl5_3] at c32b0)
                  clear c32
                  by_cases c33 : 0 ≤ ((rd_T57 l0_1 x37_3).f1)
                  ·rw [if_pos c33] at H
                   have c33b0 : decide (0 ≤ ((rd_T57 l0_1 x37_3).f1)) = true := decide_eq_true c33
                   clear c33
                   by_cases c34 : ((rd_T57 l0_1 x37_3).f1) < (x5_3.length : Int)
                   ·rw [if_pos c34] at H
                    have c34b0 : decide (((rd_T57 l0_1 x37_3).f1) < (x5_3.length : Int)) = true := decide_eq_true c34
                    (try simp only [hl5_1] at c34b0); (try simp only [hl5_2] at c34b0); (try simp only [hl5_3] at c34b0)
                    clear c34
                    obtain ⟨ji35, hji35⟩ : ∃ j_ : Int, (mn (rd x5_3 ((rd_T57 l0_1 x37_3).f0)) (wrap64 ((rd x5_3 ((rd_T57 l0_1 x37_3).f1)) + 1))) = j_ := ⟨_, rfl⟩
                    replace H : ((some (x5_3.set (((rd_T57 l0_1 x37_3).f0) : Int).toNat (ji35) : List Int)).bind fun y637 => (impl_DistancesFrom.l2 k3 (y637.set (((rd_T57 l0_1 x37_3).f1) : Int).toNat (mn (rd y637 ((rd_T57 l0_1 x37_3).f1)) (wrap64 ((rd y637 ((rd_T57 l0_1 x37_3).f0)) + 1)))) (x5_1.length : Int) x32_2 l0_1 (l0_1.length : Int) (wrap64 (x37_3 + 1)) a0_0 l0_1)) = some r := by first | (rw [hji35] at H; exact H) | (simp only [hji35] at H ⊢; exact H)
                    have hji35_ : (if (wrap64 ((rd x5_3 ((rd_T57 l0_1 x37_3).f1)) + 1)) < (rd x5_3 ((rd_T57 l0_1 x37_3).f0)) then (wrap64 ((rd x5_3 ((rd_T57 l0_1 x37_3).f1)) + 1)) else (rd x5_3 ((rd_T57 l0_1 x37_3).f0))) = ji35 := hji35
                    obtain ⟨y637, hy637⟩ : ∃ y_ : List Int, y_ = (x5_3.set (((rd_T57 l0_1 x37_3).f0) : Int).toNat (ji35)) := ⟨_, rfl⟩
                    replace H : (impl_DistancesFrom.l2 k3 (y637.set (((rd_T57 l0_1 x37_3).f1) : Int).toNat (mn (rd y637 ((rd_T57 l0_1 x37_3).f1)) (wrap64 ((rd y637 ((rd_T57 l0_1 x37_3).f0)) + 1)))) (x5_1.length : Int) x32_2 l0_1 (l0_1.length : Int) (wrap64 (x37_3 + 1)) a0_0 l0_1) = some r := by first | (rw [hy637]; with_reducible exact H) | (have H2_ := (Option.bind_some _ _).symm.trans H; rw [hy637]; with_reducible exact H2_) | (have H2_ := (Option.bind_some _ _).symm.trans H; with_reducible exact H2_) | with_reducible exact H | (rw [hy637]; exact H) | exact H
                    have Ny637 := Aside0.mk hy637
                    clear hy637
                    obtain ⟨ji37, hji37⟩ : ∃ j_ : Int, (mn (rd y637 ((rd_T57 l0_1 x37_3).f1)) (wrap64 ((rd y637 ((rd_T57 l0_1 x37_3).f0)) + 1))) = j_ := ⟨_, rfl⟩
                    replace H : (impl_DistancesFrom.l2 k3 (y637.set (((rd_T57 l0_1 x37_3).f1) : Int).toNat (ji37)) (x5_1.length : Int) x32_2 l0_1 (l0_1.length : Int) (wrap64 (x37_3 + 1)) a0_0 l0_1) = some r := by first | (rw [hji37] at H; exact H) | (simp only [hji37] at H ⊢; exact H)
                    have hji37_ : (if (wrap64 ((rd y637 ((rd_T57 l0_1 x37_3).f0)) + 1)) < (rd y637 ((rd_T57 l0_1 x37_3).f1)) then (wrap64 ((rd y637 ((rd_T57 l0_1 x37_3).f0)) + 1)) else (rd y637 ((rd_T57 l0_1 x37_3).f1))) = ji37 := hji37
                    obtain ⟨y640, hy640⟩ : ∃ y_ : List Int, y_ = (y637.set (((rd_T57 l0_1 x37_3).f1) : Int).toNat (ji37)) := ⟨_, rfl⟩
                    replace H : (impl_DistancesFrom.l2 k3 y640 (x5_1.length : Int) x32_2 l0_1 (l0_1.length : Int) (wrap64 (x37_3 + 1)) a0_0 l0_1) = some r := by first | (rw [hy640]; with_reducible exact H) | (have H2_ := (Option.bind_some _ _).symm.trans H; rw [hy640]; with_reducible exact H2_) | (have H2_ := (Option.bind_some _ _).symm.trans H; with_reducible exact H2_) | with_reducible exact H | (rw [hy640]; exact H) | exact H
                    have Ny640 := Aside0.mk hy640
                    clear hy640
                    have H' := Aside0.mk H
                    clear H
                    have p633 : 0 ≤ (x37_3 : Int) := ofA
                    have q633 : x37_3 < (l0_1.length : Int) := ofA
                    obtain ⟨ad633, e633, hx633_0, hx633_1⟩ := at_T57 HR0_1.out x37_3 p633 q633
                    cases e633
                    replace hx633_0 := (HB.out.cell (World.block_lt_of_cell? w _ hx633_0)).trans hx633_0
                    replace hx633_1 := (HB.out.cell (World.block_lt_of_cell? w _ hx633_1)).trans hx633_1
                    replace p633 := eq_true p633
                    replace q633 := eq_true q633
                    try go_wp2_with (first | ((with_reducible refine gate_dst (N := 8) rfl ?_); refine box_event ?hg (N := 8) ?hd (cs := #[.int .i64 0, .int .i64 0]) (t := 57) ?hr ?_; (case hd => rfl); (case hg => rfl); (case hr => first | (go_simp; done) | (go_simp; rfl)); intro gb634 hg w39 hbox hb; replace HO_5 := Aside0.mk (Kd.R_below (Rz HO_5) hb); have BK634 := Aside0.mk (hbox); have GW634 := Aside0.mk ((by rw [hg]; exact (below_size (by exact Lz1 HB GE626)) : w.heap.size ≤ gb634)); have GE634 := Aside0.mk ((by rw [hg]; exact (below_size (by exact Lz1 HB GE626)) : w.heap.size ≤ gb634)); replace HB := Aside0.mk (below_step (by exact Lz1 HB GE626) hb); have NB626_634 := Aside0.mk ((by rw [hg]; exact Nat.ne_of_lt (blk_lt (g := gb626) (o := .cells #[.int .i64 a0_0, .slice (some ad633) l0_1.length c0_1] 30 (0, 0)) (Bz BK626)) : gb626 ≠ gb634)); have NB634_626 := Aside0.mk ((by rw [hg]; exact Nat.ne_of_gt (blk_lt (g := gb626) (o := .cells #[.int .i64 a0_0, .slice (some ad633) l0_1.length c0_1] 30 (0, 0)) (Bz BK626)) : gb634 ≠ gb626)); replace BK626 := Aside0.mk (blk_below (g := gb626) (o := .cells #[.int .i64 a0_0, .slice (some ad633) l0_1.length c0_1] 30 (0, 0)) (Bz BK626) hb); clear hb hbox hg; have hnb40 := NB634_626.out; have hnc40 := NB626_634.out; have hcz41_0 : w39.cell? ⟨gb634, 0, none⟩ = some (.int .i64 0) := (blk_cell BK634.out 0).trans rfl; have hcz41_1 : w39.cell? ⟨gb634, 1, none⟩ = some (.int .i64 0) := (blk_cell BK634.out 1).trans rfl; have hfz41_0 := blk_frozen BK634.out 0; have hfz41_1 := blk_frozen BK634.out 1))
                    have n0_ : Aside0 (Kd.R (Kd.int .i64) 3 ((w39.setCell ⟨gb634, 0, none⟩ (.int .i64 ((rd_T57 l0_1 x37_3).f0))).setCell ⟨gb634, 1, none⟩ (.int .i64 ((rd_T57 l0_1 x37_3).f1))) w.heap.size (fun _ => True) (.slice (some ⟨go23, 0, none⟩) x5_3.length co13) x5_3) := ⟨by (with_reducible repeat (first | apply Kd.R_alloc | apply Kd.R_drewN | apply Kd.R_drew)); exact Kd.R_mono (Kd.R_far (p := ⟨gb634, 1, none⟩) (Kd.R_far (p := ⟨gb634, 0, none⟩) (Kd.R_types HO_5.out BK634.out (by decide)) (fun _ hk => hk.2) (.int .i64 ((rd_T57 l0_1 x37_3).f0))) (fun _ hk => hk.2) (.int .i64 ((rd_T57 l0_1 x37_3).f1))) (fun _ hk => trivial)⟩
                    have n1_ : Aside0 (((w39.setCell ⟨gb634, 0, none⟩ (.int .i64 ((rd_T57 l0_1 x37_3).f0))).setCell ⟨gb634, 1, none⟩ (.int .i64 ((rd_T57 l0_1 x37_3).f1))).heap[gb626]? = some (.cells #[.int .i64 a0_0, .slice (some ad633) l0_1.length c0_1] 30 (0, 0))) := ⟨by (with_reducible repeat (first | refine blk_drewN ?_ _ | refine blk_drew ?_ | refine blk_alloc ?_ _)); refine blk_far ?_ NB626_634.out _; (with_reducible repeat (first | refine blk_drewN ?_ _ | refine blk_drew ?_ | refine blk_alloc ?_ _)); refine blk_far ?_ NB626_634.out _; exact Bz BK626⟩
                    have n2_ : Aside0 (((w39.setCell ⟨gb634, 0, none⟩ (.int .i64 ((rd_T57 l0_1 x37_3).f0))).setCell ⟨gb634, 1, none⟩ (.int .i64 ((rd_T57 l0_1 x37_3).f1))).heap[gb634]? = some (.cells #[.int .i64 ((rd_T57 l0_1 x37_3).f0), .int .i64 ((rd_T57 l0_1 x37_3).f1)] 57 (0, 0))) := ⟨by (with_reducible repeat (first | refine blk_drewN ?_ _ | refine blk_drew ?_ | refine blk_alloc ?_ _)); refine blk_put (cs := #[.int .i64 ((rd_T57 l0_1 x37_3).f0), .int .i64 0]) ?_ 1 _ rfl; (with_reducible repeat (first | refine blk_drewN ?_ _ | refine blk_drew ?_ | refine blk_alloc ?_ _)); refine blk_put (cs := #[.int .i64 0, .int .i64 0]) ?_ 0 _ rfl; exact Bz BK634⟩
                    have n3_ : Aside0 (Below w.heap.size w ((w39.setCell ⟨gb634, 0, none⟩ (.int .i64 ((rd_T57 l0_1 x37_3).f0))).setCell ⟨gb634, 1, none⟩ (.int .i64 ((rd_T57 l0_1 x37_3).f1)))) := ⟨by exact Lz2 HB GE626 GE634⟩
                    (try clear HO_5)
                    (try clear BK626)
                    (try clear BK634)
                    (try clear HB)
                    generalize ((w39.setCell ⟨gb634, 0, none⟩ (.int .i64 ((rd_T57 l0_1 x37_3).f0))).setCell ⟨gb634, 1, none⟩ (.int .i64 ((rd_T57 l0_1 x37_3).f1))) = w42 at n0_ n1_ n2_ n3_ ⊢
                    have HO_5 := n0_
                    have BK626 := n1_
                    have BK634 := n2_
                    have HB := n3_
                    clear n0_ n1_ n2_ n3_
                    replace HO_5 := Aside0.mk (Kd.R_drew HO_5.out)
                    replace BK626 := Aside0.mk (blk_drew BK626.out)
                    replace BK634 := Aside0.mk (blk_drew BK634.out)
                    replace HB := Aside0.mk (below_drew1 HB.out)
                    have p635 : 0 ≤ (((rd_T57 l0_1 x37_3).f0) : Int) := ofA
                    have q635 : ((rd_T57 l0_1 x37_3).f0) < (x5_3.length : Int) := ofA
                    obtain ⟨ad635, e635, hx635_0⟩ := Kd.at_int (Kd.R_reads' HO_5.out).2.2 ((rd_T57 l0_1 x37_3).f0) p635 q635
                    obtain rfl : (⟨go23, 0, none⟩ : Addr) = ad635 := (by injection e635)
                    (first | simp only [add_plain] at hx635_0 | simp only [add_at] at hx635_0 | simp only [Addr.add, Nat.zero_add] at hx635_0 | skip)
                    replace p635 := eq_true p635
                    replace q635 := eq_true q635
                    have p636 : 0 ≤ (((rd_T57 l0_1 x37_3).f1) : Int) := ofA
                    have q636 : ((rd_T57 l0_1 x37_3).f1) < (x5_3.length : Int) := ofA
                    obtain ⟨ad636, e636, hx636_0⟩ := Kd.at_int (Kd.R_reads' HO_5.out).2.2 ((rd_T57 l0_1 x37_3).f1) p636 q636
                    obtain rfl : (⟨go23, 0, none⟩ : Addr) = ad636 := (by injection e636)
                    (first | simp only [add_plain] at hx636_0 | simp only [add_at] at hx636_0 | simp only [Addr.add, Nat.zero_add] at hx636_0 | skip)
                    replace p636 := eq_true p636
                    replace q636 := eq_true q636
                    have p36 : 0 ≤ (((rd_T57 l0_1 x37_3).f0) : Int) := ofA
                    have q36 : (((rd_T57 l0_1 x37_3).f0) : Int) < ((x5_3.length : Int) : Int) := ofA
                    obtain ⟨hx36_0, hf36_0⟩ := Kd.R_celln 0 HO_5.out (((rd_T57 l0_1 x37_3).f0) : Int) p36 q36
                    replace p36 := eq_true p36
                    replace q36 := eq_true q36
                    have HP44 := Kd.R_putn HO_5.out (((rd_T57 l0_1 x37_3).f0) : Int) ji35
                    rw [← Ny637.out] at HP44
                    have HQ44 := Aside0.mk HP44
                    clear HP44
                    refine start_ (n := 17) (S := fun w' => w'.cell? ⟨gb634, 0, none⟩ = some (.int .i64 ((rd_T57 l0_1 x37_3).f0)) ∧ w'.cell? ⟨gb634, 1, none⟩ = some (.int .i64 ((rd_T57 l0_1 x37_3).f1)) ∧ w'.cell? ⟨go23, (((rd_T57 l0_1 x37_3).f0)).toNat, none⟩ = some (.int .i64 (rd x5_3 ((rd_T57 l0_1 x37_3).f0))) ∧ w'.cell? ⟨go23, (((rd_T57 l0_1 x37_3).f1)).toNat, none⟩ = some (.int .i64 (rd x5_3 ((rd_T57 l0_1 x37_3).f1)))) (ds := [16]) #[false, false, false, false, false, false, false, false, false, false, false, false, false, false, false, false, false] (by kernel_rfl) rfl rfl ⟨(blk_cell BK634.out 0).trans rfl, (blk_cell BK634.out 1).trans rfl, hx635_0, hx636_0⟩ (fun hHeld => ?_); refine with_tabW impl_DistancesFrom.tab15 impl_DistancesFrom.bits15 (fun HT_ HW_ => ?_)
                    generalize w42.drew = w43 at HO_5 BK626 BK634 HB HQ44 hf36_0 hx36_0 hx635_0 hx636_0 hHeld ⊢
                    refine pureT_ 0 41 HT_ ?_
                    refine pureT_ 1 42 HT_ ?_
                    refine pureT_ 3 44 HT_ ?_
                    refine pureT_ 4 45 HT_ ?_
                    refine pureT_ 8 49 HT_ ?_
                    refine pureT_ 9 50 HT_ ?_
                    refine takeT_ 2 43 HT_ HW_ hHeld rfl (by rintro w' ⟨s0, s1, s2, s3⟩; go_simp; with_reducible rfl) ?_
                    refine takeT_ 5 46 HT_ HW_ hHeld rfl (by rintro w' ⟨s0, s1, s2, s3⟩; go_simp; with_reducible rfl) ?_
                    refine pureT_ 6 47 HT_ ?_
                    refine takeT_ 7 48 HT_ HW_ hHeld rfl (by rintro w' ⟨s0, s1, s2, s3⟩; go_simp; with_reducible rfl) ?_
                    refine takeT_ 10 51 HT_ HW_ hHeld rfl (by rintro w' ⟨s0, s1, s2, s3⟩; go_simp; with_reducible rfl) ?_
                    refine pureT_ 11 52 HT_ ?_
                    refine takeT_ 12 53 HT_ HW_ hHeld rfl (by rintro w' ⟨s0, s1, s2, s3⟩; go_simp; with_reducible rfl) ?_
                    refine pureT_ 13 54 HT_ ?_
                    refine pureT_ 14 55 HT_ ?_
                    refine pureT_ 15 56 HT_ ?_
                    refine last_ (i := 16) (N := none) #[true, true, true, true, true, true, true, true, true, true, true, true, true, true, true, true, true] rfl rfl (one_of HT_.out (by kernel_rfl)) (by decide) (fun K hK => ?_)
                    refine skip_ (w1 := ?_) (by rfl) rfl ?_ ?_
                    rotate_left
                    ·go_simp
                     rfl
                    refine hK.out _ _ ?_
                    clear hK K
                    refine done_ (done_of HT_.out (by kernel_rfl)) ?_
                    try go_wp2
                    have n0_ : Aside0 (Kd.R (Kd.int .i64) 3 (w43.setCell ⟨go23, (((rd_T57 l0_1 x37_3).f0) : Int).toNat, none⟩ (.int .i64 ji35)) w.heap.size (fun _ => True) (.slice (some ⟨go23, 0, none⟩) x5_3.length co13) y637) := ⟨by exact Rz HQ44⟩
                    have n1_ : Aside0 ((w43.setCell ⟨go23, (((rd_T57 l0_1 x37_3).f0) : Int).toNat, none⟩ (.int .i64 ji35)).heap[gb626]? = some (.cells #[.int .i64 a0_0, .slice (some ad633) l0_1.length c0_1] 30 (0, 0))) := ⟨by (with_reducible repeat (first | refine blk_drewN ?_ _ | refine blk_drew ?_ | refine blk_alloc ?_ _)); refine blk_far ?_ (by have h_ := Kd.R_ne HO_5.out BK626.out (by decide); intro e_; exact h_ (by rw [e_]; rfl)) _; exact Bz BK626⟩
                    have n2_ : Aside0 ((w43.setCell ⟨go23, (((rd_T57 l0_1 x37_3).f0) : Int).toNat, none⟩ (.int .i64 ji35)).heap[gb634]? = some (.cells #[.int .i64 ((rd_T57 l0_1 x37_3).f0), .int .i64 ((rd_T57 l0_1 x37_3).f1)] 57 (0, 0))) := ⟨by (with_reducible repeat (first | refine blk_drewN ?_ _ | refine blk_drew ?_ | refine blk_alloc ?_ _)); refine blk_far ?_ (by have h_ := Kd.R_ne HO_5.out BK634.out (by decide); intro e_; exact h_ (by rw [e_]; rfl)) _; exact Bz BK634⟩
                    have n3_ : Aside0 (Below w.heap.size w (w43.setCell ⟨go23, (((rd_T57 l0_1 x37_3).f0) : Int).toNat, none⟩ (.int .i64 ji35))) := ⟨by exact Lz3 HB GB23 GE626 GE634⟩
                    (try clear HO_5)
                    (try clear BK626)
                    (try clear BK634)
                    (try clear HB)
                    generalize (w43.setCell ⟨go23, (((rd_T57 l0_1 x37_3).f0) : Int).toNat, none⟩ (.int .i64 ji35)) = w45 at n0_ n1_ n2_ n3_ ⊢
                    have HO_5 := n0_
                    have BK626 := n1_
                    have BK634 := n2_
                    have HB := n3_
                    clear n0_ n1_ n2_ n3_
                    replace HO_5 := Aside0.mk (Kd.R_drew HO_5.out)
                    replace BK626 := Aside0.mk (blk_drew BK626.out)
                    replace BK634 := Aside0.mk (blk_drew BK634.out)
                    replace HB := Aside0.mk (below_drew1 HB.out)
                    have p638 : 0 ≤ (((rd_T57 l0_1 x37_3).f1) : Int) := ofA
                    have q638 : ((rd_T57 l0_1 x37_3).f1) < (y637.length : Int) := (by have h_ : (((rd_T57 l0_1 x37_3).f1) : Int) < ((x5_3.length : Int) : Int) := ofA; first | (have e_ := (Kd.R_reads' HO_5.out).1; omega) | simpa only [Ny637.out, List.length_set] using h_)
                    have ql638 : ((((rd_T57 l0_1 x37_3).f1) : Int) < ((x5_3.length : Int) : Int)) = True := eq_true (ofA)
                    obtain ⟨ad638, e638, hx638_0⟩ := Kd.at_int (Kd.R_reads' HO_5.out).2.2 ((rd_T57 l0_1 x37_3).f1) p638 q638
                    obtain rfl : (⟨go23, 0, none⟩ : Addr) = ad638 := (by injection e638)
                    (first | simp only [add_plain] at hx638_0 | simp only [add_at] at hx638_0 | simp only [Addr.add, Nat.zero_add] at hx638_0 | skip)
                    replace p638 := eq_true p638
                    replace q638 := eq_true q638
                    have p639 : 0 ≤ (((rd_T57 l0_1 x37_3).f0) : Int) := ofA
                    have q639 : ((rd_T57 l0_1 x37_3).f0) < (y637.length : Int) := (by have h_ : (((rd_T57 l0_1 x37_3).f0) : Int) < ((x5_3.length : Int) : Int) := ofA; first | (have e_ := (Kd.R_reads' HO_5.out).1; omega) | simpa only [Ny637.out, List.length_set] using h_)
                    have ql639 : ((((rd_T57 l0_1 x37_3).f0) : Int) < ((x5_3.length : Int) : Int)) = True := eq_true (ofA)
                    obtain ⟨ad639, e639, hx639_0⟩ := Kd.at_int (Kd.R_reads' HO_5.out).2.2 ((rd_T57 l0_1 x37_3).f0) p639 q639
                    obtain rfl : (⟨go23, 0, none⟩ : Addr) = ad639 := (by injection e639)
                    (first | simp only [add_plain] at hx639_0 | simp only [add_at] at hx639_0 | simp only [Addr.add, Nat.zero_add] at hx639_0 | skip)
                    replace p639 := eq_true p639
                    replace q639 := eq_true q639
                    have p38 : 0 ≤ (((rd_T57 l0_1 x37_3).f1) : Int) := ofA
                    have q38 : (((rd_T57 l0_1 x37_3).f1) : Int) < ((x5_3.length : Int) : Int) := ofA
                    obtain ⟨hx38_0, hf38_0⟩ := Kd.R_celln 0 HO_5.out (((rd_T57 l0_1 x37_3).f1) : Int) p38 q38
                    replace p38 := eq_true p38
                    replace q38 := eq_true q38
                    have HP47 := Kd.R_putn HO_5.out (((rd_T57 l0_1 x37_3).f1) : Int) ji37
                    rw [← Ny640.out] at HP47
                    have HQ47 := Aside0.mk HP47
                    clear HP47
                    refine start_ (n := 17) (S := fun w' => w'.cell? ⟨gb634, 0, none⟩ = some (.int .i64 ((rd_T57 l0_1 x37_3).f0)) ∧ w'.cell? ⟨gb634, 1, none⟩ = some (.int .i64 ((rd_T57 l0_1 x37_3).f1)) ∧ w'.cell? ⟨go23, (((rd_T57 l0_1 x37_3).f1)).toNat, none⟩ = some (.int .i64 (rd y637 ((rd_T57 l0_1 x37_3).f1))) ∧ w'.cell? ⟨go23, (((rd_T57 l0_1 x37_3).f0)).toNat, none⟩ = some (.int .i64 (rd y637 ((rd_T57 l0_1 x37_3).f0)))) (ds := [16]) #[false, false, false, false, false, false, false, false, false, false, false, false, false, false, false, false, false] (by kernel_rfl) rfl rfl ⟨(blk_cell BK634.out 0).trans rfl, (blk_cell BK634.out 1).trans rfl, hx638_0, hx639_0⟩ (fun hHeld => ?_); refine with_tabW impl_DistancesFrom.tab16 impl_DistancesFrom.bits16 (fun HT_ HW_ => ?_)
                    generalize w45.drew = w46 at HO_5 BK626 BK634 HB HQ44 HQ47 hf38_0 hx38_0 hx638_0 hx639_0 hHeld ⊢
                    refine pureT_ 0 57 HT_ ?_
                    refine pureT_ 1 58 HT_ ?_
                    refine pureT_ 3 60 HT_ ?_
                    refine pureT_ 4 61 HT_ ?_
                    refine pureT_ 8 65 HT_ ?_
                    refine pureT_ 9 66 HT_ ?_
                    refine takeT_ 2 59 HT_ HW_ hHeld rfl (by rintro w' ⟨s0, s1, s2, s3⟩; go_simp; with_reducible rfl) ?_
                    refine takeT_ 5 62 HT_ HW_ hHeld rfl (by rintro w' ⟨s0, s1, s2, s3⟩; go_simp; with_reducible rfl) ?_
                    refine pureT_ 6 63 HT_ ?_
                    refine takeT_ 7 64 HT_ HW_ hHeld rfl (by rintro w' ⟨s0, s1, s2, s3⟩; go_simp; with_reducible rfl) ?_
                    refine takeT_ 10 67 HT_ HW_ hHeld rfl (by rintro w' ⟨s0, s1, s2, s3⟩; go_simp; with_reducible rfl) ?_
                    refine pureT_ 11 68 HT_ ?_
                    refine takeT_ 12 69 HT_ HW_ hHeld rfl (by rintro w' ⟨s0, s1, s2, s3⟩; go_simp; with_reducible rfl) ?_
                    refine pureT_ 13 70 HT_ ?_
                    refine pureT_ 14 71 HT_ ?_
                    refine pureT_ 15 72 HT_ ?_
                    refine last_ (i := 16) (N := none) #[true, true, true, true, true, true, true, true, true, true, true, true, true, true, true, true, true] rfl rfl (one_of HT_.out (by kernel_rfl)) (by decide) (fun K hK => ?_)
                    refine skip_ (w1 := ?_) (by rfl) rfl ?_ ?_
                    rotate_left
                    ·go_simp
                     rfl
                    refine hK.out _ _ ?_
                    clear hK K
                    refine done_ (done_of HT_.out (by kernel_rfl)) ?_
                    try go_wp2
                    (try simp only [← hl5_3])
                    go_roundg k3
                    case measure => have := HK1.out; have := HK2.out; have := HK3.out; omega
                    case rel => exact ⟨(y640), (wrap64 (x37_3 + 1)), eqA, H', ⟨by have := HK1.out; have := HK2.out; have := HK3.out; omega⟩, ⟨by (try simp only [hl5_1]); (try simp only [hl5_2]); (try simp only [hl5_3]); exact Rz HQ47⟩, ⟨by (try simp only [hl5_1]); (try simp only [hl5_2]); (try simp only [hl5_3]); (with_reducible repeat (first | refine blk_drewN ?_ _ | refine blk_drew ?_ | refine blk_alloc ?_ _)); refine blk_far ?_ (by have h_ := Kd.R_ne HO_5.out BK626.out (by decide); intro e_; exact h_ (by rw [e_]; rfl)) _; exact Bz BK626⟩, ⟨by exact Lz3 HB GB23 GE626 GE634⟩⟩
                   rw [if_neg c34] at H
                   exact absurd H (by simp)
                  rw [if_neg c33] at H
                  exact absurd H (by simp)
                 rw [if_neg c32] at H
                 exact absurd H (by simp)
                rw [if_neg c31] at H
                exact absurd H (by simp)
               rw [if_neg c30] at H
               exact absurd H (by simp)
              rw [if_neg c29] at H
              exact absurd H (by simp)
             rw [if_neg c28] at H
             have c28b0 : decide (x37_3 < (l0_1.length : Int)) = false := decide_eq_false c28
             (try simp only [hl5_1] at c28b0); (try simp only [hl5_2] at c28b0); (try simp only [hl5_3] at c28b0)
             clear c28
             have H' := Aside0.mk H
             clear H
             go_wp2
             (try simp only [← hl5_2, ← hl5_3])
             go_roundg k3
             case measure => have := HK1.out; have := HK2.out; have := HK3.out; omega
             case rel => exact ⟨(x5_3), (wrap64 (x32_2 + 1)), eqA, H', ⟨by have := HK1.out; have := HK2.out; have := HK3.out; omega⟩, ⟨by (try simp only [hl5_1]); (try simp only [hl5_2]); (try simp only [hl5_3]); exact Rz HO_5⟩, ⟨by (try simp only [hl5_1]); (try simp only [hl5_2]); (try simp only [hl5_3]); exact Bz BK626⟩, ⟨by exact Lz1 HB GE626⟩⟩
          rw [if_neg c26] at H
          have c26b0 : decide (x32_2 < (x5_1.length : Int)) = false := decide_eq_false c26
          (try simp only [hl5_1] at c26b0); (try simp only [hl5_2] at c26b0); (try simp only [hl5_3] at c26b0)
          clear c26
          obtain rfl := Option.some.inj H
          go_wp2
          go_ret
          exact ⟨_, by first | rfl | (simp [errW_none, errW_some] <;> rfl) | (simp [*, errW_none, errW_some] <;> rfl), by exact Rz HO_5, by exact Lz1 HB GE626⟩
       rw [if_neg c22] at H
       exact absurd H (by simp)
      rw [if_neg c21] at H
      exact absurd H (by simp)
   rw [if_neg c6] at H
   exact absurd H (by simp)
  rw [if_neg c5] at H
  exact absurd H (by simp)
 replace c4 := Bool.eq_false_iff.mpr c4
 subst c4
 have H1 : (some ([] : List Int)) = some r := by rw [if_neg (show ¬ (false = true) by decide)] at H; exact H
 clear H
 have H := H1
 clear H1
 obtain rfl := Option.some.inj H
 go_enter Try.func42, Try.ntmps42
 go_wp2_with (first | ((with_reducible refine gate_dst (N := 2) rfl ?_); refine box_event ?hg (N := 2) ?hd (cs := #[.int .i64 a0_0, .slice A0_1 l0_1.length c0_1]) (t := 30) ?hr ?_; (case hd => rfl); (case hg => rfl); (case hr => first | (go_simp; done) | (go_simp; rfl)); intro gb626 hg w48 hbox hb; have BK626 := Aside0.mk (hbox); have GW626 := Aside0.mk ((by rw [hg]; exact (below_size (Lz HB)) : w.heap.size ≤ gb626)); have GE626 := Aside0.mk ((by rw [hg]; exact (below_size (Lz HB)) : w.heap.size ≤ gb626)); replace HB := Aside0.mk (below_step (Lz HB) hb); clear hb hbox hg; have hcz49_0 : w48.cell? ⟨gb626, 0, none⟩ = some (.int .i64 a0_0) := (blk_cell BK626.out 0).trans rfl; have hcz49_1 : w48.cell? ⟨gb626, 1, none⟩ = some (.slice A0_1 l0_1.length c0_1) := (blk_cell BK626.out 1).trans rfl; have hfz49_0 := blk_frozen BK626.out 0; have hfz49_1 := blk_frozen BK626.out 1) | ((with_reducible refine gate_callee (f := 64) rfl ?_); refine goesM_ (some 11) rfl rfl Try.func64 (by kernel_rfl) rfl #[.agg #[.int .i64 a0_0, .slice A0_1 l0_1.length c0_1], .int .i64 a1] rfl ?_; (with_reducible refine (impl_isVertex.calls k a0_0 _ _ l0_1 a1 false _ ?side1 ?side2 A3.out).mono ?_); (case side1 => exact Cz ((Kd.C_below HR0_1.out HB.out))); (case side2 => exact HC0_1.out); rintro e w50 ⟨rfl, hb⟩; refine ⟨_, rfl, ?_⟩; replace BK626 := Aside0.mk (blk_below (g := gb626) (o := .cells #[.int .i64 a0_0, .slice A0_1 l0_1.length c0_1] 30 (0, 0)) (Bz BK626) hb); replace HB := Aside0.mk (below_step (by exact Lz1 HB GE626) hb); (try clear hb); (try clear hb2); (try clear hk); (try clear hi)))
 go_ret
 exact ⟨_, by first | rfl | (simp [errW_none, errW_some] <;> rfl) | (simp [*, errW_none, errW_some] <;> rfl), by first | exact Kd.R_nil _ _ _ _ _ | exact Kd.N_nil _ _ _ _ _ | exact Kd.V_nil _ _ _ _ _ | exact Kd.Q_nil _ _ _ _ _ | exact Kd.S_nil _ _ _ _ _, by exact Lz1 HB GE626⟩
instance : Inhabited S57 := ⟨z57⟩
def slices_SortFunc_Edge.enc (x : S57) : List Value := [.int .i64 x.f0, .int .i64 x.f1]
def slices_SortFunc_Edge.cf (x y : S57) : Int := (impl_compareEdges.f x.f0 x.f1 y.f0 y.f1).getD 0
theorem slices_SortFunc_Edge.cf_some (x y : S57) : impl_compareEdges.f x.f0 x.f1 y.f0 y.f1 = some (slices_SortFunc_Edge.cf x y) := by
  have hn : ∀ a : Int, cmp_isNaN_int.f a = some false := fun a => by
    unfold cmp_isNaN_int.f
    simp
  have hc : ∀ a b : Int, ∃ c, cmp_Compare_int.f a b = some c := fun a b => by
    unfold cmp_Compare_int.f
    simp only [hn, Option.bind_some, Bool.false_eq_true, if_false]
    split
    · exact ⟨_, rfl⟩
    · split <;> exact ⟨_, rfl⟩
  have h : ∃ c, impl_compareEdges.f x.f0 x.f1 y.f0 y.f1 = some c := by
    obtain ⟨c1, h1⟩ := hc x.f0 y.f0
    obtain ⟨c2, h2⟩ := hc x.f1 y.f1
    unfold impl_compareEdges.f
    rw [h1, h2]
    simp only [Option.bind_some]
    split <;> exact ⟨_, rfl⟩
  obtain ⟨c, h⟩ := h
  unfold slices_SortFunc_Edge.cf
  rw [h]
  rfl
set_option maxHeartbeats 2000000 in
set_option maxRecDepth 100000 in
theorem slices_SortFunc_Edge.cmp (x y : S57) (W : World) : Calls Try.prog 76 #[.agg #[.int .i64 x.f0, .int .i64 x.f1], .agg #[.int .i64 y.f0, .int .i64 y.f1]] W fun e w' => e = .returned (.int .i64 (slices_SortFunc_Edge.cf x y)) ∧ ∃ q os', w' = Go.Sort.grow (W.drewN q) os' := by
  have H := slices_SortFunc_Edge.cf_some x y
  generalize slices_SortFunc_Edge.cf x y = r at H ⊢
  unfold impl_compareEdges.f at H
  obtain ⟨t1, A1, H⟩ := Option.bind_eq_some_iff.mp H
  have C1 := fun w1 => cmp_Compare_int.calls x.f0 y.f0 t1 w1 A1
  by_cases c : t1 = 0
  · rw [if_pos c] at H
    obtain ⟨t2, A2, H⟩ := Option.bind_eq_some_iff.mp H
    obtain rfl := Option.some.inj H
    have C2 := fun w1 => cmp_Compare_int.calls x.f1 y.f1 t2 w1 A2
    clear A1 A2 H
    subst c
    go_enter Try.func76, Try.ntmps76
    go_wp2_with (first | ((with_reducible refine gate_callee (f := 89) rfl ?_); refine goesM_ (some 10) rfl rfl Try.func89 (by kernel_rfl) rfl #[.int .i64 x.f0, .int .i64 y.f0] rfl ?_; (with_reducible refine (C1 _).mono ?_); rintro e w' ⟨rfl, ⟨⟨m1, rfl⟩⟩⟩; refine ⟨_, rfl, ?_⟩) | ((with_reducible refine gate_callee (f := 89) rfl ?_); refine goesM_ (some 18) rfl rfl Try.func89 (by kernel_rfl) rfl #[.int .i64 x.f1, .int .i64 y.f1] rfl ?_; (with_reducible refine (C2 _).mono ?_); rintro e w' ⟨rfl, ⟨⟨m2, rfl⟩⟩⟩; refine ⟨_, rfl, ?_⟩))
    go_ret
    exact ⟨rfl, m1 + m2, _, by rw [Go.Sort.alloc_eq_grow, Go.Sort.alloc_eq_grow, Go.Sort.grow_grow]; rfl⟩
  · rw [if_neg c] at H
    obtain rfl := Option.some.inj H
    clear A1 H
    have c0 : (t1 == 0) = false := beq_eq_false_iff_ne.mpr c
    have c1 : (t1 != 0) = true := bne_iff_ne.mpr c
    go_enter Try.func76, Try.ntmps76
    go_wp2_with ((with_reducible refine gate_callee (f := 89) rfl ?_); refine goesM_ (some 10) rfl rfl Try.func89 (by kernel_rfl) rfl #[.int .i64 x.f0, .int .i64 y.f0] rfl ?_; (with_reducible refine (C1 _).mono ?_); rintro e w' ⟨rfl, ⟨⟨m1, rfl⟩⟩⟩; refine ⟨_, rfl, ?_⟩)
    go_ret
    exact ⟨rfl, m1, _, by rw [Go.Sort.alloc_eq_grow, Go.Sort.alloc_eq_grow, Go.Sort.grow_grow]; rfl⟩
def slices_SortFunc_Edge.srt (l0 : List S57) : Array S57 := Go.Sort.insertionSort (Go.Proofs.ltOf slices_SortFunc_Edge.cf) l0.toArray 0 l0.length
theorem slices_SortFunc_Edge.lt_eq (x y : S57) : Go.Proofs.ltOf slices_SortFunc_Edge.cf x y = decide (x.f0 < y.f0 ∨ (x.f0 = y.f0 ∧ x.f1 < y.f1)) := by
  have hn : ∀ a : Int, cmp_isNaN_int.f a = some false := fun a => by
    unfold cmp_isNaN_int.f
    simp
  have hc : ∀ a b : Int, cmp_Compare_int.f a b = some (if a < b then -1 else if a > b then 1 else 0) := fun a b => by
    unfold cmp_Compare_int.f
    simp only [hn, Option.bind_some, Bool.false_eq_true, if_false]
    split
    · rfl
    · split <;> rfl
  unfold Go.Proofs.ltOf slices_SortFunc_Edge.cf impl_compareEdges.f
  rw [hc, hc]
  simp only [Option.bind_some]
  apply decide_eq_decide.mpr
  by_cases a : x.f0 < y.f0
  · simp [a]
  · by_cases b : x.f0 > y.f0
    · simp [a, b]
      omega
    · have e : x.f0 = y.f0 := by omega
      simp only [e, Int.lt_irrefl, gt_iff_lt, if_false, if_true, Option.getD_some, true_and, false_or]
      split
      · simp; omega
      · split <;> simp <;> omega
theorem slices_SortFunc_Edge.swo : Go.Sort.SWO (Go.Proofs.ltOf slices_SortFunc_Edge.cf) := by
  have hl := slices_SortFunc_Edge.lt_eq
  refine ⟨fun x => ?_, fun x y z h1 h2 => ?_, fun x y z h1 h2 => ?_⟩
  · rw [hl]; simp
  · rw [hl] at h1 h2 ⊢
    simp only [decide_eq_true_eq] at h1 h2 ⊢
    omega
  · rw [hl] at h1 h2 ⊢
    simp only [decide_eq_false_iff_not] at h1 h2 ⊢
    omega
theorem slices_SortFunc_Edge.srt_size (l0 : List S57) : (slices_SortFunc_Edge.srt l0).size = l0.length := by
  have h := (Go.Sort.insertionSort_holds (lt := Go.Proofs.ltOf slices_SortFunc_Edge.cf) slices_SortFunc_Edge.swo l0.toArray 0 l0.length (Nat.zero_le _) (by simp)).1.1
  unfold slices_SortFunc_Edge.srt
  rw [h]
  simp
def slices_SortFunc_Edge.f (l0 : List S57) : Option (List S57) := if 0 < l0.length ∧ l0.length ≤ 12 then some (slices_SortFunc_Edge.srt l0).toList else none
theorem slices_SortFunc_Edge.flat (d : Array S57) (j : Nat) (p : S57) (hj : d.toList[j]? = some p) : ((Go.Sort.flatK slices_SortFunc_Edge.enc 2 d).toList.drop (j * 2)).take 2 = slices_SortFunc_Edge.enc p := by
  have hlt : j < d.size := by
    have := (List.getElem?_eq_some_iff.1 hj).1
    simpa using this
  have hp : d[j]! = p := by
    rw [getElem!_pos d j hlt]
    have := (List.getElem?_eq_some_iff.1 hj).2
    simpa using this
  have hsz : (Go.Sort.flatK slices_SortFunc_Edge.enc 2 d).toList.length = d.size * 2 := by simp
  have g0 : (Go.Sort.flatK slices_SortFunc_Edge.enc 2 d).toList[j * 2]'(by omega) = .int .i64 p.f0 := by
    have : (Go.Sort.flatK slices_SortFunc_Edge.enc 2 d)[j * 2]! = .int .i64 p.f0 := by
      rw [Go.Sort.get_flatK _ _ _ _ (by omega), show j * 2 / 2 = j by omega, show j * 2 % 2 = 0 by omega, hp]
      rfl
    rw [getElem!_pos _ _ (by simp; omega)] at this
    simpa using this
  have g1 : (Go.Sort.flatK slices_SortFunc_Edge.enc 2 d).toList[j * 2 + 1]'(by omega) = .int .i64 p.f1 := by
    have : (Go.Sort.flatK slices_SortFunc_Edge.enc 2 d)[j * 2 + 1]! = .int .i64 p.f1 := by
      rw [Go.Sort.get_flatK _ _ _ _ (by omega), show (j * 2 + 1) / 2 = j by omega, show (j * 2 + 1) % 2 = 1 by omega, hp]
      rfl
    rw [getElem!_pos _ _ (by simp; omega)] at this
    simpa using this
  rw [List.drop_eq_getElem_cons (show j * 2 < (Go.Sort.flatK slices_SortFunc_Edge.enc 2 d).toList.length by omega), List.drop_eq_getElem_cons (show j * 2 + 1 < (Go.Sort.flatK slices_SortFunc_Edge.enc 2 d).toList.length by omega), g0, g1]
  rfl
theorem slices_SortFunc_Edge.takes (cur F : Array Value) (h : F.size ≤ cur.size) : (Go.Sort.putCells id 0 F cur).toList.take F.size = F.toList := by
  apply List.ext_getElem?
  intro j
  by_cases hj : j < F.size
  · rw [List.getElem?_take_of_lt hj, Array.getElem?_toList]
    simp [Go.Sort.putCells, hj, show j < cur.size by omega]
  · rw [List.getElem?_take_eq_none (by omega), List.getElem?_eq_none (by simp; omega)]
set_option maxHeartbeats 4000000 in
theorem slices_SortFunc_Edge.calls (P0_ : Nat → Prop) (u9000_ : Value) (l0 : List S57) (r : List S57) (w0 w : World) (hB : Below w0.heap.size w0 w) (ho0 : Kd.R k57 57 w w0.heap.size P0_ u9000_ l0) (h : slices_SortFunc_Edge.f l0 = some r) :
  Calls Try.prog 78 #[u9000_, .func (.func 76) #[] #[]] w fun e w' => e = .returned (.tuple #[]) ∧ Kd.R k57 57 w' w0.heap.size (fun k_ => (P0_ k_ ∨ w.heap.size ≤ k_)) u9000_ r ∧ Below w0.heap.size w0 w' ∧ Kept w w' (fun k_ => P0_ k_) := by
  unfold slices_SortFunc_Edge.f at h
  by_cases hc : 0 < l0.length ∧ l0.length ≤ 12
  · rw [if_pos hc] at h
    obtain rfl := Option.some.inj h
    obtain ⟨g, cap, rfl, hbase, hglt, cells0, hcells0⟩ := Kd.R_form ho0 hc.1
    have hown : P0_ g := ho0.1 g rfl
    have hsz : ∀ i : Nat, i < l0.length → ∀ j : Nat, j < 2 → w.cell? ⟨g, i * 2 + j, none⟩ = some ((slices_SortFunc_Edge.enc (l0.getD i z57))[j]!) ∧ w.frozen? ⟨g, i * 2 + j, none⟩ = false := fun i hi j hj => by
      obtain ⟨ce, hcl, hM, hcc, hfr⟩ := Kd.R_elem ho0 z57 (i : Int) (by omega) (by omega)
      obtain rfl := k57_openM hM
      rw [Int.toNat_natCast] at hcc hfr
      refine ⟨?_, hfr j⟩
      have : j = 0 ∨ j = 1 := by omega
      rcases this with rfl | rfl
      · exact hcc 0 _ rfl
      · exact hcc 1 _ rfl
    have hH : Go.Sort.HoldsK slices_SortFunc_Edge.enc 2 w g 0 l0.toArray := fun t ht => by
      have ht' : t < l0.length * 2 := by simpa using ht
      have := hsz (t / 2) (by omega) (t % 2) (by omega)
      rw [show t / 2 * 2 + t % 2 = t by omega] at this
      rw [Go.Sort.get_flatK _ _ _ t (by simpa using ht'), Nat.zero_add]
      refine ⟨?_, this.2⟩
      rw [this.1]
      have e : l0.toArray[t / 2]! = l0.getD (t / 2) z57 := by
        rw [List.getD_eq_getElem?_getD, List.getElem?_eq_getElem (by omega)]
        simp [show t / 2 < l0.length by omega]
      rw [e]
      rfl
    have hlen : ∀ (n : Nat) (W : World), n ≤ 12 → Calls Try.prog 91 #[.int .u64 n] W fun e w' => (∃ l : Int, e = .returned (.int .i64 l)) ∧ w' = W := fun n W hn =>
      (Try.bits_Len n W (by omega) (by omega)).mono fun _ _ ⟨he, hw⟩ => ⟨⟨_, he⟩, hw⟩
    have hS := Try.slices_SortFunc_small (α := S57) 2 Try.isAgg57 Try.sizeOf57 slices_SortFunc_Edge.enc (fun _ => rfl) (fun x v hv => by simp [slices_SortFunc_Edge.enc] at hv; rcases hv with rfl | rfl <;> rfl) slices_SortFunc_Edge.cf 76 #[] g 0 cap l0.toArray w (Go.Proofs.enters_of Try.func76 (by kernel_rfl) rfl) (fun _ _ _ _ x y => slices_SortFunc_Edge.cmp x y _) hH hglt (by simpa using hc.2) hlen
    rw [show (l0.toArray).size = l0.length from by simp] at hS
    refine hS.mono ?_
    rintro e w' ⟨rfl, n, os, rfl⟩
    have hss : (slices_SortFunc_Edge.srt l0).size = l0.length := slices_SortFunc_Edge.srt_size l0
    have hgr : w.grownBy (Go.Proofs.sortWorldK slices_SortFunc_Edge.enc 2 w g 0 n (slices_SortFunc_Edge.srt l0) os) (some g) := by
      unfold Go.Proofs.sortWorldK Go.Sort.putRowK
      refine ⟨rfl, rfl, rfl, by simp, fun k hk hne => ?_⟩
      rw [Go.Sort.heap_grow_old _ _ (by simpa using hk)]
      have : g ≠ k := fun e => hne (by rw [e])
      simp [Go.Sort.putRow, Go.Sort.mapBlock, Go.Sort.ahead, Array.getElem?_modify, this]
    obtain ⟨h0, inner, ho, hr⟩ := ho0
    rcases ho.2 with ⟨hnil, _⟩ | ⟨g', cap', cur, hv, hg, hh, h1, h2, h3, h4⟩
    · cases hnil
    cases hv
    have hheap : (Go.Proofs.sortWorldK slices_SortFunc_Edge.enc 2 w g 0 n (slices_SortFunc_Edge.srt l0) os).heap[g]? = some (.cells (Go.Sort.putCells id 0 (Go.Sort.flatK slices_SortFunc_Edge.enc 2 (slices_SortFunc_Edge.srt l0)) cur) 57 (0, 0)) := by
      unfold Go.Proofs.sortWorldK Go.Sort.putRowK
      rw [Go.Sort.heap_grow_old _ _ (by simpa using hglt)]
      simp [Go.Sort.putRow, Go.Sort.mapBlock, Go.Sort.ahead, Array.getElem?_modify, hh, Go.Sort.onCells]
    have hF : (Go.Sort.flatK slices_SortFunc_Edge.enc 2 (slices_SortFunc_Edge.srt l0)).size = l0.length * 2 := by rw [Go.Sort.size_flatK, hss]
    have hcs : cur.size = cap * 2 := h3
    refine ⟨rfl, ⟨fun k hk => ?_, (Go.Sort.flatK slices_SortFunc_Edge.enc 2 (slices_SortFunc_Edge.srt l0)).toList, ⟨?_, .inr ⟨g, cap, _, ?_, hg, hheap, ?_, h2, ?_, ?_⟩⟩, ?_, fun j p hj => ?_⟩, ?_, ?_⟩
    · exact .inl (h0 k hk)
    · simp [hss]; rfl
    · simp [hss]
    · simpa [hss] using h1
    · simp [Go.Sort.putCells, hcs]; rfl
    · have ht := slices_SortFunc_Edge.takes cur (Go.Sort.flatK slices_SortFunc_Edge.enc 2 (slices_SortFunc_Edge.srt l0)) (by omega)
      rw [hF] at ht
      rw [show (slices_SortFunc_Edge.srt l0).toList.length * (k57).sz = l0.length * 2 by simp [hss]; rfl]
      exact ht
    · simp [hss]; rfl
    · have hfl := slices_SortFunc_Edge.flat (slices_SortFunc_Edge.srt l0) j p hj
      show (k57).M _ _ _ p (((Go.Sort.flatK slices_SortFunc_Edge.enc 2 (slices_SortFunc_Edge.srt l0)).toList.drop (j * 2)).take 2)
      rw [hfl]
      exact k57_mkM _ _ _ p
    · exact Below.grown hB hgr hB.size (fun k hk => by cases hk; exact hbase)
    · exact Kept.of_grown hgr (Kept.refl w _) (fun k hk => by cases hk; exact .inl hown)
  · rw [if_neg hc] at h
    exact absurd h (by simp)
def impl_AddEdge.j0 : Nat → Int → Int → Bool → Int → List (S57) → Option (Int × (List (S57)) × Bool)
 | 0, _, _, _, _, _ => none
 | k + 1, x1, x2, x29, x644000, x644001 => if x29 = true then (some (0, ([] : List (S57)), false)) else ((impl_copyGraph.f x644000 x644001).bind fun bt647 => (if bt647.2.length < 8796093022208 then ((slices_SortFunc_Edge.f (bt647.2 ++ [(⟨mn x1 x2, mx x1 x2⟩ : S57)])).bind fun t655 => (some (bt647.1, t655, true))) else (none)))
def impl_AddEdge.f (k : Nat) (a0_0 : Int) (l0_1 : List (S57)) (a1 : Int) (a2 : Int) : Option (Int × (List (S57)) × Bool) := (impl_isVertex.f k a0_0 l0_1 a1).bind fun t645 => (if t645 = true then ((impl_isVertex.f k a0_0 l0_1 a2).bind fun t646 => (if t646 = true then (if a1 = a2 then (impl_AddEdge.j0 k a1 a2 true a0_0 l0_1) else (impl_AddEdge.j0 k a1 a2 ((l0_1.length : Int) == 12) a0_0 l0_1)) else (impl_AddEdge.j0 k a1 a2 true a0_0 l0_1))) else (impl_AddEdge.j0 k a1 a2 true a0_0 l0_1))
set_option maxHeartbeats 8000000 in
set_option maxRecDepth 100000 in
theorem impl_AddEdge.calls (k : Nat) (a0_0 : Int) (A0_1 : Option Addr) (c0_1 : Nat) (l0_1 : List (S57)) (a1 : Int) (a2 : Int) (r1 : Int) (r2 : List (S57)) (r3 : Bool) (w : World) (hr0_1 : Kd.C k57 w A0_1 l0_1.length l0_1) (hc0_1 : l0_1.length ≤ c0_1) (h : impl_AddEdge.f k a0_0 l0_1 a1 a2 = some (r1, r2, r3)) :
  Calls Try.prog 43 #[.agg #[.int .i64 a0_0, .slice A0_1 l0_1.length c0_1], .int .i64 a1, .int .i64 a2] w fun e w' => ∃ v1_ : Value, e = .returned (.tuple #[.agg #[.int .i64 r1, v1_], .bool r3]) ∧ Kd.R k57 57 w' w.heap.size (fun _ => True) v1_ r2 ∧ Below w.heap.size w w' := by
 have hu30 := Try.underlying30
 have hu57 := Try.underlying57
 have HR0_1 := Aside0.mk hr0_1
 have HC0_1 := Aside0.mk hc0_1
 clear hr0_1 hc0_1
 have HB := Aside0.mk (Below.refl w.heap.size w)
 have H : ((impl_isVertex.f k a0_0 l0_1 a1).bind fun t645 => (if t645 = true then ((impl_isVertex.f k a0_0 l0_1 a2).bind fun t646 => (if t646 = true then (if a1 = a2 then (impl_AddEdge.j0 k a1 a2 true a0_0 l0_1) else (impl_AddEdge.j0 k a1 a2 ((l0_1.length : Int) == 12) a0_0 l0_1)) else (impl_AddEdge.j0 k a1 a2 true a0_0 l0_1))) else (impl_AddEdge.j0 k a1 a2 true a0_0 l0_1))) = some (r1, r2, r3) := h
 clear h
 have HC4 := Aside0.mk H
 clear H
 go_enter Try.func43, Try.ntmps43
 go_upto_region 1 with (first | ((with_reducible refine gate_dst (N := 3) rfl ?_); (try (refine gate_guard (by rfl) ?_; dsimp only)); refine box_event ?hg (N := 3) ?hd (cs := #[.int .i64 a0_0, .slice A0_1 l0_1.length c0_1]) (t := 30) ?hr ?_; (case hd => rfl); (case hg => rfl); (case hr => first | (go_simp; done) | (go_simp; rfl)); intro gb643 hg w5 hbox hb; have BK643 := Aside0.mk (hbox); have GW643 := Aside0.mk ((by rw [hg]; exact (below_size (Lz HB)) : w.heap.size ≤ gb643)); have GE643 := Aside0.mk ((by rw [hg]; exact (below_size (Lz HB)) : w.heap.size ≤ gb643)); replace HB := Aside0.mk (below_step (Lz HB) hb); clear hb hbox hg) | ((with_reducible refine gate_dst (N := 6) rfl ?_); (try (refine gate_guard (by rfl) ?_; dsimp only)); refine box_event ?hg (N := 6) ?hd (cs := #[.int .i64 0, .slice none 0 0]) (t := 30) ?hr ?_; (case hd => rfl); (case hg => rfl); (case hr => first | (go_simp; done) | (go_simp; rfl)); intro gb644 hg w6 hbox hb; have BK644 := Aside0.mk (hbox); have GW644 := Aside0.mk ((by rw [hg]; exact (below_size (by exact Lz1 HB GE643)) : w.heap.size ≤ gb644)); have GE644 := Aside0.mk ((by rw [hg]; exact (below_size (by exact Lz1 HB GE643)) : w.heap.size ≤ gb644)); replace HB := Aside0.mk (below_step (by exact Lz1 HB GE643) hb); have NB643_644 := Aside0.mk ((by rw [hg]; exact Nat.ne_of_lt (blk_lt (g := gb643) (o := .cells #[.int .i64 a0_0, .slice A0_1 l0_1.length c0_1] 30 (0, 0)) (Bz BK643)) : gb643 ≠ gb644)); have NB644_643 := Aside0.mk ((by rw [hg]; exact Nat.ne_of_gt (blk_lt (g := gb643) (o := .cells #[.int .i64 a0_0, .slice A0_1 l0_1.length c0_1] 30 (0, 0)) (Bz BK643)) : gb644 ≠ gb643)); replace BK643 := Aside0.mk (blk_below (g := gb643) (o := .cells #[.int .i64 a0_0, .slice A0_1 l0_1.length c0_1] 30 (0, 0)) (Bz BK643) hb); clear hb hbox hg))
 (try simp only [Act.put, List.setIfInBounds_toArray, List.set_cons_zero, List.set_cons_succ])
 go_cut [29] (fun v29 wc => ∃ (kq : Nat) (x29_3 : Bool), v29 = .bool x29_3 ∧ Aside0 (impl_AddEdge.j0 kq a1 a2 x29_3 a0_0 l0_1 = some (r1, r2, r3)) ∧ Aside0 (kq ≤ k) ∧ Aside0 (wc.heap[gb643]? = some (.cells #[.int .i64 a0_0, (.slice A0_1 l0_1.length c0_1)] 30 (0, 0))) ∧ Aside0 (wc.heap[gb644]? = some (.cells #[.int .i64 0, (.slice none 0 0)] 30 (0, 0))) ∧ Aside0 (Below w.heap.size w wc))
 case first =>
  have H := HC4.out
  clear HC4
  replace H := Option.bind_eq_some_iff.mp H
  obtain ⟨t645, A70, H⟩ := H
  replace H : (if t645 = true then ((impl_isVertex.f k a0_0 l0_1 a2).bind fun t646 => (if t646 = true then (if a1 = a2 then (impl_AddEdge.j0 k a1 a2 true a0_0 l0_1) else (impl_AddEdge.j0 k a1 a2 ((l0_1.length : Int) == 12) a0_0 l0_1)) else (impl_AddEdge.j0 k a1 a2 true a0_0 l0_1))) else (impl_AddEdge.j0 k a1 a2 true a0_0 l0_1)) = some (r1, r2, r3) := H
  have A7 := Aside0.mk A70
  clear A70
  by_cases c8 : t645 = true
  ·subst c8
   have H1 : ((impl_isVertex.f k a0_0 l0_1 a2).bind fun t646 => (if t646 = true then (if a1 = a2 then (impl_AddEdge.j0 k a1 a2 true a0_0 l0_1) else (impl_AddEdge.j0 k a1 a2 ((l0_1.length : Int) == 12) a0_0 l0_1)) else (impl_AddEdge.j0 k a1 a2 true a0_0 l0_1))) = some (r1, r2, r3) := by rw [if_pos rfl] at H; exact H
   clear H
   have H := H1
   clear H1
   replace H := Option.bind_eq_some_iff.mp H
   obtain ⟨t646, A90, H⟩ := H
   replace H : (if t646 = true then (if a1 = a2 then (impl_AddEdge.j0 k a1 a2 true a0_0 l0_1) else (impl_AddEdge.j0 k a1 a2 ((l0_1.length : Int) == 12) a0_0 l0_1)) else (impl_AddEdge.j0 k a1 a2 true a0_0 l0_1)) = some (r1, r2, r3) := H
   have A9 := Aside0.mk A90
   clear A90
   by_cases c10 : t646 = true
   ·subst c10
    have H1 : (if a1 = a2 then (impl_AddEdge.j0 k a1 a2 true a0_0 l0_1) else (impl_AddEdge.j0 k a1 a2 ((l0_1.length : Int) == 12) a0_0 l0_1)) = some (r1, r2, r3) := by rw [if_pos rfl] at H; exact H
    clear H
    have H := H1
    clear H1
    by_cases c11 : a1 = a2
    ·rw [if_pos c11] at H
     have c11b0 : (a1 == a2) = true := beq_iff_eq.mpr c11
     have c11b1 : (a1 != a2) = false := bne_eq_false_iff_eq.mpr c11
     clear c11
     (first | rw [c11b0] | (simp only [i64_w, i32_w]; rw [c11b0]) | skip)
     have H' := Aside0.mk H
     clear H
     have hnb12 := NB643_644.out
     have hnc12 := NB644_643.out
     have hcz13_0 : w6.cell? ⟨gb643, 0, none⟩ = some (.int .i64 a0_0) := (blk_cell BK643.out 0).trans rfl
     have hcz13_1 : w6.cell? ⟨gb643, 1, none⟩ = some (.slice A0_1 l0_1.length c0_1) := (blk_cell BK643.out 1).trans rfl
     have hfz13_0 := blk_frozen BK643.out 0
     have hfz13_1 := blk_frozen BK643.out 1
     go_wp2_with (first | ((with_reducible refine gate_callee (f := 64) rfl ?_); refine goesM_ (some 11) rfl rfl Try.func64 (by kernel_rfl) rfl #[.agg #[.int .i64 a0_0, .slice A0_1 l0_1.length c0_1], .int .i64 a1] rfl ?_; (with_reducible refine (impl_isVertex.calls k a0_0 _ _ l0_1 a1 true _ ?side1 ?side2 A7.out).mono ?_); (case side1 => exact Cz ((Kd.C_below HR0_1.out HB.out))); (case side2 => exact HC0_1.out); rintro e w14 ⟨rfl, hb⟩; refine ⟨_, rfl, ?_⟩; replace BK643 := Aside0.mk (blk_below (g := gb643) (o := .cells #[.int .i64 a0_0, .slice A0_1 l0_1.length c0_1] 30 (0, 0)) (Bz BK643) hb); replace BK644 := Aside0.mk (blk_below (g := gb644) (o := .cells #[.int .i64 0, .slice none 0 0] 30 (0, 0)) (Bz BK644) hb); replace HB := Aside0.mk (below_step (by exact Lz2 HB GE643 GE644) hb); (try clear hb); (try clear hb2); (try clear hk); (try clear hi); have hcz15_0 : w14.cell? ⟨gb643, 0, none⟩ = some (.int .i64 a0_0) := (blk_cell BK643.out 0).trans rfl; have hcz15_1 : w14.cell? ⟨gb643, 1, none⟩ = some (.slice A0_1 l0_1.length c0_1) := (blk_cell BK643.out 1).trans rfl; have hfz15_0 := blk_frozen BK643.out 0; have hfz15_1 := blk_frozen BK643.out 1) | (go_at_call 64; (with_reducible refine (impl_isVertex.calls k a0_0 _ _ l0_1 a2 true _ ?side1 ?side2 A9.out).mono ?_); (case side1 => exact Cz ((Kd.C_below HR0_1.out HB.out))); (case side2 => exact HC0_1.out); rintro e w16 ⟨rfl, hb⟩; replace BK643 := Aside0.mk (blk_below (g := gb643) (o := .cells #[.int .i64 a0_0, .slice A0_1 l0_1.length c0_1] 30 (0, 0)) (Bz BK643) hb); replace BK644 := Aside0.mk (blk_below (g := gb644) (o := .cells #[.int .i64 0, .slice none 0 0] 30 (0, 0)) (Bz BK644) hb); replace HB := Aside0.mk (below_step (by exact Lz2 HB GE643 GE644) hb); (try clear hb); (try clear hb2); (try clear hk); (try clear hi)))
     go_meet
     case rel => exact ⟨_, (true), eqA, H', ⟨by first | omega | exact Nat.le_refl _⟩, ⟨by exact Bz BK643⟩, ⟨by exact Bz BK644⟩, ⟨by exact Lz2 HB GE643 GE644⟩⟩
    rw [if_neg c11] at H
    have c11b0 : (a1 == a2) = false := beq_eq_false_iff_ne.mpr c11
    have c11b1 : (a1 != a2) = true := bne_iff_ne.mpr c11
    (first | rw [c11b0] | (simp only [i64_w, i32_w]; rw [c11b0]) | skip)
    have H' := Aside0.mk H
    clear H
    have hnb17 := NB643_644.out
    have hnc17 := NB644_643.out
    have hcz18_0 : w6.cell? ⟨gb643, 0, none⟩ = some (.int .i64 a0_0) := (blk_cell BK643.out 0).trans rfl
    have hcz18_1 : w6.cell? ⟨gb643, 1, none⟩ = some (.slice A0_1 l0_1.length c0_1) := (blk_cell BK643.out 1).trans rfl
    have hfz18_0 := blk_frozen BK643.out 0
    have hfz18_1 := blk_frozen BK643.out 1
    go_wp2_with (first | ((with_reducible refine gate_callee (f := 64) rfl ?_); refine goesM_ (some 11) rfl rfl Try.func64 (by kernel_rfl) rfl #[.agg #[.int .i64 a0_0, .slice A0_1 l0_1.length c0_1], .int .i64 a1] rfl ?_; (with_reducible refine (impl_isVertex.calls k a0_0 _ _ l0_1 a1 true _ ?side1 ?side2 A7.out).mono ?_); (case side1 => exact Cz ((Kd.C_below HR0_1.out HB.out))); (case side2 => exact HC0_1.out); rintro e w19 ⟨rfl, hb⟩; refine ⟨_, rfl, ?_⟩; replace BK643 := Aside0.mk (blk_below (g := gb643) (o := .cells #[.int .i64 a0_0, .slice A0_1 l0_1.length c0_1] 30 (0, 0)) (Bz BK643) hb); replace BK644 := Aside0.mk (blk_below (g := gb644) (o := .cells #[.int .i64 0, .slice none 0 0] 30 (0, 0)) (Bz BK644) hb); replace HB := Aside0.mk (below_step (by exact Lz2 HB GE643 GE644) hb); (try clear hb); (try clear hb2); (try clear hk); (try clear hi); have hcz20_0 : w19.cell? ⟨gb643, 0, none⟩ = some (.int .i64 a0_0) := (blk_cell BK643.out 0).trans rfl; have hcz20_1 : w19.cell? ⟨gb643, 1, none⟩ = some (.slice A0_1 l0_1.length c0_1) := (blk_cell BK643.out 1).trans rfl; have hfz20_0 := blk_frozen BK643.out 0; have hfz20_1 := blk_frozen BK643.out 1) | (go_at_call 64; (with_reducible refine (impl_isVertex.calls k a0_0 _ _ l0_1 a2 true _ ?side1 ?side2 A9.out).mono ?_); (case side1 => exact Cz ((Kd.C_below HR0_1.out HB.out))); (case side2 => exact HC0_1.out); rintro e w21 ⟨rfl, hb⟩; replace BK643 := Aside0.mk (blk_below (g := gb643) (o := .cells #[.int .i64 a0_0, .slice A0_1 l0_1.length c0_1] 30 (0, 0)) (Bz BK643) hb); replace BK644 := Aside0.mk (blk_below (g := gb644) (o := .cells #[.int .i64 0, .slice none 0 0] 30 (0, 0)) (Bz BK644) hb); replace HB := Aside0.mk (below_step (by exact Lz2 HB GE643 GE644) hb); (try clear hb); (try clear hb2); (try clear hk); (try clear hi); have hcz22_0 : w21.cell? ⟨gb643, 0, none⟩ = some (.int .i64 a0_0) := (blk_cell BK643.out 0).trans rfl; have hcz22_1 : w21.cell? ⟨gb643, 1, none⟩ = some (.slice A0_1 l0_1.length c0_1) := (blk_cell BK643.out 1).trans rfl; have hfz22_0 := blk_frozen BK643.out 0; have hfz22_1 := blk_frozen BK643.out 1))
    go_meet
    case rel => exact ⟨_, (((l0_1.length : Int) == 12)), eqA, H', ⟨by first | omega | exact Nat.le_refl _⟩, ⟨by exact Bz BK643⟩, ⟨by exact Bz BK644⟩, ⟨by exact Lz2 HB GE643 GE644⟩⟩
   replace c10 := Bool.eq_false_iff.mpr c10
   subst c10
   have H1 : (impl_AddEdge.j0 k a1 a2 true a0_0 l0_1) = some (r1, r2, r3) := by rw [if_neg (show ¬ (false = true) by decide)] at H; exact H
   clear H
   have H := H1
   clear H1
   have H' := Aside0.mk H
   clear H
   have hnb23 := NB643_644.out
   have hnc23 := NB644_643.out
   have hcz24_0 : w6.cell? ⟨gb643, 0, none⟩ = some (.int .i64 a0_0) := (blk_cell BK643.out 0).trans rfl
   have hcz24_1 : w6.cell? ⟨gb643, 1, none⟩ = some (.slice A0_1 l0_1.length c0_1) := (blk_cell BK643.out 1).trans rfl
   have hfz24_0 := blk_frozen BK643.out 0
   have hfz24_1 := blk_frozen BK643.out 1
   go_wp2_with (first | ((with_reducible refine gate_callee (f := 64) rfl ?_); refine goesM_ (some 11) rfl rfl Try.func64 (by kernel_rfl) rfl #[.agg #[.int .i64 a0_0, .slice A0_1 l0_1.length c0_1], .int .i64 a1] rfl ?_; (with_reducible refine (impl_isVertex.calls k a0_0 _ _ l0_1 a1 true _ ?side1 ?side2 A7.out).mono ?_); (case side1 => exact Cz ((Kd.C_below HR0_1.out HB.out))); (case side2 => exact HC0_1.out); rintro e w25 ⟨rfl, hb⟩; refine ⟨_, rfl, ?_⟩; replace BK643 := Aside0.mk (blk_below (g := gb643) (o := .cells #[.int .i64 a0_0, .slice A0_1 l0_1.length c0_1] 30 (0, 0)) (Bz BK643) hb); replace BK644 := Aside0.mk (blk_below (g := gb644) (o := .cells #[.int .i64 0, .slice none 0 0] 30 (0, 0)) (Bz BK644) hb); replace HB := Aside0.mk (below_step (by exact Lz2 HB GE643 GE644) hb); (try clear hb); (try clear hb2); (try clear hk); (try clear hi); have hcz26_0 : w25.cell? ⟨gb643, 0, none⟩ = some (.int .i64 a0_0) := (blk_cell BK643.out 0).trans rfl; have hcz26_1 : w25.cell? ⟨gb643, 1, none⟩ = some (.slice A0_1 l0_1.length c0_1) := (blk_cell BK643.out 1).trans rfl; have hfz26_0 := blk_frozen BK643.out 0; have hfz26_1 := blk_frozen BK643.out 1) | (go_at_call 64; (with_reducible refine (impl_isVertex.calls k a0_0 _ _ l0_1 a2 false _ ?side1 ?side2 A9.out).mono ?_); (case side1 => exact Cz ((Kd.C_below HR0_1.out HB.out))); (case side2 => exact HC0_1.out); rintro e w27 ⟨rfl, hb⟩; replace BK643 := Aside0.mk (blk_below (g := gb643) (o := .cells #[.int .i64 a0_0, .slice A0_1 l0_1.length c0_1] 30 (0, 0)) (Bz BK643) hb); replace BK644 := Aside0.mk (blk_below (g := gb644) (o := .cells #[.int .i64 0, .slice none 0 0] 30 (0, 0)) (Bz BK644) hb); replace HB := Aside0.mk (below_step (by exact Lz2 HB GE643 GE644) hb); (try clear hb); (try clear hb2); (try clear hk); (try clear hi)))
   go_meet
   case rel => exact ⟨_, (true), eqA, H', ⟨by first | omega | exact Nat.le_refl _⟩, ⟨by exact Bz BK643⟩, ⟨by exact Bz BK644⟩, ⟨by exact Lz2 HB GE643 GE644⟩⟩
  replace c8 := Bool.eq_false_iff.mpr c8
  subst c8
  have H1 : (impl_AddEdge.j0 k a1 a2 true a0_0 l0_1) = some (r1, r2, r3) := by rw [if_neg (show ¬ (false = true) by decide)] at H; exact H
  clear H
  have H := H1
  clear H1
  have H' := Aside0.mk H
  clear H
  have hnb28 := NB643_644.out
  have hnc28 := NB644_643.out
  have hcz29_0 : w6.cell? ⟨gb643, 0, none⟩ = some (.int .i64 a0_0) := (blk_cell BK643.out 0).trans rfl
  have hcz29_1 : w6.cell? ⟨gb643, 1, none⟩ = some (.slice A0_1 l0_1.length c0_1) := (blk_cell BK643.out 1).trans rfl
  have hfz29_0 := blk_frozen BK643.out 0
  have hfz29_1 := blk_frozen BK643.out 1
  go_wp2_with (first | ((with_reducible refine gate_callee (f := 64) rfl ?_); refine goesM_ (some 11) rfl rfl Try.func64 (by kernel_rfl) rfl #[.agg #[.int .i64 a0_0, .slice A0_1 l0_1.length c0_1], .int .i64 a1] rfl ?_; (with_reducible refine (impl_isVertex.calls k a0_0 _ _ l0_1 a1 false _ ?side1 ?side2 A7.out).mono ?_); (case side1 => exact Cz ((Kd.C_below HR0_1.out HB.out))); (case side2 => exact HC0_1.out); rintro e w30 ⟨rfl, hb⟩; refine ⟨_, rfl, ?_⟩; replace BK643 := Aside0.mk (blk_below (g := gb643) (o := .cells #[.int .i64 a0_0, .slice A0_1 l0_1.length c0_1] 30 (0, 0)) (Bz BK643) hb); replace BK644 := Aside0.mk (blk_below (g := gb644) (o := .cells #[.int .i64 0, .slice none 0 0] 30 (0, 0)) (Bz BK644) hb); replace HB := Aside0.mk (below_step (by exact Lz2 HB GE643 GE644) hb); (try clear hb); (try clear hb2); (try clear hk); (try clear hi)))
  go_meet
  case rel => exact ⟨_, (true), eqA, H', ⟨by first | omega | exact Nat.le_refl _⟩, ⟨by exact Bz BK643⟩, ⟨by exact Bz BK644⟩, ⟨by exact Lz2 HB GE643 GE644⟩⟩
 case rest =>
  clear HC4
  try clear c8
  try clear c10
  try clear c11
  try clear c11b0
  try clear c11b1
  obtain ⟨kq, x29_3, rfl, HA, HJ3, BK643, BK644, HB⟩ := hcut
  cases kq with
  | zero => exact absurd HA.out (by simp [impl_AddEdge.j0])
  | succ kj3 =>
   have H := HA.out
   clear HA
   simp only [impl_AddEdge.j0] at H
   by_cases c31 : x29_3 = true
   ·subst c31
    have H1 : (some (0, ([] : List (S57)), false)) = some (r1, r2, r3) := by rw [if_pos rfl] at H; exact H
    clear H
    have H := H1
    clear H1
    simp only [Option.some.injEq, Prod.mk.injEq] at H
    obtain ⟨rfl, rfl, rfl⟩ := H
    have hnb32 := NB644_643.out
    have hnc32 := NB643_644.out
    have hcz33_0 : wc.cell? ⟨gb644, 0, none⟩ = some (.int .i64 0) := (blk_cell BK644.out 0).trans rfl
    have hcz33_1 : wc.cell? ⟨gb644, 1, none⟩ = some (.slice none 0 0) := (blk_cell BK644.out 1).trans rfl
    have hfz33_0 := blk_frozen BK644.out 0
    have hfz33_1 := blk_frozen BK644.out 1
    go_wp2
    refine bodyPost_ret (results_ct rfl _ _ gb644 30 #[.int .i64 0, .slice none 0 0] (0, 0) _ rfl (by (with_reducible repeat (first | refine blk_drewN ?_ _ | refine blk_drew ?_ | refine blk_alloc ?_ _)); refine blk_put (cs := #[.int .i64 0, .slice none 0 0]) ?_ 1 _ rfl; (with_reducible repeat (first | refine blk_drewN ?_ _ | refine blk_drew ?_ | refine blk_alloc ?_ _)); refine blk_put (cs := #[.int .i64 0, .slice none 0 0]) ?_ 0 _ rfl; exact Bz BK644) Try.underlying30 rfl (by kernel_rfl)) rfl ?_
    exact ⟨_, by first | rfl | (simp [errW_none, errW_some] <;> rfl) | (simp [*, errW_none, errW_some] <;> rfl), by first | exact Kd.R_nil _ _ _ _ _ | exact Kd.N_nil _ _ _ _ _ | exact Kd.V_nil _ _ _ _ _ | exact Kd.Q_nil _ _ _ _ _ | exact Kd.S_nil _ _ _ _ _, by exact Lz2 HB GE643 GE644⟩
   replace c31 := Bool.eq_false_iff.mpr c31
   subst c31
   have H1 : ((impl_copyGraph.f a0_0 l0_1).bind fun bt647 => (if bt647.2.length < 8796093022208 then ((slices_SortFunc_Edge.f (bt647.2 ++ [(⟨mn a1 a2, mx a1 a2⟩ : S57)])).bind fun t655 => (some (bt647.1, t655, true))) else (none))) = some (r1, r2, r3) := by rw [if_neg (show ¬ (false = true) by decide)] at H; exact H
   clear H
   have H := H1
   clear H1
   replace H := Option.bind_eq_some_iff.mp H
   obtain ⟨⟨t647, t648⟩, A340, H⟩ := H
   replace H : (if t648.length < 8796093022208 then ((slices_SortFunc_Edge.f (t648 ++ [(⟨mn a1 a2, mx a1 a2⟩ : S57)])).bind fun t655 => (some (t647, t655, true))) else (none)) = some (r1, r2, r3) := H
   have A34 := Aside0.mk A340
   clear A340
   obtain ⟨ji35, hji35⟩ : ∃ j_ : Int, (mn a1 a2) = j_ := ⟨_, rfl⟩
   replace H : (if t648.length < 8796093022208 then ((slices_SortFunc_Edge.f (t648 ++ [(⟨ji35, mx a1 a2⟩ : S57)])).bind fun t655 => (some (t647, t655, true))) else (none)) = some (r1, r2, r3) := by first | (rw [hji35] at H; exact H) | (simp only [hji35] at H ⊢; exact H)
   (try rw [hji35] at A34)
   have hji35_ : (if a2 < a1 then a2 else a1) = ji35 := hji35
   obtain ⟨ji36, hji36⟩ : ∃ j_ : Int, (mx a1 a2) = j_ := ⟨_, rfl⟩
   replace H : (if t648.length < 8796093022208 then ((slices_SortFunc_Edge.f (t648 ++ [(⟨ji35, ji36⟩ : S57)])).bind fun t655 => (some (t647, t655, true))) else (none)) = some (r1, r2, r3) := by first | (rw [hji36] at H; exact H) | (simp only [hji36] at H ⊢; exact H)
   (try rw [hji36] at A34)
   have hji36_ : (if a1 < a2 then a2 else a1) = ji36 := hji36
   by_cases c37 : t648.length < 8796093022208
   ·rw [if_pos c37] at H
    have LMc37 := Aside0.mk c37
    clear c37
    obtain ⟨y652, hy652⟩ : ∃ y_ : List (S57), y_ = (t648 ++ [(⟨ji35, ji36⟩ : S57)]) := ⟨_, rfl⟩
    replace H : ((slices_SortFunc_Edge.f y652).bind fun t655 => (some (t647, t655, true))) = some (r1, r2, r3) := by first | (rw [hy652]; with_reducible exact H) | (have H2_ := (Option.bind_some _ _).symm.trans H; rw [hy652]; with_reducible exact H2_) | (have H2_ := (Option.bind_some _ _).symm.trans H; with_reducible exact H2_) | with_reducible exact H | (rw [hy652]; exact H) | exact H
    have Ny652 := Aside0.mk hy652
    clear hy652
    replace H := Option.bind_eq_some_iff.mp H
    obtain ⟨t655, A380, H⟩ := H
    replace H : (some (t647, t655, true)) = some (r1, r2, r3) := H
    have A38 := Aside0.mk A380
    clear A380
    simp only [Option.some.injEq, Prod.mk.injEq] at H
    obtain ⟨rfl, rfl, rfl⟩ := H
    have hnb39 := NB643_644.out
    have hnc39 := NB644_643.out
    have hcz40_0 : wc.cell? ⟨gb643, 0, none⟩ = some (.int .i64 a0_0) := (blk_cell BK643.out 0).trans rfl
    have hcz40_1 : wc.cell? ⟨gb643, 1, none⟩ = some (.slice A0_1 l0_1.length c0_1) := (blk_cell BK643.out 1).trans rfl
    have hfz40_0 := blk_frozen BK643.out 0
    have hfz40_1 := blk_frozen BK643.out 1
    go_wp2_with (first | ((with_reducible refine gate_callee (f := 69) rfl ?_); refine goesM_ (some 32) rfl rfl Try.func69 (by kernel_rfl) rfl #[.agg #[.int .i64 a0_0, .slice A0_1 l0_1.length c0_1]] rfl ?_; (with_reducible refine (impl_copyGraph.calls a0_0 _ _ l0_1 t647 t648 _ ?side1 ?side2 A34.out).mono ?_); (case side1 => exact Cz ((Kd.C_below HR0_1.out HB.out))); (case side2 => exact HC0_1.out); rintro e w41 ⟨v649, rfl, ho0, hb⟩; refine ⟨_, rfl, ?_⟩; have HO650 := Aside0.mk (Kd.R_lower ho0 (below_size (by exact Lz2 HB GE643 GE644))); replace BK643 := Aside0.mk (blk_below (g := gb643) (o := .cells #[.int .i64 a0_0, .slice A0_1 l0_1.length c0_1] 30 (0, 0)) (Bz BK643) hb); replace BK644 := Aside0.mk (blk_below (g := gb644) (o := .cells #[.int .i64 0, .slice none 0 0] 30 (0, 0)) (Bz BK644) hb); replace HB := Aside0.mk (below_step (by exact Lz2 HB GE643 GE644) hb); (try clear hb); (try clear ho0)) | ((with_reducible refine gate_dst (N := 8) rfl ?_); (try (refine gate_guard (by rfl) ?_; dsimp only)); refine box_event ?hg (N := 8) ?hd (cs := #[.int .i64 0, .slice none 0 0]) (t := 30) ?hr ?_; (case hd => rfl); (case hg => rfl); (case hr => first | (go_simp; done) | (go_simp; rfl)); intro gb651 hg w42 hbox hb; replace HO650 := Aside0.mk (Kd.R_below (Rz HO650) hb); have BK651 := Aside0.mk (hbox); have GW651 := Aside0.mk ((by rw [hg]; exact (below_size (by exact Lz2 HB GE643 GE644)) : w.heap.size ≤ gb651)); have GE651 := Aside0.mk ((by rw [hg]; exact (below_size (by exact Lz2 HB GE643 GE644)) : w.heap.size ≤ gb651)); replace HB := Aside0.mk (below_step (by exact Lz2 HB GE643 GE644) hb); have NB643_651 := Aside0.mk ((by rw [hg]; exact Nat.ne_of_lt (blk_lt (g := gb643) (o := .cells #[.int .i64 a0_0, .slice A0_1 l0_1.length c0_1] 30 (0, 0)) (Bz BK643)) : gb643 ≠ gb651)); have NB651_643 := Aside0.mk ((by rw [hg]; exact Nat.ne_of_gt (blk_lt (g := gb643) (o := .cells #[.int .i64 a0_0, .slice A0_1 l0_1.length c0_1] 30 (0, 0)) (Bz BK643)) : gb651 ≠ gb643)); replace BK643 := Aside0.mk (blk_below (g := gb643) (o := .cells #[.int .i64 a0_0, .slice A0_1 l0_1.length c0_1] 30 (0, 0)) (Bz BK643) hb); have NB644_651 := Aside0.mk ((by rw [hg]; exact Nat.ne_of_lt (blk_lt (g := gb644) (o := .cells #[.int .i64 0, .slice none 0 0] 30 (0, 0)) (Bz BK644)) : gb644 ≠ gb651)); have NB651_644 := Aside0.mk ((by rw [hg]; exact Nat.ne_of_gt (blk_lt (g := gb644) (o := .cells #[.int .i64 0, .slice none 0 0] 30 (0, 0)) (Bz BK644)) : gb651 ≠ gb644)); replace BK644 := Aside0.mk (blk_below (g := gb644) (o := .cells #[.int .i64 0, .slice none 0 0] 30 (0, 0)) (Bz BK644) hb); clear hb hbox hg; have hnb43 := NB651_643.out; have hnc43 := NB643_651.out; have hnb44 := NB651_644.out; have hnc44 := NB644_651.out; have hcz45_0 : w42.cell? ⟨gb651, 0, none⟩ = some (.int .i64 0) := (blk_cell BK651.out 0).trans rfl; have hcz45_1 : w42.cell? ⟨gb651, 1, none⟩ = some (.slice none 0 0) := (blk_cell BK651.out 1).trans rfl; have hfz45_0 := blk_frozen BK651.out 0; have hfz45_1 := blk_frozen BK651.out 1; obtain ⟨Ao46, co46, eo46⟩ := Kd.R_slice HO650.out; subst eo46) | ((with_reducible refine gate_builtin (b := .append) (xs := #[.tmp 34, .tmp 42]) rfl ?_); (try (refine gate_guard (by rfl) ?_; dsimp only)); at_builtin; refine Kd.R_append k57 (w0 := w) w.heap.size rfl (.tmp 34) (.tmp 42) 28 57 (.agg #[(.int .i64 0), (.int .i64 0)]) 16 rfl Try.underlying28 info57 rfl (by decide) (by omega) (.slice Ao46 t648.length co46) t648 (⟨ji35, ji36⟩ : S57) [.int .i64 ji35, .int .i64 ji36] (fun _ => True) (fun _ => False) rfl (by first | (go_simp; done) | (go_simp; rfl)) ?aP (fun _ hk => hk.elim) ?aF ?aO ?aB ?aS ?aL ?_; (case aP => exact k57_mkM _ _ _ (⟨ji35, ji36⟩ : S57)); (case aB => exact (by exact Lz3 HB GE643 GE644 GE651)); (case aF => exact (fun _ _ => trivial)); (case aO => exact (by (with_reducible repeat (first | apply Kd.R_alloc | apply Kd.R_drewN | apply Kd.R_drew)); exact Kd.R_mono (Kd.R_far (p := ⟨gb651, 1, none⟩) (Kd.R_far (p := ⟨gb651, 0, none⟩) (Kd.R_types HO650.out BK651.out (by decide)) (fun _ hk => hk.2) (.int .i64 t647)) (fun _ hk => hk.2) (.slice Ao46 t648.length co46)) (fun _ hk => trivial))); (case aS => exact (below_size (by exact Lz3 HB GE643 GE644 GE651))); (case aL => have := LMc37.out; omega); intro v653 w47 ho hb hg hat; rw [← Ny652.out] at ho; replace BK643 := Aside0.mk (blk_grown (g := gb643) (o := .cells #[.int .i64 a0_0, .slice A0_1 l0_1.length c0_1] 30 (0, 0)) (by (with_reducible repeat (first | refine blk_drewN ?_ _ | refine blk_drew ?_ | refine blk_alloc ?_ _)); refine blk_far ?_ NB643_651.out _; (with_reducible repeat (first | refine blk_drewN ?_ _ | refine blk_drew ?_ | refine blk_alloc ?_ _)); refine blk_far ?_ NB643_651.out _; exact Bz BK643) hg (Kd.R_ne HO650.out BK643.out (by decide))); replace BK644 := Aside0.mk (blk_grown (g := gb644) (o := .cells #[.int .i64 0, .slice none 0 0] 30 (0, 0)) (by (with_reducible repeat (first | refine blk_drewN ?_ _ | refine blk_drew ?_ | refine blk_alloc ?_ _)); refine blk_far ?_ NB644_651.out _; (with_reducible repeat (first | refine blk_drewN ?_ _ | refine blk_drew ?_ | refine blk_alloc ?_ _)); refine blk_far ?_ NB644_651.out _; exact Bz BK644) hg (Kd.R_ne HO650.out BK644.out (by decide))); replace BK651 := Aside0.mk (blk_grown (g := gb651) (o := .cells #[.int .i64 t647, .slice Ao46 t648.length co46] 30 (0, 0)) (by (with_reducible repeat (first | refine blk_drewN ?_ _ | refine blk_drew ?_ | refine blk_alloc ?_ _)); refine blk_put (cs := #[.int .i64 t647, .slice none 0 0]) ?_ 1 _ rfl; (with_reducible repeat (first | refine blk_drewN ?_ _ | refine blk_drew ?_ | refine blk_alloc ?_ _)); refine blk_put (cs := #[.int .i64 0, .slice none 0 0]) ?_ 0 _ rfl; exact Bz BK651) hg (Kd.R_ne HO650.out BK651.out (by decide))); replace HB := Aside0.mk (hb); have HO654 := Aside0.mk (ho); clear HO650; clear ho hb hg hat; obtain ⟨Ao48, co48, eo48⟩ := Kd.R_slice HO654.out; subst eo48; have hcz49_0 : w47.cell? ⟨gb651, 0, none⟩ = some (.int .i64 t647) := (blk_cell BK651.out 0).trans rfl; have hcz49_1 : w47.cell? ⟨gb651, 1, none⟩ = some (.slice Ao46 t648.length co46) := (blk_cell BK651.out 1).trans rfl; have hfz49_0 := blk_frozen BK651.out 0; have hfz49_1 := blk_frozen BK651.out 1) | ((with_reducible refine gate_store (t := 28) (p := 44) rfl ?_); refine store_event (t := 28) (p := 44) (v := ?vo_w50) (w1 := (w47.setCell ⟨gb651, 1, none⟩ (.slice Ao48 y652.length co48))) ?hg ?ho ?hn ?hr ?_; (case ho => rfl); (case hg => rfl); (case hn => rfl); (case hr => first | (go_simp; done) | (go_simp; rfl)); intro w50 hw; have n0_ : Aside0 (Kd.R k57 57 w50 w.heap.size (fun _ => True) (.slice Ao48 y652.length co48) y652) := ⟨(by rw [hw]; exact (by (with_reducible repeat (first | apply Kd.R_alloc | apply Kd.R_drewN | apply Kd.R_drew)); exact Kd.R_mono (Kd.R_far (p := ⟨gb651, 1, none⟩) (Kd.R_types HO654.out BK651.out (by decide)) (fun _ hk => hk.2) (.slice Ao48 y652.length co48)) (fun _ hk => trivial)))⟩; have n1_ : Aside0 (w50.heap[gb643]? = some (.cells #[.int .i64 a0_0, .slice A0_1 l0_1.length c0_1] 30 (0, 0))) := ⟨(by rw [hw]; exact (by (with_reducible repeat (first | refine blk_drewN ?_ _ | refine blk_drew ?_ | refine blk_alloc ?_ _)); refine blk_far ?_ NB643_651.out _; exact Bz BK643))⟩; have n2_ : Aside0 (w50.heap[gb644]? = some (.cells #[.int .i64 0, .slice none 0 0] 30 (0, 0))) := ⟨(by rw [hw]; exact (by (with_reducible repeat (first | refine blk_drewN ?_ _ | refine blk_drew ?_ | refine blk_alloc ?_ _)); refine blk_far ?_ NB644_651.out _; exact Bz BK644))⟩; have n3_ : Aside0 (w50.heap[gb651]? = some (.cells #[.int .i64 t647, .slice Ao48 y652.length co48] 30 (0, 0))) := ⟨(by rw [hw]; exact (by (with_reducible repeat (first | refine blk_drewN ?_ _ | refine blk_drew ?_ | refine blk_alloc ?_ _)); refine blk_put (cs := #[.int .i64 t647, .slice Ao46 t648.length co46]) ?_ 1 _ rfl; exact Bz BK651))⟩; have n4_ : Aside0 (Below w.heap.size w w50) := ⟨(by rw [hw]; exact (by exact Lz3 HB GE643 GE644 GE651))⟩; clear hw; clear HO654; clear BK643; clear BK644; clear BK651; clear HB; have HO654 := n0_; have BK643 := n1_; have BK644 := n2_; have BK651 := n3_; have HB := n4_; clear n0_ n1_ n2_ n3_ n4_; have hcz51_0 : w50.cell? ⟨gb651, 0, none⟩ = some (.int .i64 t647) := (blk_cell BK651.out 0).trans rfl; have hcz51_1 : w50.cell? ⟨gb651, 1, none⟩ = some (.slice Ao48 y652.length co48) := (blk_cell BK651.out 1).trans rfl; have hfz51_0 := blk_frozen BK651.out 0; have hfz51_1 := blk_frozen BK651.out 1) | ((with_reducible refine gate_callee (f := 78) rfl ?_); refine goesM_ (some 47) rfl rfl Try.func78 (by kernel_rfl) rfl #[.slice Ao48 y652.length co48, .func (.func 76) #[] #[]] rfl ?_; (with_reducible refine (slices_SortFunc_Edge.calls (fun k_ => some k_ = (.slice Ao48 y652.length co48 : Value).ownBlock) (.slice Ao48 y652.length co48) y652 t655 w _ ?side1 ?side2 A38.out).mono ?_); (case side1 => exact Lz3 HB GE643 GE644 GE651); (case side2 => exact Kd.R_tight rfl HO654.out); rintro e w52 ⟨rfl, hy0, hb, hkp⟩; refine ⟨_, rfl, ?_⟩; replace BK643 := Aside0.mk (blk_kept (Bz BK643) hkp (fun hs_ => (fun e_ => (Kd.R_ne HO654.out BK643.out (by decide)) e_) hs_)); replace BK644 := Aside0.mk (blk_kept (Bz BK644) hkp (fun hs_ => (fun e_ => (Kd.R_ne HO654.out BK644.out (by decide)) e_) hs_)); replace BK651 := Aside0.mk (blk_kept (Bz BK651) hkp (fun hs_ => (fun e_ => (Kd.R_ne HO654.out BK651.out (by decide)) e_) hs_)); replace HO654 := Aside0.mk (Kd.R_reok rfl hy0 (fun k_ e_ => HO654.out.1 k_ e_)); replace HB := Aside0.mk (hb); (try clear hb); (try clear hkp); (try clear hy0); have hcz53_0 : w52.cell? ⟨gb651, 0, none⟩ = some (.int .i64 t647) := (blk_cell BK651.out 0).trans rfl; have hcz53_1 : w52.cell? ⟨gb651, 1, none⟩ = some (.slice Ao48 y652.length co48) := (blk_cell BK651.out 1).trans rfl; have hfz53_0 := blk_frozen BK651.out 0; have hfz53_1 := blk_frozen BK651.out 1; have hcz54_0 : w52.cell? ⟨gb644, 0, none⟩ = some (.int .i64 0) := (blk_cell BK644.out 0).trans rfl; have hcz54_1 : w52.cell? ⟨gb644, 1, none⟩ = some (.slice none 0 0) := (blk_cell BK644.out 1).trans rfl; have hfz54_0 := blk_frozen BK644.out 0; have hfz54_1 := blk_frozen BK644.out 1))
    refine bodyPost_ret (results_ct rfl _ _ gb644 30 #[.int .i64 t647, .slice Ao48 y652.length co48] (0, 0) _ rfl (by (with_reducible repeat (first | refine blk_drewN ?_ _ | refine blk_drew ?_ | refine blk_alloc ?_ _)); refine blk_put (cs := #[.int .i64 t647, .slice none 0 0]) ?_ 1 _ rfl; (with_reducible repeat (first | refine blk_drewN ?_ _ | refine blk_drew ?_ | refine blk_alloc ?_ _)); refine blk_put (cs := #[.int .i64 0, .slice none 0 0]) ?_ 0 _ rfl; exact Bz BK644) Try.underlying30 rfl (by kernel_rfl)) rfl ?_
    exact ⟨_, by first | rfl | (simp [errW_none, errW_some] <;> rfl) | (simp only [← hji35, ← hji36]; first | rfl | (simp [errW_none, errW_some] <;> rfl)) | (simp [*, errW_none, errW_some] <;> rfl), by (with_reducible repeat (first | apply Kd.R_alloc | apply Kd.R_drewN | apply Kd.R_drew)); exact Kd.R_mono (Kd.R_far (p := ⟨gb644, 1, none⟩) (Kd.R_far (p := ⟨gb644, 0, none⟩) (Kd.R_types HO654.out BK644.out (by decide)) (fun _ hk => hk.2) (.int .i64 t647)) (fun _ hk => hk.2) (.slice Ao48 y652.length co48)) (fun _ hk => trivial), by exact Lz3 HB GE643 GE644 GE651⟩
   rw [if_neg c37] at H
   exact absurd H (by simp)
def impl_GenusOf.f (k : Nat) (a0_0 : Int) (l0_1 : List (S57)) : Option (Int) := (impl_GraphOk.f k a0_0 l0_1).bind fun t657 => (if t657 = true then (some (wrap64 ((wrap64 ((l0_1.length : Int) - a0_0)) + 1))) else (some (-1)))
set_option maxHeartbeats 8000000 in
set_option maxRecDepth 100000 in
theorem impl_GenusOf.calls (k : Nat) (a0_0 : Int) (A0_1 : Option Addr) (c0_1 : Nat) (l0_1 : List (S57)) (r : Int) (w : World) (hr0_1 : Kd.C k57 w A0_1 l0_1.length l0_1) (hc0_1 : l0_1.length ≤ c0_1) (h : impl_GenusOf.f k a0_0 l0_1 = some r) :
  Calls Try.prog 44 #[.agg #[.int .i64 a0_0, .slice A0_1 l0_1.length c0_1]] w fun e w' => e = .returned (.int .i64 r) ∧ Below w.heap.size w w' := by
 have hu30 := Try.underlying30
 have HR0_1 := Aside0.mk hr0_1
 have HC0_1 := Aside0.mk hc0_1
 clear hr0_1 hc0_1
 have HB := Aside0.mk (Below.refl w.heap.size w)
 have H : ((impl_GraphOk.f k a0_0 l0_1).bind fun t657 => (if t657 = true then (some (wrap64 ((wrap64 ((l0_1.length : Int) - a0_0)) + 1))) else (some (-1)))) = some r := h
 clear h
 replace H := Option.bind_eq_some_iff.mp H
 obtain ⟨t657, A20, H⟩ := H
 replace H : (if t657 = true then (some (wrap64 ((wrap64 ((l0_1.length : Int) - a0_0)) + 1))) else (some (-1))) = some r := H
 have A2 := Aside0.mk A20
 clear A20
 by_cases c3 : t657 = true
 ·subst c3
  have H1 : (some (wrap64 ((wrap64 ((l0_1.length : Int) - a0_0)) + 1))) = some r := by rw [if_pos rfl] at H; exact H
  clear H
  have H := H1
  clear H1
  obtain rfl := Option.some.inj H
  go_enter Try.func44, Try.ntmps44
  go_wp2_with (first | ((with_reducible refine gate_dst (N := 1) rfl ?_); refine box_event ?hg (N := 1) ?hd (cs := #[.int .i64 a0_0, .slice A0_1 l0_1.length c0_1]) (t := 30) ?hr ?_; (case hd => rfl); (case hg => rfl); (case hr => first | (go_simp; done) | (go_simp; rfl)); intro gb656 hg w4 hbox hb; have BK656 := Aside0.mk (hbox); have GW656 := Aside0.mk ((by rw [hg]; exact (below_size (Lz HB)) : w.heap.size ≤ gb656)); have GE656 := Aside0.mk ((by rw [hg]; exact (below_size (Lz HB)) : w.heap.size ≤ gb656)); replace HB := Aside0.mk (below_step (Lz HB) hb); clear hb hbox hg; have hcz5_0 : w4.cell? ⟨gb656, 0, none⟩ = some (.int .i64 a0_0) := (blk_cell BK656.out 0).trans rfl; have hcz5_1 : w4.cell? ⟨gb656, 1, none⟩ = some (.slice A0_1 l0_1.length c0_1) := (blk_cell BK656.out 1).trans rfl; have hfz5_0 := blk_frozen BK656.out 0; have hfz5_1 := blk_frozen BK656.out 1) | ((with_reducible refine gate_callee (f := 38) rfl ?_); refine goesM_ (some 4) rfl rfl Try.func38 (by kernel_rfl) rfl #[.agg #[.int .i64 a0_0, .slice A0_1 l0_1.length c0_1]] rfl ?_; (with_reducible refine (impl_GraphOk.calls k a0_0 _ _ l0_1 true _ ?side1 ?side2 A2.out).mono ?_); (case side1 => exact Cz ((Kd.C_below HR0_1.out HB.out))); (case side2 => exact HC0_1.out); rintro e w6 ⟨rfl, hb⟩; refine ⟨_, rfl, ?_⟩; replace BK656 := Aside0.mk (blk_below (g := gb656) (o := .cells #[.int .i64 a0_0, .slice A0_1 l0_1.length c0_1] 30 (0, 0)) (Bz BK656) hb); replace HB := Aside0.mk (below_step (by exact Lz1 HB GE656) hb); (try clear hb); (try clear hb2); (try clear hk); (try clear hi); have hcz7_0 : w6.cell? ⟨gb656, 0, none⟩ = some (.int .i64 a0_0) := (blk_cell BK656.out 0).trans rfl; have hcz7_1 : w6.cell? ⟨gb656, 1, none⟩ = some (.slice A0_1 l0_1.length c0_1) := (blk_cell BK656.out 1).trans rfl; have hfz7_0 := blk_frozen BK656.out 0; have hfz7_1 := blk_frozen BK656.out 1))
  go_ret
  exact ⟨by first | rfl | (simp [errW_none, errW_some] <;> rfl) | (simp [*, errW_none, errW_some] <;> rfl), by exact Lz1 HB GE656⟩
 replace c3 := Bool.eq_false_iff.mpr c3
 subst c3
 have H1 : (some (-1)) = some r := by rw [if_neg (show ¬ (false = true) by decide)] at H; exact H
 clear H
 have H := H1
 clear H1
 obtain rfl := Option.some.inj H
 go_enter Try.func44, Try.ntmps44
 go_wp2_with (first | ((with_reducible refine gate_dst (N := 1) rfl ?_); refine box_event ?hg (N := 1) ?hd (cs := #[.int .i64 a0_0, .slice A0_1 l0_1.length c0_1]) (t := 30) ?hr ?_; (case hd => rfl); (case hg => rfl); (case hr => first | (go_simp; done) | (go_simp; rfl)); intro gb656 hg w8 hbox hb; have BK656 := Aside0.mk (hbox); have GW656 := Aside0.mk ((by rw [hg]; exact (below_size (Lz HB)) : w.heap.size ≤ gb656)); have GE656 := Aside0.mk ((by rw [hg]; exact (below_size (Lz HB)) : w.heap.size ≤ gb656)); replace HB := Aside0.mk (below_step (Lz HB) hb); clear hb hbox hg; have hcz9_0 : w8.cell? ⟨gb656, 0, none⟩ = some (.int .i64 a0_0) := (blk_cell BK656.out 0).trans rfl; have hcz9_1 : w8.cell? ⟨gb656, 1, none⟩ = some (.slice A0_1 l0_1.length c0_1) := (blk_cell BK656.out 1).trans rfl; have hfz9_0 := blk_frozen BK656.out 0; have hfz9_1 := blk_frozen BK656.out 1) | ((with_reducible refine gate_callee (f := 38) rfl ?_); refine goesM_ (some 4) rfl rfl Try.func38 (by kernel_rfl) rfl #[.agg #[.int .i64 a0_0, .slice A0_1 l0_1.length c0_1]] rfl ?_; (with_reducible refine (impl_GraphOk.calls k a0_0 _ _ l0_1 false _ ?side1 ?side2 A2.out).mono ?_); (case side1 => exact Cz ((Kd.C_below HR0_1.out HB.out))); (case side2 => exact HC0_1.out); rintro e w10 ⟨rfl, hb⟩; refine ⟨_, rfl, ?_⟩; replace BK656 := Aside0.mk (blk_below (g := gb656) (o := .cells #[.int .i64 a0_0, .slice A0_1 l0_1.length c0_1] 30 (0, 0)) (Bz BK656) hb); replace HB := Aside0.mk (below_step (by exact Lz1 HB GE656) hb); (try clear hb); (try clear hb2); (try clear hk); (try clear hi)))
 go_ret
 exact ⟨by first | rfl | (simp [errW_none, errW_some] <;> rfl) | (simp [*, errW_none, errW_some] <;> rfl), by exact Lz1 HB GE656⟩
theorem eqA57 (d : Nat) (w : World) (x0 y0 : Int) (x1 y1 : Int) :
    (Op.equalIn (d + 2) 57 (.agg #[.int .i64 x0, .int .i64 x1]) (.agg #[.int .i64 y0, .int .i64 y1])).run Try.prog w = .ok (x0 == y0 && (x1 == y1)) w := by
  refine eqA_of Try.underlying57 (by kernel_rfl) ?_
  refine eqf_cons (by rfl) (by go_simp; rfl) (by go_simp; rfl) (by go_simp) ?_
  exact eqf_last (by rfl) (by go_simp; rfl) (by go_simp; rfl) (by go_simp)
end Go.Proofs.Ytplcclifmajcfaa.P
end
section
namespace Go.Proofs.Ytplcclifmajcfaa.P
open Go.RowKit Go.Proofs.YtplcclifmajcfaaW.PrintWords Go.Proofs.YtplcclifmajcfaaW.PrintLast Go.Proofs.YtplcclifmajcfaaW.PrintMore
attribute [local go_sem] max2_int min2_int max_two min_two max_three min_three max_four min_four
set_option linter.unusedVariables false
set_option linter.unusedSimpArgs false
attribute [local go_sem high] eqA57
def slices_Equal_Edge.l0 : Nat → List (S57) → List (S57) → Int → Int → Option (Bool)
 | 0, _, _, _, _ => none
 | k + 1, x0, x1, x12, x13 => if x13 < x12 then (if 0 ≤ x13 then (if x13 < (x0.length : Int) then (if x13 < (x1.length : Int) then (if (!(((rd_T57 x0 x13).f0) == ((rd_T57 x1 x13).f0)) || (!(((rd_T57 x0 x13).f1) == ((rd_T57 x1 x13).f1)))) = true then (some false) else (slices_Equal_Edge.l0 k x0 x1 x12 (wrap64 (x13 + 1)))) else (none)) else (none)) else (none)) else (some true)
def slices_Equal_Edge.f (k : Nat) (l0 : List (S57)) (l1 : List (S57)) : Option (Bool) := if (l0.length : Int) = (l1.length : Int) then (slices_Equal_Edge.l0 k l0 l1 (l0.length : Int) 0) else (some false)
set_option maxHeartbeats 8000000 in
set_option maxRecDepth 100000 in
theorem slices_Equal_Edge.calls (k : Nat) (A0 : Option Addr) (c0 : Nat) (l0 : List (S57)) (A1 : Option Addr) (c1 : Nat) (l1 : List (S57)) (r : Bool) (w : World) (hr0 : Kd.C k57 w A0 l0.length l0) (hc0 : l0.length ≤ c0) (hr1 : Kd.C k57 w A1 l1.length l1) (hc1 : l1.length ≤ c1) (h : slices_Equal_Edge.f k l0 l1 = some r) :
  Calls Try.prog 79 #[.slice A0 l0.length c0, .slice A1 l1.length c1] w fun e w' => e = .returned (.bool r) ∧ Drawn0 w w' := by
 have hu57 := Try.underlying57
 have HR0 := Aside0.mk hr0
 have HC0 := Aside0.mk hc0
 clear hr0 hc0
 have HR1 := Aside0.mk hr1
 have HC1 := Aside0.mk hc1
 clear hr1 hc1
 have H : (if (l0.length : Int) = (l1.length : Int) then (slices_Equal_Edge.l0 k l0 l1 (l0.length : Int) 0) else (some false)) = some r := h
 clear h
 by_cases c3 : (l0.length : Int) = (l1.length : Int)
 ·rw [if_pos c3] at H
  have c3b0 : ((l0.length : Int) == (l1.length : Int)) = true := beq_iff_eq.mpr c3
  have c3b1 : ((l0.length : Int) != (l1.length : Int)) = false := bne_eq_false_iff_eq.mpr c3
  have c3b2 : (l0.length == l1.length) = true := by first | simpa using c3 | (simp at c3 ⊢; omega)
  clear c3
  have H' := Aside0.mk H
  clear H
  go_enter Try.func79, Try.ntmps79
  go_wp2
  repeat (go_quiet (fail); try go_wp2)
  go_loopg [13] k (fun kq v13 w' => ∃ (x13_1 : Int), v13 = .int .i64 x13_1 ∧ Aside0 (slices_Equal_Edge.l0 kq l0 l1 (l0.length : Int) x13_1 = some r) ∧ Aside0 (kq ≤ k) ∧ Drawn0 w w')
  case atStart => exact ⟨(0), eqA, H', ⟨Nat.le_refl _⟩, by repeat (first | exact Drawn0.refl _ | apply Drawn0.step)⟩
  case round =>
   clear H'
   try clear c1
   try clear c3
   try clear c3b0
   try clear c3b1
   try clear c3b2
   obtain ⟨x13_1, rfl, HA, HK1, ⟨m1, rfl⟩⟩ := hrel
   cases gk with
   | zero => exact absurd HA.out (by simp [slices_Equal_Edge.l0])
   | succ k1 =>
    have H := HA.out
    clear HA
    simp only [slices_Equal_Edge.l0] at H
    by_cases c4 : x13_1 < (l0.length : Int)
    ·rw [if_pos c4] at H
     have c4b0 : decide (x13_1 < (l0.length : Int)) = true := decide_eq_true c4
     clear c4
     by_cases c5 : 0 ≤ x13_1
     ·rw [if_pos c5] at H
      have c5b0 : decide (0 ≤ x13_1) = true := decide_eq_true c5
      clear c5
      by_cases c6 : x13_1 < (l0.length : Int)
      ·rw [if_pos c6] at H
       have c6b0 : decide (x13_1 < (l0.length : Int)) = true := decide_eq_true c6
       clear c6
       by_cases c7 : x13_1 < (l1.length : Int)
       ·rw [if_pos c7] at H
        have c7b0 : decide (x13_1 < (l1.length : Int)) = true := decide_eq_true c7
        clear c7
        by_cases c8 : (!(((rd_T57 l0 x13_1).f0) == ((rd_T57 l1 x13_1).f0)) || (!(((rd_T57 l0 x13_1).f1) == ((rd_T57 l1 x13_1).f1)))) = true
        ·rw [if_pos c8] at H
         have c8b0 : (!(((rd_T57 l0 x13_1).f0) == ((rd_T57 l1 x13_1).f0)) || (!(((rd_T57 l0 x13_1).f1) == ((rd_T57 l1 x13_1).f1)))) = true := c8
         clear c8
         obtain rfl := Option.some.inj H
         have p658 : 0 ≤ (x13_1 : Int) := ofA
         have q658 : x13_1 < (l0.length : Int) := ofA
         obtain ⟨ad658, e658, hx658_0, hx658_1⟩ := at_T57 HR0.out x13_1 p658 q658
         cases e658
         replace p658 := eq_true p658
         replace q658 := eq_true q658
         have p659 : 0 ≤ (x13_1 : Int) := ofA
         have q659 : x13_1 < (l1.length : Int) := ofA
         obtain ⟨ad659, e659, hx659_0, hx659_1⟩ := at_T57 HR1.out x13_1 p659 q659
         cases e659
         replace p659 := eq_true p659
         replace q659 := eq_true q659
         go_wp2
         repeat (go_quiet (fail); try go_wp2)
         go_ret
         exact ⟨eqA, by repeat (first | exact Drawn0.refl _ | apply Drawn0.step)⟩
        rw [if_neg c8] at H
        have c8b0 : (!(((rd_T57 l0 x13_1).f0) == ((rd_T57 l1 x13_1).f0)) || (!(((rd_T57 l0 x13_1).f1) == ((rd_T57 l1 x13_1).f1)))) = false := by simpa using c8
        clear c8
        have H' := Aside0.mk H
        clear H
        have p658 : 0 ≤ (x13_1 : Int) := ofA
        have q658 : x13_1 < (l0.length : Int) := ofA
        obtain ⟨ad658, e658, hx658_0, hx658_1⟩ := at_T57 HR0.out x13_1 p658 q658
        cases e658
        replace p658 := eq_true p658
        replace q658 := eq_true q658
        have p659 : 0 ≤ (x13_1 : Int) := ofA
        have q659 : x13_1 < (l1.length : Int) := ofA
        obtain ⟨ad659, e659, hx659_0, hx659_1⟩ := at_T57 HR1.out x13_1 p659 q659
        cases e659
        replace p659 := eq_true p659
        replace q659 := eq_true q659
        go_wp2
        repeat (go_quiet (fail); try go_wp2)
        go_roundg k1
        case measure => have := HK1.out; omega
        case rel => exact ⟨(wrap64 (x13_1 + 1)), eqA, H', ⟨by have := HK1.out; omega⟩, by repeat (first | exact Drawn0.refl _ | apply Drawn0.step)⟩
       rw [if_neg c7] at H
       exact absurd H (by simp)
      rw [if_neg c6] at H
      exact absurd H (by simp)
     rw [if_neg c5] at H
     exact absurd H (by simp)
    rw [if_neg c4] at H
    have c4b0 : decide (x13_1 < (l0.length : Int)) = false := decide_eq_false c4
    clear c4
    obtain rfl := Option.some.inj H
    go_wp2
    repeat (go_quiet (fail); try go_wp2)
    go_ret
    exact ⟨eqA, by repeat (first | exact Drawn0.refl _ | apply Drawn0.step)⟩
 rw [if_neg c3] at H
 have c3b0 : ((l0.length : Int) == (l1.length : Int)) = false := beq_eq_false_iff_ne.mpr c3
 have c3b1 : ((l0.length : Int) != (l1.length : Int)) = true := bne_iff_ne.mpr c3
 have c3b2 : (l0.length == l1.length) = false := by first | simpa using c3 | (simp at c3 ⊢; omega)
 obtain rfl := Option.some.inj H
 go_enter Try.func79, Try.ntmps79
 go_wp2
 repeat (go_quiet (fail); try go_wp2)
 go_ret
 exact ⟨eqA, by repeat (first | exact Drawn0.refl _ | apply Drawn0.step)⟩
end Go.Proofs.Ytplcclifmajcfaa.P
end
section
namespace Go.Proofs.Ytplcclifmajcfaa.P
open Go.RowKit Go.Proofs.YtplcclifmajcfaaW.PrintWords Go.Proofs.YtplcclifmajcfaaW.PrintLast Go.Proofs.YtplcclifmajcfaaW.PrintMore
attribute [local go_sem] max2_int min2_int max_two min_two max_three min_three max_four min_four
set_option linter.unusedVariables false
set_option linter.unusedSimpArgs false
def impl_SameGraph.f (k : Nat) (a0_0 : Int) (l0_1 : List (S57)) (a1_0 : Int) (l1_1 : List (S57)) : Option (Bool) := if a0_0 = a1_0 then ((slices_Equal_Edge.f k l0_1 l1_1).bind fun t662 => (some t662)) else (some false)
set_option maxHeartbeats 8000000 in
set_option maxRecDepth 100000 in
theorem impl_SameGraph.calls (k : Nat) (a0_0 : Int) (A0_1 : Option Addr) (c0_1 : Nat) (l0_1 : List (S57)) (a1_0 : Int) (A1_1 : Option Addr) (c1_1 : Nat) (l1_1 : List (S57)) (r : Bool) (w : World) (hr0_1 : Kd.C k57 w A0_1 l0_1.length l0_1) (hc0_1 : l0_1.length ≤ c0_1) (hr1_1 : Kd.C k57 w A1_1 l1_1.length l1_1) (hc1_1 : l1_1.length ≤ c1_1) (h : impl_SameGraph.f k a0_0 l0_1 a1_0 l1_1 = some r) :
  Calls Try.prog 45 #[.agg #[.int .i64 a0_0, .slice A0_1 l0_1.length c0_1], .agg #[.int .i64 a1_0, .slice A1_1 l1_1.length c1_1]] w fun e w' => e = .returned (.bool r) ∧ Below w.heap.size w w' := by
 have hu30 := Try.underlying30
 have HR0_1 := Aside0.mk hr0_1
 have HC0_1 := Aside0.mk hc0_1
 clear hr0_1 hc0_1
 have HR1_1 := Aside0.mk hr1_1
 have HC1_1 := Aside0.mk hc1_1
 clear hr1_1 hc1_1
 have HB := Aside0.mk (Below.refl w.heap.size w)
 have H : (if a0_0 = a1_0 then ((slices_Equal_Edge.f k l0_1 l1_1).bind fun t662 => (some t662)) else (some false)) = some r := h
 clear h
 by_cases c3 : a0_0 = a1_0
 ·rw [if_pos c3] at H
  have c3b0 : (a0_0 == a1_0) = true := beq_iff_eq.mpr c3
  have c3b1 : (a0_0 != a1_0) = false := bne_eq_false_iff_eq.mpr c3
  clear c3
  replace H := Option.bind_eq_some_iff.mp H
  obtain ⟨t662, A40, H⟩ := H
  replace H : (some t662) = some r := H
  have A4 := Aside0.mk A40
  clear A40
  obtain rfl := Option.some.inj H
  go_enter Try.func45, Try.ntmps45
  go_wp2_with (first | ((with_reducible refine gate_dst (N := 2) rfl ?_); refine box_event ?hg (N := 2) ?hd (cs := #[.int .i64 a0_0, .slice A0_1 l0_1.length c0_1]) (t := 30) ?hr ?_; (case hd => rfl); (case hg => rfl); (case hr => first | (go_simp; done) | (go_simp; rfl)); intro gb660 hg w5 hbox hb; have BK660 := Aside0.mk (hbox); have GW660 := Aside0.mk ((by rw [hg]; exact (below_size (Lz HB)) : w.heap.size ≤ gb660)); have GE660 := Aside0.mk ((by rw [hg]; exact (below_size (Lz HB)) : w.heap.size ≤ gb660)); replace HB := Aside0.mk (below_step (Lz HB) hb); clear hb hbox hg) | ((with_reducible refine gate_dst (N := 3) rfl ?_); refine box_event ?hg (N := 3) ?hd (cs := #[.int .i64 a1_0, .slice A1_1 l1_1.length c1_1]) (t := 30) ?hr ?_; (case hd => rfl); (case hg => rfl); (case hr => first | (go_simp; done) | (go_simp; rfl)); intro gb661 hg w6 hbox hb; have BK661 := Aside0.mk (hbox); have GW661 := Aside0.mk ((by rw [hg]; exact (below_size (by exact Lz1 HB GE660)) : w.heap.size ≤ gb661)); have GE661 := Aside0.mk ((by rw [hg]; exact (below_size (by exact Lz1 HB GE660)) : w.heap.size ≤ gb661)); replace HB := Aside0.mk (below_step (by exact Lz1 HB GE660) hb); have NB660_661 := Aside0.mk ((by rw [hg]; exact Nat.ne_of_lt (blk_lt (g := gb660) (o := .cells #[.int .i64 a0_0, .slice A0_1 l0_1.length c0_1] 30 (0, 0)) (Bz BK660)) : gb660 ≠ gb661)); have NB661_660 := Aside0.mk ((by rw [hg]; exact Nat.ne_of_gt (blk_lt (g := gb660) (o := .cells #[.int .i64 a0_0, .slice A0_1 l0_1.length c0_1] 30 (0, 0)) (Bz BK660)) : gb661 ≠ gb660)); replace BK660 := Aside0.mk (blk_below (g := gb660) (o := .cells #[.int .i64 a0_0, .slice A0_1 l0_1.length c0_1] 30 (0, 0)) (Bz BK660) hb); clear hb hbox hg; have hnb7 := NB660_661.out; have hnc7 := NB661_660.out; have hcz8_0 : w6.cell? ⟨gb660, 0, none⟩ = some (.int .i64 a0_0) := (blk_cell BK660.out 0).trans rfl; have hcz8_1 : w6.cell? ⟨gb660, 1, none⟩ = some (.slice A0_1 l0_1.length c0_1) := (blk_cell BK660.out 1).trans rfl; have hfz8_0 := blk_frozen BK660.out 0; have hfz8_1 := blk_frozen BK660.out 1; have hcz9_0 : w6.cell? ⟨gb661, 0, none⟩ = some (.int .i64 a1_0) := (blk_cell BK661.out 0).trans rfl; have hcz9_1 : w6.cell? ⟨gb661, 1, none⟩ = some (.slice A1_1 l1_1.length c1_1) := (blk_cell BK661.out 1).trans rfl; have hfz9_0 := blk_frozen BK661.out 0; have hfz9_1 := blk_frozen BK661.out 1) | (go_at_call 79; (with_reducible refine (slices_Equal_Edge.calls k _ _ l0_1 _ _ l1_1 t662 _ ?side1 ?side2 ?side3 ?side4 A4.out).mono ?_); (case side1 => exact Cz ((Kd.C_below HR0_1.out HB.out))); (case side2 => exact HC0_1.out); (case side3 => exact Cz ((Kd.C_below HR1_1.out HB.out))); (case side4 => exact HC1_1.out); rintro e w' ⟨rfl, ⟨nd, rfl⟩⟩))
  go_ret
  exact ⟨by first | rfl | (simp [errW_none, errW_some] <;> rfl) | (simp [*, errW_none, errW_some] <;> rfl), by exact Lz2 HB GE660 GE661⟩
 rw [if_neg c3] at H
 have c3b0 : (a0_0 == a1_0) = false := beq_eq_false_iff_ne.mpr c3
 have c3b1 : (a0_0 != a1_0) = true := bne_iff_ne.mpr c3
 obtain rfl := Option.some.inj H
 go_enter Try.func45, Try.ntmps45
 go_wp2_with (first | ((with_reducible refine gate_dst (N := 2) rfl ?_); refine box_event ?hg (N := 2) ?hd (cs := #[.int .i64 a0_0, .slice A0_1 l0_1.length c0_1]) (t := 30) ?hr ?_; (case hd => rfl); (case hg => rfl); (case hr => first | (go_simp; done) | (go_simp; rfl)); intro gb660 hg w10 hbox hb; have BK660 := Aside0.mk (hbox); have GW660 := Aside0.mk ((by rw [hg]; exact (below_size (Lz HB)) : w.heap.size ≤ gb660)); have GE660 := Aside0.mk ((by rw [hg]; exact (below_size (Lz HB)) : w.heap.size ≤ gb660)); replace HB := Aside0.mk (below_step (Lz HB) hb); clear hb hbox hg) | ((with_reducible refine gate_dst (N := 3) rfl ?_); refine box_event ?hg (N := 3) ?hd (cs := #[.int .i64 a1_0, .slice A1_1 l1_1.length c1_1]) (t := 30) ?hr ?_; (case hd => rfl); (case hg => rfl); (case hr => first | (go_simp; done) | (go_simp; rfl)); intro gb661 hg w11 hbox hb; have BK661 := Aside0.mk (hbox); have GW661 := Aside0.mk ((by rw [hg]; exact (below_size (by exact Lz1 HB GE660)) : w.heap.size ≤ gb661)); have GE661 := Aside0.mk ((by rw [hg]; exact (below_size (by exact Lz1 HB GE660)) : w.heap.size ≤ gb661)); replace HB := Aside0.mk (below_step (by exact Lz1 HB GE660) hb); have NB660_661 := Aside0.mk ((by rw [hg]; exact Nat.ne_of_lt (blk_lt (g := gb660) (o := .cells #[.int .i64 a0_0, .slice A0_1 l0_1.length c0_1] 30 (0, 0)) (Bz BK660)) : gb660 ≠ gb661)); have NB661_660 := Aside0.mk ((by rw [hg]; exact Nat.ne_of_gt (blk_lt (g := gb660) (o := .cells #[.int .i64 a0_0, .slice A0_1 l0_1.length c0_1] 30 (0, 0)) (Bz BK660)) : gb661 ≠ gb660)); replace BK660 := Aside0.mk (blk_below (g := gb660) (o := .cells #[.int .i64 a0_0, .slice A0_1 l0_1.length c0_1] 30 (0, 0)) (Bz BK660) hb); clear hb hbox hg; have hnb12 := NB660_661.out; have hnc12 := NB661_660.out; have hcz13_0 : w11.cell? ⟨gb660, 0, none⟩ = some (.int .i64 a0_0) := (blk_cell BK660.out 0).trans rfl; have hcz13_1 : w11.cell? ⟨gb660, 1, none⟩ = some (.slice A0_1 l0_1.length c0_1) := (blk_cell BK660.out 1).trans rfl; have hfz13_0 := blk_frozen BK660.out 0; have hfz13_1 := blk_frozen BK660.out 1; have hcz14_0 : w11.cell? ⟨gb661, 0, none⟩ = some (.int .i64 a1_0) := (blk_cell BK661.out 0).trans rfl; have hcz14_1 : w11.cell? ⟨gb661, 1, none⟩ = some (.slice A1_1 l1_1.length c1_1) := (blk_cell BK661.out 1).trans rfl; have hfz14_0 := blk_frozen BK661.out 0; have hfz14_1 := blk_frozen BK661.out 1))
 go_ret
 exact ⟨by first | rfl | (simp [errW_none, errW_some] <;> rfl) | (simp [*, errW_none, errW_some] <;> rfl), by exact Lz2 HB GE660 GE661⟩
end Go.Proofs.Ytplcclifmajcfaa.P
end
