/- Functions of the program as plain Lean functions and that the machine's calls answer as they do, the words of the print that these use, lemmas and plain proofs of laws. Put together by a program of this work that leaves out what nothing uses; Lean checks it. -/
import Derived.Test.YtbcfccdoffbncaaG9c6b992078
import Derived.Test.YtbcfccdoffbncaaGc83b03f08c
import Derived.Test.YtbcfccdoffbncaaG1633c61cc1
import Derived.Test.YtbcfccdoffbncaaGf5aa60b1c7
import Derived.Test.YtbcfccdoffbncaaG745c50a2fb
section
namespace Go.Proofs.Ytbcfccdoffbncaa.P
open Go.RowKit Go.Proofs.YtbcfccdoffbncaaW.PrintWords Go.Proofs.YtbcfccdoffbncaaW.PrintLast Go.Proofs.YtbcfccdoffbncaaW.PrintMore
attribute [local go_sem] max2_int min2_int max_two min_two max_three min_three max_four min_four
set_option linter.unusedVariables false
set_option linter.unusedSimpArgs false
def spec_MakeGraph.f (k : Nat) (l0 : List Int) : Option (Int × (List (S67))) := (spec_l01New.f k l0).bind fun bt710 => ((spec_l02Graph.f k bt710.1 bt710.2.1 bt710.2.2).bind fun bt714 => (some (bt714.1, bt714.2.1)))
set_option maxHeartbeats 8000000 in
set_option maxRecDepth 100000 in
theorem spec_MakeGraph.calls (k : Nat) (A0 : Option Addr) (c0 : Nat) (l0 : List Int) (r1 : Int) (r2 : List (S67)) (w : World) (hr0 : Kd.C (Kd.int .u8) w A0 l0.length l0) (hc0 : l0.length ≤ c0) (h : spec_MakeGraph.f k l0 = some (r1, r2)) :
  Calls Try.prog 22 #[.slice A0 l0.length c0] w fun e w' => ∃ v1_ : Value, e = .returned (.agg #[.int .i64 r1, v1_]) ∧ Kd.R k67 67 w' w.heap.size (fun _ => True) v1_ r2 ∧ Below w.heap.size w w' := by
 have hu31 := Try.underlying31
 have HR0 := Aside0.mk hr0
 have HC0 := Aside0.mk hc0
 clear hr0 hc0
 have HB := Aside0.mk (Below.refl w.heap.size w)
 have H : ((spec_l01New.f k l0).bind fun bt710 => ((spec_l02Graph.f k bt710.1 bt710.2.1 bt710.2.2).bind fun bt714 => (some (bt714.1, bt714.2.1)))) = some (r1, r2) := h
 clear h
 replace H := Option.bind_eq_some_iff.mp H
 obtain ⟨⟨t710, t711, t712⟩, A20, H⟩ := H
 replace H : ((spec_l02Graph.f k t710 t711 t712).bind fun bt714 => (some (bt714.1, bt714.2.1))) = some (r1, r2) := H
 have A2 := Aside0.mk A20
 clear A20
 replace H := Option.bind_eq_some_iff.mp H
 obtain ⟨⟨t714, t715, t718, t719⟩, A30, H⟩ := H
 replace H : (some (t714, t715)) = some (r1, r2) := H
 have A3 := Aside0.mk A30
 clear A30
 simp only [Option.some.injEq, Prod.mk.injEq] at H
 obtain ⟨rfl, rfl⟩ := H
 go_enter Try.func22, Try.ntmps22
 go_wp2_with (first | ((with_reducible refine gate_dst (N := 2) rfl ?_); refine box_event ?hg (N := 2) ?hd (cs := #[.int .i64 0, .slice none 0 0]) (t := 31) ?hr ?_; (case hd => rfl); (case hg => rfl); (case hr => first | (go_simp; done) | (go_simp; rfl)); intro gb709 hg w4 hbox hb; have BK709 := Aside0.mk (hbox); have GW709 := Aside0.mk ((by rw [hg]; exact (below_size (Lz HB)) : w.heap.size ≤ gb709)); have GE709 := Aside0.mk ((by rw [hg]; exact (below_size (Lz HB)) : w.heap.size ≤ gb709)); replace HB := Aside0.mk (below_step (Lz HB) hb); clear hb hbox hg) | ((with_reducible refine gate_callee (f := 67) rfl ?_); refine goesM_ (some 4) rfl rfl Try.func67 (by kernel_rfl) rfl #[.slice A0 l0.length c0] rfl ?_; (with_reducible refine (spec_l01New.calls k _ _ l0 t710 t711 t712 w _ ?side1 ?side2 ?side3 A2.out).mono ?_); (case side1 => exact Lz1 HB GE709); (case side2 => exact HR0.out); (case side3 => exact HC0.out); rintro e w5 ⟨g713, rfl, hi, hb, hb2⟩; refine ⟨_, rfl, ?_⟩; replace HB := Aside0.mk (hb); have HI713 := Aside0.mk (hi); have NB713_709 := Aside0.mk (IsS101.ne_blk hi (blk_below (g := gb709) (o := .cells #[.int .i64 0, .slice none 0 0] 31 (0, 0)) (Bz BK709) hb2) (by decide)); have NB709_713 := Aside0.mk (Ne.symm (IsS101.ne_blk hi (blk_below (g := gb709) (o := .cells #[.int .i64 0, .slice none 0 0] 31 (0, 0)) (Bz BK709) hb2) (by decide))); replace BK709 := Aside0.mk (blk_below (g := gb709) (o := .cells #[.int .i64 0, .slice none 0 0] 31 (0, 0)) (Bz BK709) hb2); (try clear hb); (try clear hb2); (try clear hk); (try clear hi)) | ((with_reducible refine gate_callee (f := 66) rfl ?_); refine goesM_ (some 5) rfl rfl Try.func66 (by kernel_rfl) rfl #[.pointer (some ⟨g713, 0, none⟩)] rfl ?_; (with_reducible refine (spec_l02Graph.calls k g713 t710 t711 t712 t714 t715 t718 t719 w _ ?side1 ?side2 A3.out).mono ?_); (case side1 => repeat (first | (with_reducible first | exact HI713.out | apply IsS101.alloc | apply IsS101.drewN | apply IsS101.drew | apply IsS101.set_1 | apply IsS101.set_2 | refine IsS101.far ?_ NB713_709.out _) | exact HI713.out)); (case side2 => repeat (first | (with_reducible first | exact HB.out | apply below_alloc | apply pw_below_drewN | apply below_drew1 | refine below_set ?_ (IsS101.ge HI713.out) | refine below_set ?_ GE709.out) | exact HB.out)); rintro e w6 ⟨v716, rfl, ho0, hi, hb, hk⟩; refine ⟨_, rfl, ?_⟩; replace BK709 := Aside0.mk (KeepBut.blk hk (g' := gb709) (o := .cells #[.int .i64 0, .slice none 0 0] 31 (0, 0)) (Bz BK709) NB709_713.out (by simp)); have HO717 := Aside0.mk (Kd.R_lower ho0 (below_size (by repeat (first | (with_reducible first | exact HB.out | apply below_alloc | apply pw_below_drewN | apply below_drew1 | refine below_set ?_ (IsS101.ge HI713.out) | refine below_set ?_ GE709.out) | exact HB.out)))); replace HB := Aside0.mk (hb); replace HI713 := Aside0.mk (hi); (try clear hb); (try clear ho0); have hnb7 := NB709_713.out; have hnc7 := NB713_709.out; have hcz8_0 : w6.cell? ⟨gb709, 0, none⟩ = some (.int .i64 0) := (blk_cell BK709.out 0).trans rfl; have hcz8_1 : w6.cell? ⟨gb709, 1, none⟩ = some (.slice none 0 0) := (blk_cell BK709.out 1).trans rfl; have hfz8_0 := blk_frozen BK709.out 0; have hfz8_1 := blk_frozen BK709.out 1; obtain ⟨Ao9, co9, eo9⟩ := Kd.R_slice HO717.out; subst eo9))
 refine bodyPost_ret (results_cell_row rfl _ _ gb709 31 #[.int .i64 t714, .slice Ao9 t715.length co9] (0, 0) _ rfl (by (with_reducible repeat (first | refine blk_drewN ?_ _ | refine blk_drew ?_ | refine blk_alloc ?_ _)); refine blk_put (cs := #[.int .i64 t714, .slice none 0 0]) ?_ 1 _ rfl; (with_reducible repeat (first | refine blk_drewN ?_ _ | refine blk_drew ?_ | refine blk_alloc ?_ _)); refine blk_put (cs := #[.int .i64 0, .slice none 0 0]) ?_ 0 _ rfl; exact Bz BK709) Try.underlying31 rfl (by kernel_rfl)) rfl ?_
 exact ⟨_, by first | rfl | (simp [errW_none, errW_some] <;> rfl) | (simp [*, errW_none, errW_some] <;> rfl), by (with_reducible repeat (first | apply Kd.R_alloc | apply Kd.R_drewN | apply Kd.R_drew)); exact Kd.R_mono (Kd.R_far (p := ⟨gb709, 1, none⟩) (Kd.R_far (p := ⟨gb709, 0, none⟩) (Kd.R_types HO717.out BK709.out (by decide)) (fun _ hk => hk.2) (.int .i64 t714)) (fun _ hk => hk.2) (.slice Ao9 t715.length co9)) (fun _ hk => trivial), by repeat (first | (with_reducible first | exact HB.out | apply below_alloc | apply pw_below_drewN | apply below_drew1 | refine below_set ?_ (IsS101.ge HI713.out) | refine below_set ?_ GE709.out) | exact HB.out)⟩
def spec_l01Pick.f (s0_0 : List Int) (s0_1 : Int) (s0_2 : Int) (l1 : List Int) : Option (Int × Int × Int) := (spec_l01Below.f s0_0 s0_1 s0_2 (l1.length : Int)).bind fun bt720 => (if 0 ≤ bt720.1 then (if bt720.1 < (l1.length : Int) then (some (rd l1 bt720.1, bt720.2.1, bt720.2.2)) else (none)) else (none))
set_option maxHeartbeats 8000000 in
set_option maxRecDepth 100000 in
theorem spec_l01Pick.calls (g : Nat) (s0_0 : List Int) (s0_1 : Int) (s0_2 : Int) (A1 : Option Addr) (c1 : Nat) (l1 : List Int) (r1 : Int) (r2 : Int) (r3 : Int) (w0 w : World) (hI : IsS101 w0 w g s0_0 s0_1 s0_2) (hB : Below w0.heap.size w0 w) (hr1 : Kd.C (Kd.int .i64) w A1 l1.length l1) (hc1 : l1.length ≤ c1) (hf1 : ∀ ad, A1 = some ad → 0 < l1.length → ad.block ≠ g) (h : spec_l01Pick.f s0_0 s0_1 s0_2 l1 = some (r1, r2, r3)) :
  Calls Try.prog 108 #[.pointer (some ⟨g, 0, none⟩), .slice A1 l1.length c1] w fun e w' => e = .returned (.int .i64 r1) ∧ IsS101 w0 w' g s0_0 r2 r3 ∧ Below w0.heap.size w0 w' ∧ KeepBut w w' g none := by
 have HR1 := Aside0.mk hr1
 have HC1 := Aside0.mk hc1
 clear hr1 hc1
 have HI0 := Aside0.mk hI
 have HK := Aside0.mk (KeepBut.refl w g none)
 have HL := Aside0.mk hB.size
 clear hI
 have HW0 := Aside0.mk hB.size
 have HB := Aside0.mk hB
 clear hB
 have H : ((spec_l01Below.f s0_0 s0_1 s0_2 (l1.length : Int)).bind fun bt720 => (if 0 ≤ bt720.1 then (if bt720.1 < (l1.length : Int) then (some (rd l1 bt720.1, bt720.2.1, bt720.2.2)) else (none)) else (none))) = some (r1, r2, r3) := h
 clear h
 replace H := Option.bind_eq_some_iff.mp H
 obtain ⟨⟨t720, t721, t722⟩, A30, H⟩ := H
 replace H : (if 0 ≤ t720 then (if t720 < (l1.length : Int) then (some (rd l1 t720, t721, t722)) else (none)) else (none)) = some (r1, r2, r3) := H
 have A3 := Aside0.mk A30
 clear A30
 by_cases c4 : 0 ≤ t720
 ·rw [if_pos c4] at H
  have c4b0 : decide (0 ≤ t720) = true := decide_eq_true c4
  clear c4
  by_cases c5 : t720 < (l1.length : Int)
  ·rw [if_pos c5] at H
   have c5b0 : decide (t720 < (l1.length : Int)) = true := decide_eq_true c5
   clear c5
   simp only [Option.some.injEq, Prod.mk.injEq] at H
   obtain ⟨rfl, rfl, rfl⟩ := H
   go_enter Try.func108, Try.ntmps108
   go_wp2_with (first | ((with_reducible refine gate_callee (f := 75) rfl ?_); refine goesM_ (some 9) rfl rfl Try.func75 (by kernel_rfl) rfl #[.pointer (some ⟨g, 0, none⟩), .int .i64 (l1.length : Int)] rfl ?_; (with_reducible refine (spec_l01Below.calls g s0_0 s0_1 s0_2 (l1.length : Int) t720 t721 t722 w0 _ ?side1 ?side2 A3.out).mono ?_); (case side1 => repeat (first | (with_reducible first | exact HI0.out | apply IsS101.alloc | apply IsS101.drewN | apply IsS101.drew | apply IsS101.set_1 | apply IsS101.set_2) | exact HI0.out)); (case side2 => repeat (first | (with_reducible first | exact HB.out | apply below_alloc | apply pw_below_drewN | apply below_drew1 | refine below_set ?_ (IsS101.ge HI0.out)) | exact HB.out)); rintro e w6 ⟨rfl, hi, hb, hk⟩; refine ⟨_, rfl, ?_⟩; replace HK := Aside0.mk (KeepBut.trans (by repeat (first | (with_reducible first | exact HK.out | apply KeepBut.set_ | apply keep_drewN | apply keep_drew | apply keep_alloc) | exact HK.out)) hk (.inl rfl)); replace HB := Aside0.mk (hb); replace HI0 := Aside0.mk (hi); (try clear hb); (try clear hb2); (try clear hk); (try clear hi); have p723 : 0 ≤ (t720 : Int) := ofA; have q723 : t720 < (l1.length : Int) := ofA; obtain ⟨ad723, e723, hx723_0⟩ := Kd.at_int HR1.out t720 p723 q723; cases e723; replace hx723_0 := keep_cell HK.out hx723_0 (by first | (rw [add_block]; exact hf1 _ rfl (by omega)) | exact hf1 _ rfl (by omega) | exact hf1 ad723 rfl (by omega)); replace p723 := eq_true p723; replace q723 := eq_true q723))
   go_ret
   exact ⟨by first | rfl | (simp [errW_none, errW_some] <;> rfl) | (simp [*, errW_none, errW_some] <;> rfl), by repeat (first | (with_reducible first | exact HI0.out | apply IsS101.alloc | apply IsS101.drewN | apply IsS101.drew | apply IsS101.set_1 | apply IsS101.set_2) | exact HI0.out), by repeat (first | (with_reducible first | exact HB.out | apply below_alloc | apply pw_below_drewN | apply below_drew1 | refine below_set ?_ (IsS101.ge HI0.out)) | exact HB.out), by repeat (first | (with_reducible first | exact HK.out | apply KeepBut.set_ | apply keep_drewN | apply keep_drew | apply keep_alloc) | exact HK.out)⟩
  rw [if_neg c5] at H
  exact absurd H (by simp)
 rw [if_neg c4] at H
 exact absurd H (by simp)
def spec_l04Draw.l0 : Nat → List Int → Int → List Int → Int → Int → Int → List (S67) → Option (List Int × Int × Int)
 | 0, _, _, _, _, _, _, _ => none
 | k + 1, x5, x6, x1000, x1001, x1002, x725000, x725001 => if x6 < x725000 then ((spec_l01Below.f x1000 x1001 x1002 7).bind fun bt728 => ((spec_l01Pick.f x1000 bt728.2.1 bt728.2.2 (([0, 1, 2, (-1), 3, (-2), bt728.1] : List Int))).bind fun bt734 => (if x5.length < 17592186044416 then (spec_l04Draw.l0 k (x5 ++ [bt734.1]) (wrap64 (x6 + 1)) x1000 bt734.2.1 bt734.2.2 x725000 x725001) else (none)))) else (some (x5, x1001, x1002))
def spec_l04Draw.f (k : Nat) (s0_0 : List Int) (s0_1 : Int) (s0_2 : Int) (a1_0 : Int) (l1_1 : List (S67)) : Option (List Int × Int × Int) := spec_l04Draw.l0 k (([] : List Int)) 0 s0_0 s0_1 s0_2 a1_0 l1_1
set_option maxHeartbeats 8000000 in
set_option maxRecDepth 100000 in
theorem spec_l04Draw.calls (k : Nat) (g : Nat) (s0_0 : List Int) (s0_1 : Int) (s0_2 : Int) (a1_0 : Int) (A1_1 : Option Addr) (c1_1 : Nat) (l1_1 : List (S67)) (r1 : List Int) (r2 : Int) (r3 : Int) (w0 w : World) (hI : IsS101 w0 w g s0_0 s0_1 s0_2) (hB : Below w0.heap.size w0 w) (hr1_1 : ∀ W_, KeepBut w W_ g none → Kd.C k67 W_ A1_1 l1_1.length l1_1) (hc1_1 : l1_1.length ≤ c1_1) (h : spec_l04Draw.f k s0_0 s0_1 s0_2 a1_0 l1_1 = some (r1, r2, r3)) :
  Calls Try.prog 68 #[.pointer (some ⟨g, 0, none⟩), .agg #[.int .i64 a1_0, .slice A1_1 l1_1.length c1_1]] w fun e w' => ∃ v0_ : Value, e = .returned (v0_) ∧ Kd.R (Kd.int .i64) 3 w' w.heap.size (fun _ => True) v0_ r1 ∧ IsS101 w0 w' g s0_0 r2 r3 ∧ Below w0.heap.size w0 w' ∧ KeepBut w w' g none := by
 have hu31 := Try.underlying31
 have HR1_1 := Aside0.mk hr1_1
 have HC1_1 := Aside0.mk hc1_1
 clear hr1_1 hc1_1
 have HI0 := Aside0.mk hI
 have HK := Aside0.mk (KeepBut.refl w g none)
 have HL := Aside0.mk hB.size
 clear hI
 have HW0 := Aside0.mk hB.size
 have HB := Aside0.mk hB
 clear hB
 have H : (spec_l04Draw.l0 k (([] : List Int)) 0 s0_0 s0_1 s0_2 a1_0 l1_1) = some (r1, r2, r3) := h
 clear h
 obtain ⟨y725, hy725⟩ : ∃ y_ : List Int, y_ = (([] : List Int)) := ⟨_, rfl⟩
 replace H : (spec_l04Draw.l0 k y725 0 s0_0 s0_1 s0_2 a1_0 l1_1) = some (r1, r2, r3) := by first | (rw [hy725]; with_reducible exact H) | (have H2_ := (Option.bind_some _ _).symm.trans H; rw [hy725]; with_reducible exact H2_) | (have H2_ := (Option.bind_some _ _).symm.trans H; with_reducible exact H2_) | with_reducible exact H | (rw [hy725]; exact H) | exact H
 have Ny725 := Aside0.mk hy725
 clear hy725
 have H' := Aside0.mk H
 clear H
 go_enter Try.func68, Try.ntmps68
 go_wp2_with (first | ((with_reducible refine gate_dst (N := 3) rfl ?_); refine box_event ?hg (N := 3) ?hd (cs := #[.int .i64 a1_0, .slice A1_1 l1_1.length c1_1]) (t := 31) ?hr ?_; (case hd => rfl); (case hg => rfl); (case hr => first | (go_simp; done) | (go_simp; rfl)); intro gb724 hg w3 hbox hb; replace HB := Aside0.mk (below_step (by repeat (first | (with_reducible first | exact HB.out | apply below_alloc | apply pw_below_drewN | apply below_drew1 | refine below_set ?_ (IsS101.ge HI0.out)) | exact HB.out)) hb); have BK724 := Aside0.mk (hbox); have GW724 := Aside0.mk ((by rw [hg]; exact (keep_size (w := w) (g := g) (row := none) (by repeat (first | (with_reducible first | exact HK.out | apply KeepBut.set_ | apply keep_drewN | apply keep_drew | apply keep_alloc) | exact HK.out))) : w.heap.size ≤ gb724)); have GE724 := Aside0.mk ((Nat.le_trans HW0.out (by rw [hg]; exact (keep_size (w := w) (g := g) (row := none) (by repeat (first | (with_reducible first | exact HK.out | apply KeepBut.set_ | apply keep_drewN | apply keep_drew | apply keep_alloc) | exact HK.out))) : w.heap.size ≤ gb724) : w0.heap.size ≤ gb724)); replace HK := Aside0.mk (KeepBut.trans (by repeat (first | (with_reducible first | exact HK.out | apply KeepBut.set_ | apply keep_drewN | apply keep_drew | apply keep_alloc) | exact HK.out)) (KeepBut.of_below hb g none) (.inl rfl)); have NB0_724 := Aside0.mk ((by rw [hg]; exact Nat.ne_of_lt (IsS101.lt (show IsS101 w0 _ g s0_0 s0_1 s0_2 from by repeat (first | (with_reducible first | exact HI0.out | apply IsS101.alloc | apply IsS101.drewN | apply IsS101.drew | apply IsS101.set_1 | apply IsS101.set_2) | exact HI0.out))) : g ≠ gb724)); have NB724_0 := Aside0.mk ((by rw [hg]; exact Nat.ne_of_gt (IsS101.lt (show IsS101 w0 _ g s0_0 s0_1 s0_2 from by repeat (first | (with_reducible first | exact HI0.out | apply IsS101.alloc | apply IsS101.drewN | apply IsS101.drew | apply IsS101.set_1 | apply IsS101.set_2) | exact HI0.out))) : gb724 ≠ g)); replace HI0 := Aside0.mk (IsS101.below (by repeat (first | (with_reducible first | exact HI0.out | apply IsS101.alloc | apply IsS101.drewN | apply IsS101.drew | apply IsS101.set_1 | apply IsS101.set_2) | exact HI0.out)) hb); clear hb hbox hg) | ((with_reducible refine gate_dst (N := 7) rfl ?_); refine Kd.R_lit (Kd.int .i64) _ 3 ?hg (N := 7) ?hd (xs := ([] : List Int)) (inner := []) (ok := fun _ => True) (okp := fun _ => True) ?hr ?hp (fun _ hk => hk) trivial (Below.refl _ _) (Nat.le_refl _) (by simp) ?_; (case hd => rfl); (case hg => rfl); (case hr => first | (go_simp; done) | (go_simp; rfl)); (case hp => exact (Reps.none _ _)); intro v726 w4 ho5 hb hg_ hnew_; clear hg_ hnew_; (first | rw [← Ny725.out] at ho5 | (simp only [Int.reduceToNat] at ho5; rw [← Ny725.out] at ho5)); have HO727 := Aside0.mk (Kd.R_lower ho5 (keep_size (w := w) (g := g) (row := none) (by repeat (first | (with_reducible first | exact HK.out | apply KeepBut.set_ | apply keep_drewN | apply keep_drew | apply keep_alloc | refine keep_far ?_ GW724.out _) | exact HK.out)))); replace BK724 := Aside0.mk (blk_below (g := gb724) (o := .cells #[.int .i64 a1_0, .slice A1_1 l1_1.length c1_1] 31 (0, 0)) (Bz BK724) hb); replace HK := Aside0.mk (KeepBut.trans (by repeat (first | (with_reducible first | exact HK.out | apply KeepBut.set_ | apply keep_drewN | apply keep_drew | apply keep_alloc | refine keep_far ?_ GW724.out _) | exact HK.out)) (KeepBut.of_below hb g none) (.inl rfl)); replace HB := Aside0.mk (below_step (by repeat (first | (with_reducible first | exact HB.out | apply below_alloc | apply pw_below_drewN | apply below_drew1 | refine below_set ?_ (IsS101.ge HI0.out) | refine below_set ?_ GE724.out) | exact HB.out)) hb); replace HI0 := Aside0.mk (IsS101.below (by repeat (first | (with_reducible first | exact HI0.out | apply IsS101.alloc | apply IsS101.drewN | apply IsS101.drew | apply IsS101.set_1 | apply IsS101.set_2 | refine IsS101.far ?_ NB0_724.out _) | exact HI0.out)) hb); clear hb ho5))
 go_loopg [5, 6] k (fun kq v5 v6 w' => ∃ (x5_1 : List Int) (x6_1 : Int) (x1001_1 : Int) (x1002_1 : Int), v6 = .int .i64 x6_1 ∧ Aside0 (spec_l04Draw.l0 kq x5_1 x6_1 s0_0 x1001_1 x1002_1 a1_0 l1_1 = some (r1, r2, r3)) ∧ Aside0 (kq ≤ k) ∧ Aside0 (Kd.R (Kd.int .i64) 3 w' w.heap.size (fun _ => True) v5 x5_1) ∧ Aside0 (w'.heap[gb724]? = some (.cells #[.int .i64 a1_0, (.slice A1_1 l1_1.length c1_1)] 31 (0, 0))) ∧ Aside0 (IsS101 w0 w' g s0_0 x1001_1 x1002_1) ∧ Aside0 (KeepBut w w' g none) ∧ Aside0 (Below w0.heap.size w0 w'))
 case atStart => exact ⟨(y725), (0), (s0_1), (s0_2), eqA, H', ⟨Nat.le_refl _⟩, ⟨by exact Rz HO727⟩, ⟨by exact Bz BK724⟩, ⟨by repeat (first | (with_reducible first | exact HI0.out | apply IsS101.alloc | apply IsS101.drewN | apply IsS101.drew | apply IsS101.set_1 | apply IsS101.set_2 | refine IsS101.far ?_ NB0_724.out _) | exact HI0.out)⟩, ⟨by repeat (first | (with_reducible first | exact HK.out | apply KeepBut.set_ | apply keep_drewN | apply keep_drew | apply keep_alloc | refine keep_far ?_ GW724.out _) | exact HK.out)⟩, ⟨by repeat (first | (with_reducible first | exact HB.out | apply below_alloc | apply pw_below_drewN | apply below_drew1 | refine below_set ?_ (IsS101.ge HI0.out) | refine below_set ?_ GE724.out) | exact HB.out)⟩⟩
 case round =>
  clear H'
  obtain ⟨x5_1, x6_1, x1001_1, x1002_1, rfl, HA, HK1, HO_5, BK724, HI0, HK, HB⟩ := hrel
  cases gk with
  | zero => exact absurd HA.out (by simp [spec_l04Draw.l0])
  | succ k1 =>
   have H := HA.out
   clear HA
   simp only [spec_l04Draw.l0] at H
   by_cases c6 : x6_1 < a1_0
   ·rw [if_pos c6] at H
    have c6b0 : decide (x6_1 < a1_0) = true := decide_eq_true c6
    clear c6
    replace H := Option.bind_eq_some_iff.mp H
    obtain ⟨⟨t728, t729, t730⟩, A70, H⟩ := H
    replace H : ((spec_l01Pick.f s0_0 t729 t730 (([0, 1, 2, (-1), 3, (-2), t728] : List Int))).bind fun bt734 => (if x5_1.length < 17592186044416 then (spec_l04Draw.l0 k1 (x5_1 ++ [bt734.1]) (wrap64 (x6_1 + 1)) s0_0 bt734.2.1 bt734.2.2 a1_0 l1_1) else (none))) = some (r1, r2, r3) := H
    have A7 := Aside0.mk A70
    clear A70
    obtain ⟨y731, hy731⟩ : ∃ y_ : List Int, y_ = (([0, 1, 2, (-1), 3, (-2), t728] : List Int)) := ⟨_, rfl⟩
    replace H : ((spec_l01Pick.f s0_0 t729 t730 y731).bind fun bt734 => (if x5_1.length < 17592186044416 then (spec_l04Draw.l0 k1 (x5_1 ++ [bt734.1]) (wrap64 (x6_1 + 1)) s0_0 bt734.2.1 bt734.2.2 a1_0 l1_1) else (none))) = some (r1, r2, r3) := by first | (rw [hy731]; with_reducible exact H) | (have H2_ := (Option.bind_some _ _).symm.trans H; rw [hy731]; with_reducible exact H2_) | (have H2_ := (Option.bind_some _ _).symm.trans H; with_reducible exact H2_) | with_reducible exact H | (rw [hy731]; exact H) | exact H
    have Ny731 := Aside0.mk hy731
    clear hy731
    replace H := Option.bind_eq_some_iff.mp H
    obtain ⟨⟨t734, t735, t736⟩, A80, H⟩ := H
    replace H : (if x5_1.length < 17592186044416 then (spec_l04Draw.l0 k1 (x5_1 ++ [t734]) (wrap64 (x6_1 + 1)) s0_0 t735 t736 a1_0 l1_1) else (none)) = some (r1, r2, r3) := H
    have A8 := Aside0.mk A80
    clear A80
    by_cases c9 : x5_1.length < 17592186044416
    ·rw [if_pos c9] at H
     have LMc9 := Aside0.mk c9
     clear c9
     obtain ⟨y737, hy737⟩ : ∃ y_ : List Int, y_ = (x5_1 ++ [t734]) := ⟨_, rfl⟩
     replace H : (spec_l04Draw.l0 k1 y737 (wrap64 (x6_1 + 1)) s0_0 t735 t736 a1_0 l1_1) = some (r1, r2, r3) := by first | (rw [hy737]; with_reducible exact H) | (have H2_ := (Option.bind_some _ _).symm.trans H; rw [hy737]; with_reducible exact H2_) | (have H2_ := (Option.bind_some _ _).symm.trans H; with_reducible exact H2_) | with_reducible exact H | (rw [hy737]; exact H) | exact H
     have Ny737 := Aside0.mk hy737
     clear hy737
     have H' := Aside0.mk H
     clear H
     have hnb10 := NB724_0.out
     have hnc10 := NB0_724.out
     have hcz11_0 : wr.cell? ⟨gb724, 0, none⟩ = some (.int .i64 a1_0) := (blk_cell BK724.out 0).trans rfl
     have hcz11_1 : wr.cell? ⟨gb724, 1, none⟩ = some (.slice A1_1 l1_1.length c1_1) := (blk_cell BK724.out 1).trans rfl
     have hfz11_0 := blk_frozen BK724.out 0
     have hfz11_1 := blk_frozen BK724.out 1
     go_wp2_with (first | ((with_reducible refine gate_callee (f := 75) rfl ?_); refine goesM_ (some 17) rfl rfl Try.func75 (by kernel_rfl) rfl #[.pointer (some ⟨g, 0, none⟩), .int .i64 7] rfl ?_; (with_reducible refine (spec_l01Below.calls g s0_0 x1001_1 x1002_1 7 t728 t729 t730 w0 _ ?side1 ?side2 A7.out).mono ?_); (case side1 => repeat (first | (with_reducible first | exact HI0.out | apply IsS101.alloc | apply IsS101.drewN | apply IsS101.drew | apply IsS101.set_1 | apply IsS101.set_2 | refine IsS101.far ?_ NB0_724.out _) | exact HI0.out)); (case side2 => repeat (first | (with_reducible first | exact HB.out | apply below_alloc | apply pw_below_drewN | apply below_drew1 | refine below_set ?_ (IsS101.ge HI0.out) | refine below_set ?_ GE724.out) | exact HB.out)); rintro e w12 ⟨rfl, hi, hb, hk⟩; refine ⟨_, rfl, ?_⟩; replace HO_5 := Aside0.mk (Kd.R_mono (Kd.R_keep (IsS101.apart (show IsS101 w0 _ g s0_0 x1001_1 x1002_1 from by repeat (first | (with_reducible first | exact HI0.out | apply IsS101.alloc | apply IsS101.drewN | apply IsS101.drew | apply IsS101.set_1 | apply IsS101.set_2 | refine IsS101.far ?_ NB0_724.out _) | exact HI0.out)) (Rz HO_5) (by decide)) hk (fun _ h => h.2)) (fun _ h => h.1)); replace BK724 := Aside0.mk (KeepBut.blk hk (g' := gb724) (o := .cells #[.int .i64 a1_0, .slice A1_1 l1_1.length c1_1] 31 (0, 0)) (Bz BK724) NB724_0.out (by simp)); replace HK := Aside0.mk (KeepBut.trans (by repeat (first | (with_reducible first | exact HK.out | apply KeepBut.set_ | apply keep_drewN | apply keep_drew | apply keep_alloc | refine keep_far ?_ GW724.out _) | exact HK.out)) hk (.inl rfl)); replace HB := Aside0.mk (hb); replace HI0 := Aside0.mk (hi); (try clear hb); (try clear hb2); (try clear hk); (try clear hi)) | ((with_reducible refine gate_dst (N := 18) rfl ?_); refine Kd.R_lit (Kd.int .i64) _ 3 ?hg (N := 18) ?hd (xs := ([0, 1, 2, (-1), 3, (-2), t728] : List Int)) (inner := [.int .i64 0, .int .i64 1, .int .i64 2, .int .i64 (-1), .int .i64 3, .int .i64 (-2), .int .i64 t728]) (ok := fun _ => True) (okp := fun _ => True) ?hr ?hp (fun _ hk => hk) trivial (Below.refl _ _) (Nat.le_refl _) (by simp) ?_; (case hd => rfl); (case hg => rfl); (case hr => first | (go_simp; done) | (go_simp; rfl)); (case hp => exact (Reps.one (show Kd.M (Kd.int .i64) _ _ _ 0 [.int .i64 0] from rfl) (Reps.one (show Kd.M (Kd.int .i64) _ _ _ 1 [.int .i64 1] from rfl) (Reps.one (show Kd.M (Kd.int .i64) _ _ _ 2 [.int .i64 2] from rfl) (Reps.one (show Kd.M (Kd.int .i64) _ _ _ (-1) [.int .i64 (-1)] from rfl) (Reps.one (show Kd.M (Kd.int .i64) _ _ _ 3 [.int .i64 3] from rfl) (Reps.one (show Kd.M (Kd.int .i64) _ _ _ (-2) [.int .i64 (-2)] from rfl) (Reps.one (show Kd.M (Kd.int .i64) _ _ _ t728 [.int .i64 t728] from rfl) (Reps.none _ _))))))))); intro v732 w13 ho14 hb hg_ hnew_; clear hg_ hnew_; (first | rw [← Ny731.out] at ho14 | (simp only [Int.reduceToNat] at ho14; rw [← Ny731.out] at ho14)); have HO733 := Aside0.mk (Kd.R_lower (Kd.R_new' ho14 (Kd.R_lt (Rz HO_5))) (keep_size (w := w) (g := g) (row := none) (by repeat (first | (with_reducible first | exact HK.out | apply KeepBut.set_ | apply keep_drewN | apply keep_drew | apply keep_alloc | refine keep_far ?_ GW724.out _) | exact HK.out)))); replace HO_5 := Aside0.mk (Kd.R_elder' (Rz HO_5) (Kd.R_base ho14) hb); replace BK724 := Aside0.mk (blk_below (g := gb724) (o := .cells #[.int .i64 a1_0, .slice A1_1 l1_1.length c1_1] 31 (0, 0)) (Bz BK724) hb); replace HK := Aside0.mk (KeepBut.trans (by repeat (first | (with_reducible first | exact HK.out | apply KeepBut.set_ | apply keep_drewN | apply keep_drew | apply keep_alloc | refine keep_far ?_ GW724.out _) | exact HK.out)) (KeepBut.of_below hb g none) (.inl rfl)); replace HB := Aside0.mk (below_step (by repeat (first | (with_reducible first | exact HB.out | apply below_alloc | apply pw_below_drewN | apply below_drew1 | refine below_set ?_ (IsS101.ge HI0.out) | refine below_set ?_ GE724.out) | exact HB.out)) hb); replace HI0 := Aside0.mk (IsS101.below (by repeat (first | (with_reducible first | exact HI0.out | apply IsS101.alloc | apply IsS101.drewN | apply IsS101.drew | apply IsS101.set_1 | apply IsS101.set_2 | refine IsS101.far ?_ NB0_724.out _) | exact HI0.out)) hb); clear hb ho14; obtain ⟨Ao15, co15, eo15⟩ := Kd.R_slice HO733.out; subst eo15) | ((with_reducible refine gate_callee (f := 108) rfl ?_); refine goesM_ (some 19) rfl rfl Try.func108 (by kernel_rfl) rfl #[.pointer (some ⟨g, 0, none⟩), .slice Ao15 y731.length co15] rfl ?_; (with_reducible refine (spec_l01Pick.calls g s0_0 t729 t730 _ _ y731 t734 t735 t736 w0 _ ?side1 ?side2 ?side3 ?side4 ?side5 A8.out).mono ?_); (case side1 => repeat (first | (with_reducible first | exact HI0.out | apply IsS101.alloc | apply IsS101.drewN | apply IsS101.drew | apply IsS101.set_1 | apply IsS101.set_2 | refine IsS101.far ?_ NB0_724.out _) | exact HI0.out)); (case side2 => repeat (first | (with_reducible first | exact HB.out | apply below_alloc | apply pw_below_drewN | apply below_drew1 | refine below_set ?_ (IsS101.ge HI0.out) | refine below_set ?_ GE724.out) | exact HB.out)); (case side3 => exact Cz ((Kd.R_reads' HO733.out).2.2)); (case side4 => exact (Kd.R_reads' HO733.out).2.1); (case side5 => exact far_slice (IsS101.own_ne HI0.out HO733.out (by decide))); rintro e w16 ⟨rfl, hi, hb, hk⟩; refine ⟨_, rfl, ?_⟩; replace HO_5 := Aside0.mk (Kd.R_mono (Kd.R_keep (IsS101.apart (show IsS101 w0 _ g s0_0 t729 t730 from by repeat (first | (with_reducible first | exact HI0.out | apply IsS101.alloc | apply IsS101.drewN | apply IsS101.drew | apply IsS101.set_1 | apply IsS101.set_2 | refine IsS101.far ?_ NB0_724.out _) | exact HI0.out)) (Rz HO_5) (by decide)) hk (fun _ h => h.2)) (fun _ h => h.1)); replace BK724 := Aside0.mk (KeepBut.blk hk (g' := gb724) (o := .cells #[.int .i64 a1_0, .slice A1_1 l1_1.length c1_1] 31 (0, 0)) (Bz BK724) NB724_0.out (by simp)); replace HO733 := Aside0.mk (Kd.R_mono (Kd.R_keep (IsS101.apart (show IsS101 w0 _ g s0_0 t729 t730 from by repeat (first | (with_reducible first | exact HI0.out | apply IsS101.alloc | apply IsS101.drewN | apply IsS101.drew | apply IsS101.set_1 | apply IsS101.set_2 | refine IsS101.far ?_ NB0_724.out _) | exact HI0.out)) (Rz HO733) (by decide)) hk (fun _ h => h.2)) (fun _ h => h.1)); replace HK := Aside0.mk (KeepBut.trans (by repeat (first | (with_reducible first | exact HK.out | apply KeepBut.set_ | apply keep_drewN | apply keep_drew | apply keep_alloc | refine keep_far ?_ GW724.out _) | exact HK.out)) hk (.inl rfl)); replace HB := Aside0.mk (hb); replace HI0 := Aside0.mk (hi); (try clear hb); (try clear hb2); (try clear hk); (try clear hi)) | ((with_reducible refine gate_builtin (b := .append) (xs := #[.tmp 14, .tmp 20]) rfl ?_); at_builtin; refine Kd.R_append (Kd.int .i64) w.heap.size rfl (.tmp 14) (.tmp 20) 25 3 (.int .i64 0) 8 rfl Try.underlying25 info3 rfl (by decide) (by omega) u5 x5_1 t734 [.int .i64 t734] (fun k_ => some k_ ≠ (.slice Ao15 y731.length co15 : Value).ownBlock) (fun _ => False) rfl rfl ?aP (fun _ hk => hk.elim) ?aF ?aO (Below.refl _ _) ?aS ?aL ?_; (case aP => exact rfl); (case aF => exact (fun k_ hk => Kd.fresh' (Kd.R_lt (Rz HO733)) k_ hk)); (case aO => exact (by (with_reducible repeat (first | apply Kd.R_alloc | apply Kd.R_drewN | apply Kd.R_drew)); exact Kd.R_mono HO_5.out (fun _ hk => hk.2))); (case aS => exact (keep_size (w := w) (g := g) (row := none) (by repeat (first | (with_reducible first | exact HK.out | apply KeepBut.set_ | apply keep_drewN | apply keep_drew | apply keep_alloc | refine keep_far ?_ GW724.out _) | exact HK.out)))); (case aL => have := LMc9.out; omega); intro v738 w17 ho hb hg hat; rw [← Ny737.out] at ho; replace BK724 := Aside0.mk (blk_grown (g := gb724) (o := .cells #[.int .i64 a1_0, .slice A1_1 l1_1.length c1_1] 31 (0, 0)) (Bz BK724) hg (Kd.R_ne HO_5.out BK724.out (by decide))); replace HO733 := Aside0.mk (Kd.R_after (ok := (fun _ => True)) (Rz HO733) hg hat); replace HB := Aside0.mk (below_weaken (by repeat (first | (with_reducible first | exact HB.out | apply below_alloc | apply pw_below_drewN | apply below_drew1 | refine below_set ?_ (IsS101.ge HI0.out) | refine below_set ?_ GE724.out) | exact HB.out)) HL.out hb); replace HI0 := Aside0.mk (IsS101.grownF HI0.out (by repeat (first | (with_reducible first | exact HI0.out | apply IsS101.alloc | apply IsS101.drewN | apply IsS101.drew | apply IsS101.set_1 | apply IsS101.set_2 | refine IsS101.far ?_ NB0_724.out _) | exact HI0.out)) hg (IsS101.own_ne HI0.out HO_5.out (by decide))); replace HK := Aside0.mk (KeepBut.trans (by repeat (first | (with_reducible first | exact HK.out | apply KeepBut.set_ | apply keep_drewN | apply keep_drew | apply keep_alloc | refine keep_far ?_ GW724.out _) | exact HK.out)) (KeepBut.of_grown hg g) (Kd.R_base2 HO_5.out)); have HO739 := Aside0.mk (ho); clear HO_5; clear ho hb hg hat))
     go_roundg k1
     case measure => have := HK1.out; omega
     case rel => exact ⟨(y737), (wrap64 (x6_1 + 1)), (t735), (t736), eqA, H', ⟨by have := HK1.out; omega⟩, ⟨by (with_reducible repeat (first | apply Kd.R_alloc | apply Kd.R_drewN | apply Kd.R_drew)); exact Kd.R_mono HO739.out (fun _ hk => trivial)⟩, ⟨by exact Bz BK724⟩, ⟨by repeat (first | (with_reducible first | exact HI0.out | apply IsS101.alloc | apply IsS101.drewN | apply IsS101.drew | apply IsS101.set_1 | apply IsS101.set_2 | refine IsS101.far ?_ NB0_724.out _) | exact HI0.out)⟩, ⟨by repeat (first | (with_reducible first | exact HK.out | apply KeepBut.set_ | apply keep_drewN | apply keep_drew | apply keep_alloc | refine keep_far ?_ GW724.out _) | exact HK.out)⟩, ⟨by repeat (first | (with_reducible first | exact HB.out | apply below_alloc | apply pw_below_drewN | apply below_drew1 | refine below_set ?_ (IsS101.ge HI0.out) | refine below_set ?_ GE724.out) | exact HB.out)⟩⟩
    rw [if_neg c9] at H
    exact absurd H (by simp)
   rw [if_neg c6] at H
   have c6b0 : decide (x6_1 < a1_0) = false := decide_eq_false c6
   clear c6
   simp only [Option.some.injEq, Prod.mk.injEq] at H
   obtain ⟨rfl, rfl, rfl⟩ := H
   have hnb18 := NB724_0.out
   have hnc18 := NB0_724.out
   have hcz19_0 : wr.cell? ⟨gb724, 0, none⟩ = some (.int .i64 a1_0) := (blk_cell BK724.out 0).trans rfl
   have hcz19_1 : wr.cell? ⟨gb724, 1, none⟩ = some (.slice A1_1 l1_1.length c1_1) := (blk_cell BK724.out 1).trans rfl
   have hfz19_0 := blk_frozen BK724.out 0
   have hfz19_1 := blk_frozen BK724.out 1
   go_wp2
   go_ret
   exact ⟨_, by first | rfl | (simp [errW_none, errW_some] <;> rfl) | (simp [*, errW_none, errW_some] <;> rfl), by exact Rz HO_5, by repeat (first | (with_reducible first | exact HI0.out | apply IsS101.alloc | apply IsS101.drewN | apply IsS101.drew | apply IsS101.set_1 | apply IsS101.set_2 | refine IsS101.far ?_ NB0_724.out _) | exact HI0.out), by repeat (first | (with_reducible first | exact HB.out | apply below_alloc | apply pw_below_drewN | apply below_drew1 | refine below_set ?_ (IsS101.ge HI0.out) | refine below_set ?_ GE724.out) | exact HB.out), by repeat (first | (with_reducible first | exact HK.out | apply KeepBut.set_ | apply keep_drewN | apply keep_drew | apply keep_alloc | refine keep_far ?_ GW724.out _) | exact HK.out)⟩
def spec_l21New.l0 : Nat → Int → Int → List Int → Int → Int → Option (List Int × Int × Int)
 | 0, _, _, _, _, _ => none
 | k + 1, x1, x6, s0, s1, s2 => if x6 < x1 then ((spec_l01Byte.f s0 s1 s2).bind fun bt => (spec_l21New.l0 k x1 (wrap64 (x6 + 1)) s0 bt.2.1 bt.2.2)) else (some (s0, s1, s2))
def spec_l21New.f (k : Nat) (l0 : List Int) (a1 : Int) : Option (List Int × Int × Int) := (spec_l01New.f k l0).bind fun bt => (spec_l21New.l0 k a1 0 bt.1 bt.2.1 bt.2.2)
theorem spec_l21New.belowK {w0 w W W1 : World} {g : Nat} (h0 : Below w0.heap.size w0 w) (h : Below w.heap.size w W) (h1 : Below w0.heap.size w0 W1) (hk : KeepBut W W1 g none) (hg : w.heap.size ≤ g) : Below w.heap.size w W1 :=
 ⟨h1.os.trans h0.os.symm, h1.tape.trans h0.tape.symm, h1.output.trans h0.output.symm, Nat.le_trans h.size hk.1, fun i hi => (hk.2 i (Nat.lt_of_lt_of_le hi h.size) (by omega) (by simp)).trans (h.block i hi)⟩
set_option maxHeartbeats 8000000 in
set_option maxRecDepth 100000 in
theorem spec_l21New.calls (k : Nat) (A0 : Option Addr) (c0 : Nat) (l0 : List Int) (a1 : Int) (r1 : List Int) (r2 : Int) (r3 : Int) (w0 w : World) (hB : Below w0.heap.size w0 w) (hr0 : Kd.C (Kd.int .u8) w0 A0 l0.length l0) (hc0 : l0.length ≤ c0) (h : spec_l21New.f k l0 a1 = some (r1, r2, r3)) :
  Calls Try.prog 69 #[.slice A0 l0.length c0, .int .i64 a1] w fun e w' => ∃ g_ : Nat, e = .returned (.pointer (some ⟨g_, 0, none⟩)) ∧ IsS101 w0 w' g_ r1 r2 r3 ∧ Below w0.heap.size w0 w' ∧ Below w.heap.size w w' := by
 have hu101 := Try.underlying101
 have HR0 := Aside0.mk hr0
 have HC0 := Aside0.mk hc0
 clear hr0 hc0
 have HBW := Aside0.mk (Below.refl w.heap.size w)
 have HBo := Aside0.mk hB
 have HB := Aside0.mk hB
 clear hB
 have H : ((spec_l01New.f k l0).bind fun bt => (spec_l21New.l0 k a1 0 bt.1 bt.2.1 bt.2.2)) = some (r1, r2, r3) := h
 clear h
 replace H := Option.bind_eq_some_iff.mp H
 obtain ⟨⟨t1, t2, t3⟩, A20, H⟩ := H
 replace H : spec_l21New.l0 k a1 0 t1 t2 t3 = some (r1, r2, r3) := H
 have A2 := Aside0.mk A20
 clear A20
 have H' := Aside0.mk H
 clear H
 go_enter Try.func69, Try.ntmps69
 go_wp2_with (first | ((with_reducible refine gate_callee (f := 67) rfl ?_); refine goesM_ (some 8) rfl rfl Try.func67 (by kernel_rfl) rfl #[.slice A0 l0.length c0] rfl ?_; (with_reducible refine (spec_l01New.callsX k _ _ l0 t1 t2 t3 w0 _ ?side1 ?side2 ?side3 A2.out).mono ?_); (case side1 => exact Lz HB); (case side2 => exact HR0.out); (case side3 => exact HC0.out); rintro e w5 ⟨g1, rfl, hi, hb, hb2, hg⟩; refine ⟨_, rfl, ?_⟩; have GW1 := Aside0.mk (Nat.le_trans (below_size (Lz HBW)) hg : w.heap.size ≤ g1); replace HB := Aside0.mk hb; replace HBW := Aside0.mk (below_step (Lz HBW) hb2); have HI1 := Aside0.mk hi; clear hb hb2 hi hg))
 go_loopg [6] k (fun kq v6 w' => ∃ (x6_1 : Int) (s1_1 : Int) (s2_1 : Int), v6 = .int .i64 x6_1 ∧ Aside0 (spec_l21New.l0 kq a1 x6_1 t1 s1_1 s2_1 = some (r1, r2, r3)) ∧ Aside0 (kq ≤ k) ∧ Aside0 (IsS101 w0 w' g1 t1 s1_1 s2_1) ∧ Aside0 (Below w0.heap.size w0 w') ∧ Aside0 (Below w.heap.size w w'))
 case atStart => exact ⟨(0), t2, t3, eqA, H', ⟨Nat.le_refl _⟩, ⟨by repeat (first | (with_reducible first | exact HI1.out | apply IsS101.alloc | apply IsS101.drewN | apply IsS101.drew) | exact HI1.out)⟩, ⟨by exact Lz HB⟩, ⟨by exact Lz HBW⟩⟩
 case round =>
  clear H' HI1 HB HBW
  obtain ⟨x6_1, s1_1, s2_1, rfl, HA, HK1, HI1, HB, HBW⟩ := hrel
  cases gk with
  | zero => exact absurd HA.out (by simp [spec_l21New.l0])
  | succ k1 =>
   have H := HA.out
   clear HA
   simp only [spec_l21New.l0] at H
   by_cases c2 : x6_1 < a1
   ·rw [if_pos c2] at H
    have c2b0 : decide (x6_1 < a1) = true := decide_eq_true c2
    clear c2
    replace H := Option.bind_eq_some_iff.mp H
    obtain ⟨⟨b1, b2, b3⟩, A30, H⟩ := H
    replace H : spec_l21New.l0 k1 a1 (wrap64 (x6_1 + 1)) t1 b2 b3 = some (r1, r2, r3) := H
    have A3 := Aside0.mk A30
    clear A30
    have H' := Aside0.mk H
    clear H
    go_wp2_with (first | ((with_reducible refine gate_callee (f := 70) rfl ?_); refine goesM_ (some 15) rfl rfl Try.func70 (by kernel_rfl) rfl #[.pointer (some ⟨g1, 0, none⟩)] rfl ?_; (with_reducible refine (spec_l01Byte.calls g1 t1 s1_1 s2_1 b1 b2 b3 w0 _ ?side1 ?side2 A3.out).mono ?_); (case side1 => repeat (first | (with_reducible first | exact HI1.out | apply IsS101.alloc | apply IsS101.drewN | apply IsS101.drew) | exact HI1.out)); (case side2 => exact Lz HB); rintro e w7 ⟨rfl, hi, hb, hk⟩; refine ⟨_, rfl, ?_⟩; replace HBW := Aside0.mk (spec_l21New.belowK HBo.out (Lz HBW) hb hk GW1.out); replace HB := Aside0.mk hb; replace HI1 := Aside0.mk hi; clear hb hi hk))
    go_roundg k1
    case measure => have := HK1.out; omega
    case rel => exact ⟨(wrap64 (x6_1 + 1)), b2, b3, eqA, H', ⟨by have := HK1.out; omega⟩, ⟨by repeat (first | (with_reducible first | exact HI1.out | apply IsS101.alloc | apply IsS101.drewN | apply IsS101.drew) | exact HI1.out)⟩, ⟨by exact Lz HB⟩, ⟨by exact Lz HBW⟩⟩
   rw [if_neg c2] at H
   have c2b0 : decide (x6_1 < a1) = false := decide_eq_false c2
   clear c2
   have H1 := Option.some.inj H
   simp only [Prod.mk.injEq] at H1
   obtain ⟨rfl, rfl, rfl⟩ := H1
   clear H
   go_wp2
   go_ret
   exact ⟨_, rfl, by repeat (first | (with_reducible first | exact HI1.out | apply IsS101.alloc | apply IsS101.drewN | apply IsS101.drew) | exact HI1.out), by exact Lz HB, by exact Lz HBW⟩
def spec_MakeDivisor.f (k : Nat) (l0 : List Int) (a1 : Int) (a2_0 : Int) (l2_1 : List (S67)) : Option (List Int) := (spec_l21New.f k l0 a1).bind fun bt741 => ((spec_l04Draw.f k bt741.1 bt741.2.1 bt741.2.2 a2_0 l2_1).bind fun bt745 => (some bt745.1))
set_option maxHeartbeats 8000000 in
set_option maxRecDepth 100000 in
theorem spec_MakeDivisor.calls (k : Nat) (A0 : Option Addr) (c0 : Nat) (l0 : List Int) (a1 : Int) (a2_0 : Int) (A2_1 : Option Addr) (c2_1 : Nat) (l2_1 : List (S67)) (r : List Int) (w : World) (hr0 : Kd.C (Kd.int .u8) w A0 l0.length l0) (hc0 : l0.length ≤ c0) (hr2_1 : Kd.C k67 w A2_1 l2_1.length l2_1) (hc2_1 : l2_1.length ≤ c2_1) (h : spec_MakeDivisor.f k l0 a1 a2_0 l2_1 = some r) :
  Calls Try.prog 23 #[.slice A0 l0.length c0, .int .i64 a1, .agg #[.int .i64 a2_0, .slice A2_1 l2_1.length c2_1]] w fun e w' => ∃ v0_ : Value, e = .returned (v0_) ∧ Kd.R (Kd.int .i64) 3 w' w.heap.size (fun _ => True) v0_ r ∧ Below w.heap.size w w' := by
 have hu31 := Try.underlying31
 have HR0 := Aside0.mk hr0
 have HC0 := Aside0.mk hc0
 clear hr0 hc0
 have HR2_1 := Aside0.mk hr2_1
 have HC2_1 := Aside0.mk hc2_1
 clear hr2_1 hc2_1
 have HB := Aside0.mk (Below.refl w.heap.size w)
 have H : ((spec_l21New.f k l0 a1).bind fun bt741 => ((spec_l04Draw.f k bt741.1 bt741.2.1 bt741.2.2 a2_0 l2_1).bind fun bt745 => (some bt745.1))) = some r := h
 clear h
 replace H := Option.bind_eq_some_iff.mp H
 obtain ⟨⟨t741, t742, t743⟩, A40, H⟩ := H
 replace H : ((spec_l04Draw.f k t741 t742 t743 a2_0 l2_1).bind fun bt745 => (some bt745.1)) = some r := H
 have A4 := Aside0.mk A40
 clear A40
 replace H := Option.bind_eq_some_iff.mp H
 obtain ⟨⟨t745, t748, t749⟩, A50, H⟩ := H
 replace H : (some t745) = some r := H
 have A5 := Aside0.mk A50
 clear A50
 obtain rfl := Option.some.inj H
 go_enter Try.func23, Try.ntmps23
 try go_wp2_with (first | ((with_reducible refine gate_dst (N := 5) rfl ?_); refine box_event ?hg (N := 5) ?hd (cs := #[.int .i64 a2_0, .slice A2_1 l2_1.length c2_1]) (t := 31) ?hr ?_; (case hd => rfl); (case hg => rfl); (case hr => first | (go_simp; done) | (go_simp; rfl)); intro gb740 hg w6 hbox hb; have BK740 := Aside0.mk (hbox); have GW740 := Aside0.mk ((by rw [hg]; exact (below_size (Lz HB)) : w.heap.size ≤ gb740)); have GE740 := Aside0.mk ((by rw [hg]; exact (below_size (Lz HB)) : w.heap.size ≤ gb740)); replace HB := Aside0.mk (below_step (Lz HB) hb); clear hb hbox hg))
 replace BK740 := Aside0.mk (blk_drew BK740.out)
 replace HB := Aside0.mk (below_drew1 HB.out)
 refine start_ (n := 6) (S := fun w' => w'.cell? ⟨gb740, 0, none⟩ = some (.int .i64 a2_0) ∧ w'.cell? ⟨gb740, 1, none⟩ = some (.slice A2_1 l2_1.length c2_1)) (ds := []) #[false, false, false, false, false, false] (by kernel_rfl) rfl rfl ⟨(blk_cell BK740.out 0).trans rfl, (blk_cell BK740.out 1).trans rfl⟩ (fun hHeld => ?_)
 generalize w6.drew = w7 at BK740 HB hHeld ⊢
 refine pure_ (i := 0) (N := some 7) (v := ?_) (a' := ?_) #[true, false, false, false, false, false] rfl rfl (by kernel_rfl) (fun _ _ _ h => h) (Or.inl ⟨by rfl, ?_⟩) ?_ ?_
 rotate_left
 ·intro w'
  go_simp
  with_reducible rfl
 rotate_left
 ·simp only [Act.put, List.setIfInBounds_toArray, List.set_cons_zero, List.set_cons_succ, i64_w, i32_w]
  rfl
 refine pure_ (i := 1) (N := some 8) (v := ?_) (a' := ?_) #[true, true, false, false, false, false] rfl rfl (by kernel_rfl) (fun _ _ _ h => h) (Or.inl ⟨by rfl, ?_⟩) ?_ ?_
 rotate_left
 ·intro w'
  go_simp
  with_reducible rfl
 rotate_left
 ·simp only [Act.put, List.setIfInBounds_toArray, List.set_cons_zero, List.set_cons_succ, i64_w, i32_w]
  rfl
 refine take_ (i := 3) (N := some 10) (v := ?_) (a' := ?_) #[true, true, false, true, false, false] rfl rfl (by kernel_rfl) (fun _ _ _ h => h) (Or.inl ⟨by rfl, ?_⟩) hHeld ?_ ?_
 rotate_left
 ·rintro w' ⟨s0, s1⟩
  go_simp
  with_reducible rfl
 rotate_left
 ·simp only [Act.put, List.setIfInBounds_toArray, List.set_cons_zero, List.set_cons_succ, i64_w, i32_w]
  rfl
 refine one_ (i := 2) (N := some 9) #[true, true, true, true, false, false] rfl rfl (by kernel_rfl) (by decide) (fun K hK => ?_)
 refine goes_ Try.func69 (by kernel_rfl) rfl #[.slice A0 l0.length c0, .int .i64 a1] (by rfl) rfl rfl (by (try simp only [List.map_toArray, List.map_cons, List.map_nil]); first | done | rfl | (simp only [List.length_drop, List.length_take]; rfl)) ?_
 with_reducible refine (spec_l21New.calls k _ _ l0 a1 t741 t742 t743 w _ ?side1 ?side2 ?side3 A4.out).mono ?_
 (case side1 => exact Lz1 HB GE740)
 (case side2 => exact HR0.out)
 (case side3 => exact HC0.out)
 rintro e w8 ⟨g744, rfl, hi, hb, hb2⟩
 refine ⟨_, rfl, ?_⟩
 replace HB := Aside0.mk (hb)
 have HI744 := Aside0.mk (hi)
 have NB744_740 := Aside0.mk (IsS101.ne_blk hi (blk_below (g := gb740) (o := .cells #[.int .i64 a2_0, .slice A2_1 l2_1.length c2_1] 31 (0, 0)) (Bz BK740) hb2) (by decide))
 have NB740_744 := Aside0.mk (Ne.symm (IsS101.ne_blk hi (blk_below (g := gb740) (o := .cells #[.int .i64 a2_0, .slice A2_1 l2_1.length c2_1] 31 (0, 0)) (Bz BK740) hb2) (by decide)))
 replace BK740 := Aside0.mk (blk_below (g := gb740) (o := .cells #[.int .i64 a2_0, .slice A2_1 l2_1.length c2_1] 31 (0, 0)) (Bz BK740) hb2)
 (try clear hb)
 (try clear hb2)
 (try clear hk)
 (try clear hi)
 refine hK.out _ _ ⟨(blk_cell BK740.out 0).trans rfl, (blk_cell BK740.out 1).trans rfl⟩ (fun hHeld => ?_)
 clear hK K
 refine norm_ (a' := ?_) ?_ ?_
 rotate_left
 ·show Act.put _ (some 9) _ = _
  simp only [Act.put, List.setIfInBounds_toArray, List.set_cons_zero, List.set_cons_succ, i64_w, i32_w]
  rfl
 refine one_ (i := 4) (N := some 11) #[true, true, true, true, true, false] rfl rfl (by kernel_rfl) (by decide) (fun K hK => ?_)
 refine goes_ Try.func68 (by kernel_rfl) rfl #[.pointer (some ⟨g744, 0, none⟩), .agg #[.int .i64 a2_0, .slice A2_1 l2_1.length c2_1]] (by rfl) rfl rfl (by (try simp only [List.map_toArray, List.map_cons, List.map_nil]); first | done | rfl | (simp only [List.length_drop, List.length_take]; rfl)) ?_
 with_reducible refine (spec_l04Draw.calls k g744 t741 t742 t743 a2_0 _ _ l2_1 t745 t748 t749 w _ ?side1 ?side2 ?side3 ?side4 A5.out).mono ?_
 (case side1 => repeat (first | (with_reducible first | exact HI744.out | apply IsS101.alloc | apply IsS101.drewN | apply IsS101.drew | apply IsS101.set_1 | apply IsS101.set_2 | refine IsS101.far ?_ NB744_740.out _) | exact HI744.out))
 (case side2 => repeat (first | (with_reducible first | exact HB.out | apply below_alloc | apply pw_below_drewN | apply below_drew1 | refine below_set ?_ (IsS101.ge HI744.out) | refine below_set ?_ GE740.out) | exact HB.out))
 (case side3 => exact Kd.C_foot_came k67_heap HR2_1.out (by repeat (first | (with_reducible first | exact HB.out | apply below_alloc | apply pw_below_drewN | apply below_drew1 | refine below_set ?_ (IsS101.ge HI744.out) | refine below_set ?_ GE740.out) | exact HB.out)) (IsS101.ge HI744.out))
 (case side4 => exact HC2_1.out)
 rintro e w9 ⟨v746, rfl, ho0, hi, hb, hk⟩
 refine ⟨_, rfl, ?_⟩
 replace BK740 := Aside0.mk (KeepBut.blk hk (g' := gb740) (o := .cells #[.int .i64 a2_0, .slice A2_1 l2_1.length c2_1] 31 (0, 0)) (Bz BK740) NB740_744.out (by simp))
 have HO747 := Aside0.mk (Kd.R_lower ho0 (below_size (by repeat (first | (with_reducible first | exact HB.out | apply below_alloc | apply pw_below_drewN | apply below_drew1 | refine below_set ?_ (IsS101.ge HI744.out) | refine below_set ?_ GE740.out) | exact HB.out))))
 replace HB := Aside0.mk (hb)
 replace HI744 := Aside0.mk (hi)
 (try clear hb)
 (try clear hb2)
 (try clear hk)
 (try clear hi)
 (try clear ho0)
 refine hK.out _ _ ⟨(blk_cell BK740.out 0).trans rfl, (blk_cell BK740.out 1).trans rfl⟩ (fun hHeld => ?_)
 clear hK K
 refine norm_ (a' := ?_) ?_ ?_
 rotate_left
 ·show Act.put _ (some 11) _ = _
  simp only [Act.put, List.setIfInBounds_toArray, List.set_cons_zero, List.set_cons_succ, i64_w, i32_w]
  rfl
 refine pure_ (i := 5) (N := some 6) (v := ?_) (a' := ?_) #[true, true, true, true, true, true] rfl rfl (by kernel_rfl) (fun _ _ _ h => h) (Or.inl ⟨by rfl, ?_⟩) ?_ ?_
 rotate_left
 ·intro w'
  go_simp
  with_reducible rfl
 rotate_left
 ·simp only [Act.put, List.setIfInBounds_toArray, List.set_cons_zero, List.set_cons_succ, i64_w, i32_w]
  rfl
 refine done_ (by kernel_rfl) ?_
 try go_wp2
 go_ret
 exact ⟨_, by first | rfl | (simp [errW_none, errW_some] <;> rfl) | (simp [*, errW_none, errW_some] <;> rfl), by exact Rz HO747, by repeat (first | (with_reducible first | exact HB.out | apply below_alloc | apply pw_below_drewN | apply below_drew1 | refine below_set ?_ (IsS101.ge HI744.out) | refine below_set ?_ GE740.out) | exact HB.out)⟩
def spec_MakeNum.f (k : Nat) (l0 : List Int) (a1 : Int) : Option (Int) := (spec_l21New.f k l0 a1).bind fun bt750 => ((spec_l01Byte.f bt750.1 bt750.2.1 bt750.2.2).bind fun bt754 => ((spec_l01Byte.f bt750.1 bt754.2.1 bt754.2.2).bind fun bt757 => (some (wrap64 ((wrap64 (bt754.1 * 256)) + bt757.1)))))
set_option maxHeartbeats 8000000 in
set_option maxRecDepth 100000 in
theorem spec_MakeNum.calls (k : Nat) (A0 : Option Addr) (c0 : Nat) (l0 : List Int) (a1 : Int) (r : Int) (w : World) (hr0 : Kd.C (Kd.int .u8) w A0 l0.length l0) (hc0 : l0.length ≤ c0) (h : spec_MakeNum.f k l0 a1 = some r) :
  Calls Try.prog 24 #[.slice A0 l0.length c0, .int .i64 a1] w fun e w' => e = .returned (.int .i64 r) ∧ Below w.heap.size w w' := by
 have HR0 := Aside0.mk hr0
 have HC0 := Aside0.mk hc0
 clear hr0 hc0
 have HB := Aside0.mk (Below.refl w.heap.size w)
 have H : ((spec_l21New.f k l0 a1).bind fun bt750 => ((spec_l01Byte.f bt750.1 bt750.2.1 bt750.2.2).bind fun bt754 => ((spec_l01Byte.f bt750.1 bt754.2.1 bt754.2.2).bind fun bt757 => (some (wrap64 ((wrap64 (bt754.1 * 256)) + bt757.1)))))) = some r := h
 clear h
 replace H := Option.bind_eq_some_iff.mp H
 obtain ⟨⟨t750, t751, t752⟩, A30, H⟩ := H
 replace H : ((spec_l01Byte.f t750 t751 t752).bind fun bt754 => ((spec_l01Byte.f t750 bt754.2.1 bt754.2.2).bind fun bt757 => (some (wrap64 ((wrap64 (bt754.1 * 256)) + bt757.1))))) = some r := H
 have A3 := Aside0.mk A30
 clear A30
 replace H := Option.bind_eq_some_iff.mp H
 obtain ⟨⟨t754, t755, t756⟩, A40, H⟩ := H
 replace H : ((spec_l01Byte.f t750 t755 t756).bind fun bt757 => (some (wrap64 ((wrap64 (t754 * 256)) + bt757.1)))) = some r := H
 have A4 := Aside0.mk A40
 clear A40
 replace H := Option.bind_eq_some_iff.mp H
 obtain ⟨⟨t757, t758, t759⟩, A50, H⟩ := H
 replace H : (some (wrap64 ((wrap64 (t754 * 256)) + t757))) = some r := H
 have A5 := Aside0.mk A50
 clear A50
 obtain rfl := Option.some.inj H
 go_enter Try.func24, Try.ntmps24
 go_wp2_with (first | ((with_reducible refine gate_callee (f := 69) rfl ?_); refine goesM_ (some 8) rfl rfl Try.func69 (by kernel_rfl) rfl #[.slice A0 l0.length c0, .int .i64 a1] rfl ?_; (with_reducible refine (spec_l21New.calls k _ _ l0 a1 t750 t751 t752 w _ ?side1 ?side2 ?side3 A3.out).mono ?_); (case side1 => exact Lz HB); (case side2 => exact HR0.out); (case side3 => exact HC0.out); rintro e w6 ⟨g753, rfl, hi, hb, hb2⟩; refine ⟨_, rfl, ?_⟩; replace HB := Aside0.mk (hb); have HI753 := Aside0.mk (hi); (try clear hb); (try clear hb2); (try clear hk); (try clear hi)) | ((with_reducible refine gate_callee (f := 70) rfl ?_); refine goesM_ (some 10) rfl rfl Try.func70 (by kernel_rfl) rfl #[.pointer (some ⟨g753, 0, none⟩)] rfl ?_; (with_reducible refine (spec_l01Byte.calls g753 t750 t751 t752 t754 t755 t756 w _ ?side1 ?side2 A4.out).mono ?_); (case side1 => repeat (first | (with_reducible first | exact HI753.out | apply IsS101.alloc | apply IsS101.drewN | apply IsS101.drew | apply IsS101.set_1 | apply IsS101.set_2) | exact HI753.out)); (case side2 => repeat (first | (with_reducible first | exact HB.out | apply below_alloc | apply pw_below_drewN | apply below_drew1 | refine below_set ?_ (IsS101.ge HI753.out)) | exact HB.out)); rintro e w7 ⟨rfl, hi, hb, hk⟩; refine ⟨_, rfl, ?_⟩; replace HB := Aside0.mk (hb); replace HI753 := Aside0.mk (hi); (try clear hb); (try clear hb2); (try clear hk); (try clear hi)) | ((with_reducible refine gate_callee (f := 70) rfl ?_); refine goesM_ (some 13) rfl rfl Try.func70 (by kernel_rfl) rfl #[.pointer (some ⟨g753, 0, none⟩)] rfl ?_; (with_reducible refine (spec_l01Byte.calls g753 t750 t755 t756 t757 t758 t759 w _ ?side1 ?side2 A5.out).mono ?_); (case side1 => repeat (first | (with_reducible first | exact HI753.out | apply IsS101.alloc | apply IsS101.drewN | apply IsS101.drew | apply IsS101.set_1 | apply IsS101.set_2) | exact HI753.out)); (case side2 => repeat (first | (with_reducible first | exact HB.out | apply below_alloc | apply pw_below_drewN | apply below_drew1 | refine below_set ?_ (IsS101.ge HI753.out)) | exact HB.out)); rintro e w8 ⟨rfl, hi, hb, hk⟩; refine ⟨_, rfl, ?_⟩; replace HB := Aside0.mk (hb); replace HI753 := Aside0.mk (hi); (try clear hb); (try clear hb2); (try clear hk); (try clear hi)))
 go_ret
 exact ⟨by first | rfl | (simp [errW_none, errW_some] <;> rfl) | (simp [*, errW_none, errW_some] <;> rfl), by repeat (first | (with_reducible first | exact HB.out | apply below_alloc | apply pw_below_drewN | apply below_drew1 | refine below_set ?_ (IsS101.ge HI753.out)) | exact HB.out)⟩
def impl_ReducingScript.f (k : Nat) (a0_0 : Int) (l0_1 : List (S67)) (l1 : List Int) (a2 : Int) : Option (List Int × Bool) := (impl_DivisorOk.f k a0_0 l0_1 l1).bind fun t761 => (if t761 = true then ((impl_isVertex.f k a0_0 l0_1 a2).bind fun t762 => (if t762 = true then ((impl_reduce.f k a0_0 l0_1 l1 a2).bind fun bt763 => (some (bt763.2, true))) else (some (([] : List Int), false)))) else (some (([] : List Int), false)))
set_option maxHeartbeats 8000000 in
set_option maxRecDepth 100000 in
theorem impl_ReducingScript.calls (k : Nat) (a0_0 : Int) (A0_1 : Option Addr) (c0_1 : Nat) (l0_1 : List (S67)) (A1 : Option Addr) (c1 : Nat) (l1 : List Int) (a2 : Int) (r1 : List Int) (r2 : Bool) (w : World) (hr0_1 : Kd.C k67 w A0_1 l0_1.length l0_1) (hc0_1 : l0_1.length ≤ c0_1) (hr1 : Kd.C (Kd.int .i64) w A1 l1.length l1) (hc1 : l1.length ≤ c1) (h : impl_ReducingScript.f k a0_0 l0_1 l1 a2 = some (r1, r2)) :
  Calls Try.prog 26 #[.agg #[.int .i64 a0_0, .slice A0_1 l0_1.length c0_1], .slice A1 l1.length c1, .int .i64 a2] w fun e w' => ∃ v0_ : Value, e = .returned (.tuple #[v0_, .bool r2]) ∧ Kd.R (Kd.int .i64) 3 w' w.heap.size (fun _ => True) v0_ r1 ∧ Below w.heap.size w w' := by
 have hu31 := Try.underlying31
 have HR0_1 := Aside0.mk hr0_1
 have HC0_1 := Aside0.mk hc0_1
 clear hr0_1 hc0_1
 have HR1 := Aside0.mk hr1
 have HC1 := Aside0.mk hc1
 clear hr1 hc1
 have HB := Aside0.mk (Below.refl w.heap.size w)
 have H : ((impl_DivisorOk.f k a0_0 l0_1 l1).bind fun t761 => (if t761 = true then ((impl_isVertex.f k a0_0 l0_1 a2).bind fun t762 => (if t762 = true then ((impl_reduce.f k a0_0 l0_1 l1 a2).bind fun bt763 => (some (bt763.2, true))) else (some (([] : List Int), false)))) else (some (([] : List Int), false)))) = some (r1, r2) := h
 clear h
 replace H := Option.bind_eq_some_iff.mp H
 obtain ⟨t761, A40, H⟩ := H
 replace H : (if t761 = true then ((impl_isVertex.f k a0_0 l0_1 a2).bind fun t762 => (if t762 = true then ((impl_reduce.f k a0_0 l0_1 l1 a2).bind fun bt763 => (some (bt763.2, true))) else (some (([] : List Int), false)))) else (some (([] : List Int), false))) = some (r1, r2) := H
 have A4 := Aside0.mk A40
 clear A40
 by_cases c5 : t761 = true
 ·subst c5
  have H1 : ((impl_isVertex.f k a0_0 l0_1 a2).bind fun t762 => (if t762 = true then ((impl_reduce.f k a0_0 l0_1 l1 a2).bind fun bt763 => (some (bt763.2, true))) else (some (([] : List Int), false)))) = some (r1, r2) := by rw [if_pos rfl] at H; exact H
  clear H
  have H := H1
  clear H1
  replace H := Option.bind_eq_some_iff.mp H
  obtain ⟨t762, A60, H⟩ := H
  replace H : (if t762 = true then ((impl_reduce.f k a0_0 l0_1 l1 a2).bind fun bt763 => (some (bt763.2, true))) else (some (([] : List Int), false))) = some (r1, r2) := H
  have A6 := Aside0.mk A60
  clear A60
  by_cases c7 : t762 = true
  ·subst c7
   have H1 : ((impl_reduce.f k a0_0 l0_1 l1 a2).bind fun bt763 => (some (bt763.2, true))) = some (r1, r2) := by rw [if_pos rfl] at H; exact H
   clear H
   have H := H1
   clear H1
   replace H := Option.bind_eq_some_iff.mp H
   obtain ⟨⟨t763, t766⟩, A80, H⟩ := H
   replace H : (some (t766, true)) = some (r1, r2) := H
   have A8 := Aside0.mk A80
   clear A80
   simp only [Option.some.injEq, Prod.mk.injEq] at H
   obtain ⟨rfl, rfl⟩ := H
   go_enter Try.func26, Try.ntmps26
   go_wp2_with (first | ((with_reducible refine gate_dst (N := 3) rfl ?_); refine box_event ?hg (N := 3) ?hd (cs := #[.int .i64 a0_0, .slice A0_1 l0_1.length c0_1]) (t := 31) ?hr ?_; (case hd => rfl); (case hg => rfl); (case hr => first | (go_simp; done) | (go_simp; rfl)); intro gb760 hg w9 hbox hb; have BK760 := Aside0.mk (hbox); have GW760 := Aside0.mk ((by rw [hg]; exact (below_size (Lz HB)) : w.heap.size ≤ gb760)); have GE760 := Aside0.mk ((by rw [hg]; exact (below_size (Lz HB)) : w.heap.size ≤ gb760)); replace HB := Aside0.mk (below_step (Lz HB) hb); clear hb hbox hg; have hcz10_0 : w9.cell? ⟨gb760, 0, none⟩ = some (.int .i64 a0_0) := (blk_cell BK760.out 0).trans rfl; have hcz10_1 : w9.cell? ⟨gb760, 1, none⟩ = some (.slice A0_1 l0_1.length c0_1) := (blk_cell BK760.out 1).trans rfl; have hfz10_0 := blk_frozen BK760.out 0; have hfz10_1 := blk_frozen BK760.out 1) | ((with_reducible refine gate_callee (f := 71) rfl ?_); refine goesM_ (some 12) rfl rfl Try.func71 (by kernel_rfl) rfl #[.agg #[.int .i64 a0_0, .slice A0_1 l0_1.length c0_1], .slice A1 l1.length c1] rfl ?_; (with_reducible refine (impl_DivisorOk.calls k a0_0 _ _ l0_1 _ _ l1 true _ ?side1 ?side2 ?side3 ?side4 A4.out).mono ?_); (case side1 => exact Cz ((Kd.C_below HR0_1.out HB.out))); (case side2 => exact HC0_1.out); (case side3 => exact Cz ((Kd.C_below HR1.out HB.out))); (case side4 => exact HC1.out); rintro e w11 ⟨rfl, hb⟩; refine ⟨_, rfl, ?_⟩; replace BK760 := Aside0.mk (blk_below (g := gb760) (o := .cells #[.int .i64 a0_0, .slice A0_1 l0_1.length c0_1] 31 (0, 0)) (Bz BK760) hb); replace HB := Aside0.mk (below_step (by exact Lz1 HB GE760) hb); (try clear hb); (try clear hb2); (try clear hk); (try clear hi); have hcz12_0 : w11.cell? ⟨gb760, 0, none⟩ = some (.int .i64 a0_0) := (blk_cell BK760.out 0).trans rfl; have hcz12_1 : w11.cell? ⟨gb760, 1, none⟩ = some (.slice A0_1 l0_1.length c0_1) := (blk_cell BK760.out 1).trans rfl; have hfz12_0 := blk_frozen BK760.out 0; have hfz12_1 := blk_frozen BK760.out 1) | (go_at_call 72; (with_reducible refine (impl_isVertex.calls k a0_0 _ _ l0_1 a2 true _ ?side1 ?side2 A6.out).mono ?_); (case side1 => exact Cz ((Kd.C_below HR0_1.out HB.out))); (case side2 => exact HC0_1.out); rintro e w13 ⟨rfl, hb⟩; replace BK760 := Aside0.mk (blk_below (g := gb760) (o := .cells #[.int .i64 a0_0, .slice A0_1 l0_1.length c0_1] 31 (0, 0)) (Bz BK760) hb); replace HB := Aside0.mk (below_step (by exact Lz1 HB GE760) hb); (try clear hb); (try clear hb2); (try clear hk); (try clear hi); have hcz14_0 : w13.cell? ⟨gb760, 0, none⟩ = some (.int .i64 a0_0) := (blk_cell BK760.out 0).trans rfl; have hcz14_1 : w13.cell? ⟨gb760, 1, none⟩ = some (.slice A0_1 l0_1.length c0_1) := (blk_cell BK760.out 1).trans rfl; have hfz14_0 := blk_frozen BK760.out 0; have hfz14_1 := blk_frozen BK760.out 1) | ((with_reducible refine gate_callee (f := 60) rfl ?_); refine goesM_ (some 24) rfl rfl Try.func60 (by kernel_rfl) rfl #[.agg #[.int .i64 a0_0, .slice A0_1 l0_1.length c0_1], .slice A1 l1.length c1, .int .i64 a2] rfl ?_; (with_reducible refine (impl_reduce.calls k a0_0 _ _ l0_1 _ _ l1 a2 t763 t766 _ ?side1 ?side2 ?side3 ?side4 A8.out).mono ?_); (case side1 => exact Cz ((Kd.C_below HR0_1.out HB.out))); (case side2 => exact HC0_1.out); (case side3 => exact Cz ((Kd.C_below HR1.out HB.out))); (case side4 => exact HC1.out); rintro e w15 ⟨v764, v767, rfl, ho0, ho1, hb⟩; refine ⟨_, rfl, ?_⟩; have HO765 := Aside0.mk (Kd.R_lower ho0 (below_size (by exact Lz1 HB GE760))); have HO768 := Aside0.mk (Kd.R_lower ho1 (below_size (by exact Lz1 HB GE760))); replace BK760 := Aside0.mk (blk_below (g := gb760) (o := .cells #[.int .i64 a0_0, .slice A0_1 l0_1.length c0_1] 31 (0, 0)) (Bz BK760) hb); replace HB := Aside0.mk (below_step (by exact Lz1 HB GE760) hb); (try clear hb); (try clear ho0); (try clear ho1)))
   go_ret2
   exact ⟨_, by first | rfl | (simp [errW_none, errW_some] <;> rfl) | (simp [*, errW_none, errW_some] <;> rfl), by (with_reducible repeat (first | apply Kd.R_alloc | apply Kd.R_drewN | apply Kd.R_drew)); exact Kd.R_mono HO768.out (fun _ hk => trivial), by exact Lz1 HB GE760⟩
  replace c7 := Bool.eq_false_iff.mpr c7
  subst c7
  have H1 : (some (([] : List Int), false)) = some (r1, r2) := by rw [if_neg (show ¬ (false = true) by decide)] at H; exact H
  clear H
  have H := H1
  clear H1
  simp only [Option.some.injEq, Prod.mk.injEq] at H
  obtain ⟨rfl, rfl⟩ := H
  go_enter Try.func26, Try.ntmps26
  go_wp2_with (first | ((with_reducible refine gate_dst (N := 3) rfl ?_); refine box_event ?hg (N := 3) ?hd (cs := #[.int .i64 a0_0, .slice A0_1 l0_1.length c0_1]) (t := 31) ?hr ?_; (case hd => rfl); (case hg => rfl); (case hr => first | (go_simp; done) | (go_simp; rfl)); intro gb760 hg w16 hbox hb; have BK760 := Aside0.mk (hbox); have GW760 := Aside0.mk ((by rw [hg]; exact (below_size (Lz HB)) : w.heap.size ≤ gb760)); have GE760 := Aside0.mk ((by rw [hg]; exact (below_size (Lz HB)) : w.heap.size ≤ gb760)); replace HB := Aside0.mk (below_step (Lz HB) hb); clear hb hbox hg; have hcz17_0 : w16.cell? ⟨gb760, 0, none⟩ = some (.int .i64 a0_0) := (blk_cell BK760.out 0).trans rfl; have hcz17_1 : w16.cell? ⟨gb760, 1, none⟩ = some (.slice A0_1 l0_1.length c0_1) := (blk_cell BK760.out 1).trans rfl; have hfz17_0 := blk_frozen BK760.out 0; have hfz17_1 := blk_frozen BK760.out 1) | ((with_reducible refine gate_callee (f := 71) rfl ?_); refine goesM_ (some 12) rfl rfl Try.func71 (by kernel_rfl) rfl #[.agg #[.int .i64 a0_0, .slice A0_1 l0_1.length c0_1], .slice A1 l1.length c1] rfl ?_; (with_reducible refine (impl_DivisorOk.calls k a0_0 _ _ l0_1 _ _ l1 true _ ?side1 ?side2 ?side3 ?side4 A4.out).mono ?_); (case side1 => exact Cz ((Kd.C_below HR0_1.out HB.out))); (case side2 => exact HC0_1.out); (case side3 => exact Cz ((Kd.C_below HR1.out HB.out))); (case side4 => exact HC1.out); rintro e w18 ⟨rfl, hb⟩; refine ⟨_, rfl, ?_⟩; replace BK760 := Aside0.mk (blk_below (g := gb760) (o := .cells #[.int .i64 a0_0, .slice A0_1 l0_1.length c0_1] 31 (0, 0)) (Bz BK760) hb); replace HB := Aside0.mk (below_step (by exact Lz1 HB GE760) hb); (try clear hb); (try clear hb2); (try clear hk); (try clear hi); have hcz19_0 : w18.cell? ⟨gb760, 0, none⟩ = some (.int .i64 a0_0) := (blk_cell BK760.out 0).trans rfl; have hcz19_1 : w18.cell? ⟨gb760, 1, none⟩ = some (.slice A0_1 l0_1.length c0_1) := (blk_cell BK760.out 1).trans rfl; have hfz19_0 := blk_frozen BK760.out 0; have hfz19_1 := blk_frozen BK760.out 1) | (go_at_call 72; (with_reducible refine (impl_isVertex.calls k a0_0 _ _ l0_1 a2 false _ ?side1 ?side2 A6.out).mono ?_); (case side1 => exact Cz ((Kd.C_below HR0_1.out HB.out))); (case side2 => exact HC0_1.out); rintro e w20 ⟨rfl, hb⟩; replace BK760 := Aside0.mk (blk_below (g := gb760) (o := .cells #[.int .i64 a0_0, .slice A0_1 l0_1.length c0_1] 31 (0, 0)) (Bz BK760) hb); replace HB := Aside0.mk (below_step (by exact Lz1 HB GE760) hb); (try clear hb); (try clear hb2); (try clear hk); (try clear hi)))
  go_ret2
  exact ⟨_, by first | rfl | (simp [errW_none, errW_some] <;> rfl) | (simp [*, errW_none, errW_some] <;> rfl), by first | exact Kd.R_nil _ _ _ _ _ | exact Kd.N_nil _ _ _ _ _ | exact Kd.V_nil _ _ _ _ _ | exact Kd.Q_nil _ _ _ _ _ | exact Kd.S_nil _ _ _ _ _, by exact Lz1 HB GE760⟩
 replace c5 := Bool.eq_false_iff.mpr c5
 subst c5
 have H1 : (some (([] : List Int), false)) = some (r1, r2) := by rw [if_neg (show ¬ (false = true) by decide)] at H; exact H
 clear H
 have H := H1
 clear H1
 simp only [Option.some.injEq, Prod.mk.injEq] at H
 obtain ⟨rfl, rfl⟩ := H
 go_enter Try.func26, Try.ntmps26
 go_wp2_with (first | ((with_reducible refine gate_dst (N := 3) rfl ?_); refine box_event ?hg (N := 3) ?hd (cs := #[.int .i64 a0_0, .slice A0_1 l0_1.length c0_1]) (t := 31) ?hr ?_; (case hd => rfl); (case hg => rfl); (case hr => first | (go_simp; done) | (go_simp; rfl)); intro gb760 hg w21 hbox hb; have BK760 := Aside0.mk (hbox); have GW760 := Aside0.mk ((by rw [hg]; exact (below_size (Lz HB)) : w.heap.size ≤ gb760)); have GE760 := Aside0.mk ((by rw [hg]; exact (below_size (Lz HB)) : w.heap.size ≤ gb760)); replace HB := Aside0.mk (below_step (Lz HB) hb); clear hb hbox hg; have hcz22_0 : w21.cell? ⟨gb760, 0, none⟩ = some (.int .i64 a0_0) := (blk_cell BK760.out 0).trans rfl; have hcz22_1 : w21.cell? ⟨gb760, 1, none⟩ = some (.slice A0_1 l0_1.length c0_1) := (blk_cell BK760.out 1).trans rfl; have hfz22_0 := blk_frozen BK760.out 0; have hfz22_1 := blk_frozen BK760.out 1) | ((with_reducible refine gate_callee (f := 71) rfl ?_); refine goesM_ (some 12) rfl rfl Try.func71 (by kernel_rfl) rfl #[.agg #[.int .i64 a0_0, .slice A0_1 l0_1.length c0_1], .slice A1 l1.length c1] rfl ?_; (with_reducible refine (impl_DivisorOk.calls k a0_0 _ _ l0_1 _ _ l1 false _ ?side1 ?side2 ?side3 ?side4 A4.out).mono ?_); (case side1 => exact Cz ((Kd.C_below HR0_1.out HB.out))); (case side2 => exact HC0_1.out); (case side3 => exact Cz ((Kd.C_below HR1.out HB.out))); (case side4 => exact HC1.out); rintro e w23 ⟨rfl, hb⟩; refine ⟨_, rfl, ?_⟩; replace BK760 := Aside0.mk (blk_below (g := gb760) (o := .cells #[.int .i64 a0_0, .slice A0_1 l0_1.length c0_1] 31 (0, 0)) (Bz BK760) hb); replace HB := Aside0.mk (below_step (by exact Lz1 HB GE760) hb); (try clear hb); (try clear hb2); (try clear hk); (try clear hi)))
 go_ret2
 exact ⟨_, by first | rfl | (simp [errW_none, errW_some] <;> rfl) | (simp [*, errW_none, errW_some] <;> rfl), by first | exact Kd.R_nil _ _ _ _ _ | exact Kd.N_nil _ _ _ _ _ | exact Kd.V_nil _ _ _ _ _ | exact Kd.Q_nil _ _ _ _ _ | exact Kd.S_nil _ _ _ _ _, by exact Lz1 HB GE760⟩
def impl_ScriptOk.f (k : Nat) (a0_0 : Int) (l0_1 : List (S67)) (l1 : List Int) : Option (Bool) := (impl_GraphOk.f k a0_0 l0_1).bind fun t770 => (if t770 = true then (if (l1.length : Int) = a0_0 then ((impl_allWithin.f k l1 (-100000) 100000).bind fun t771 => (some t771)) else (some false)) else (some false))
set_option maxHeartbeats 8000000 in
set_option maxRecDepth 100000 in
theorem impl_ScriptOk.calls (k : Nat) (a0_0 : Int) (A0_1 : Option Addr) (c0_1 : Nat) (l0_1 : List (S67)) (A1 : Option Addr) (c1 : Nat) (l1 : List Int) (r : Bool) (w : World) (hr0_1 : Kd.C k67 w A0_1 l0_1.length l0_1) (hc0_1 : l0_1.length ≤ c0_1) (hr1 : Kd.C (Kd.int .i64) w A1 l1.length l1) (hc1 : l1.length ≤ c1) (h : impl_ScriptOk.f k a0_0 l0_1 l1 = some r) :
  Calls Try.prog 40 #[.agg #[.int .i64 a0_0, .slice A0_1 l0_1.length c0_1], .slice A1 l1.length c1] w fun e w' => e = .returned (.bool r) ∧ Below w.heap.size w w' := by
 have hu31 := Try.underlying31
 have HR0_1 := Aside0.mk hr0_1
 have HC0_1 := Aside0.mk hc0_1
 clear hr0_1 hc0_1
 have HR1 := Aside0.mk hr1
 have HC1 := Aside0.mk hc1
 clear hr1 hc1
 have HB := Aside0.mk (Below.refl w.heap.size w)
 have H : ((impl_GraphOk.f k a0_0 l0_1).bind fun t770 => (if t770 = true then (if (l1.length : Int) = a0_0 then ((impl_allWithin.f k l1 (-100000) 100000).bind fun t771 => (some t771)) else (some false)) else (some false))) = some r := h
 clear h
 replace H := Option.bind_eq_some_iff.mp H
 obtain ⟨t770, A30, H⟩ := H
 replace H : (if t770 = true then (if (l1.length : Int) = a0_0 then ((impl_allWithin.f k l1 (-100000) 100000).bind fun t771 => (some t771)) else (some false)) else (some false)) = some r := H
 have A3 := Aside0.mk A30
 clear A30
 by_cases c4 : t770 = true
 ·subst c4
  have H1 : (if (l1.length : Int) = a0_0 then ((impl_allWithin.f k l1 (-100000) 100000).bind fun t771 => (some t771)) else (some false)) = some r := by rw [if_pos rfl] at H; exact H
  clear H
  have H := H1
  clear H1
  by_cases c5 : (l1.length : Int) = a0_0
  ·rw [if_pos c5] at H
   have c5b0 : ((l1.length : Int) == a0_0) = true := beq_iff_eq.mpr c5
   have c5b1 : ((l1.length : Int) != a0_0) = false := bne_eq_false_iff_eq.mpr c5
   clear c5
   replace H := Option.bind_eq_some_iff.mp H
   obtain ⟨t771, A60, H⟩ := H
   replace H : (some t771) = some r := H
   have A6 := Aside0.mk A60
   clear A60
   obtain rfl := Option.some.inj H
   go_enter Try.func40, Try.ntmps40
   go_wp2_with (first | ((with_reducible refine gate_dst (N := 2) rfl ?_); (try (refine gate_guard (by rfl) ?_; dsimp only)); refine box_event ?hg (N := 2) ?hd (cs := #[.int .i64 a0_0, .slice A0_1 l0_1.length c0_1]) (t := 31) ?hr ?_; (case hd => rfl); (case hg => rfl); (case hr => first | (go_simp; done) | (go_simp; rfl)); intro gb769 hg w7 hbox hb; have BK769 := Aside0.mk (hbox); have GW769 := Aside0.mk ((by rw [hg]; exact (below_size (Lz HB)) : w.heap.size ≤ gb769)); have GE769 := Aside0.mk ((by rw [hg]; exact (below_size (Lz HB)) : w.heap.size ≤ gb769)); replace HB := Aside0.mk (below_step (Lz HB) hb); clear hb hbox hg; have hcz8_0 : w7.cell? ⟨gb769, 0, none⟩ = some (.int .i64 a0_0) := (blk_cell BK769.out 0).trans rfl; have hcz8_1 : w7.cell? ⟨gb769, 1, none⟩ = some (.slice A0_1 l0_1.length c0_1) := (blk_cell BK769.out 1).trans rfl; have hfz8_0 := blk_frozen BK769.out 0; have hfz8_1 := blk_frozen BK769.out 1) | ((with_reducible refine gate_callee (f := 50) rfl ?_); refine goesM_ (some 6) rfl rfl Try.func50 (by kernel_rfl) rfl #[.agg #[.int .i64 a0_0, .slice A0_1 l0_1.length c0_1]] rfl ?_; (with_reducible refine (impl_GraphOk.calls k a0_0 _ _ l0_1 true _ ?side1 ?side2 A3.out).mono ?_); (case side1 => exact Cz ((Kd.C_below HR0_1.out HB.out))); (case side2 => exact HC0_1.out); rintro e w9 ⟨rfl, hb⟩; refine ⟨_, rfl, ?_⟩; replace BK769 := Aside0.mk (blk_below (g := gb769) (o := .cells #[.int .i64 a0_0, .slice A0_1 l0_1.length c0_1] 31 (0, 0)) (Bz BK769) hb); replace HB := Aside0.mk (below_step (by exact Lz1 HB GE769) hb); (try clear hb); (try clear hb2); (try clear hk); (try clear hi); have hcz10_0 : w9.cell? ⟨gb769, 0, none⟩ = some (.int .i64 a0_0) := (blk_cell BK769.out 0).trans rfl; have hcz10_1 : w9.cell? ⟨gb769, 1, none⟩ = some (.slice A0_1 l0_1.length c0_1) := (blk_cell BK769.out 1).trans rfl; have hfz10_0 := blk_frozen BK769.out 0; have hfz10_1 := blk_frozen BK769.out 1) | (go_at_call 80; (with_reducible refine (impl_allWithin.calls k _ _ l1 (-100000) 100000 t771 _ ?side1 ?side2 A6.out).mono ?_); (case side1 => exact Cz ((Kd.C_below HR1.out HB.out))); (case side2 => exact HC1.out); rintro e w' ⟨rfl, ⟨nd, rfl⟩⟩))
   go_ret
   exact ⟨by first | rfl | (simp [errW_none, errW_some] <;> rfl) | (simp [*, errW_none, errW_some] <;> rfl), by exact Lz1 HB GE769⟩
  rw [if_neg c5] at H
  have c5b0 : ((l1.length : Int) == a0_0) = false := beq_eq_false_iff_ne.mpr c5
  have c5b1 : ((l1.length : Int) != a0_0) = true := bne_iff_ne.mpr c5
  obtain rfl := Option.some.inj H
  go_enter Try.func40, Try.ntmps40
  go_wp2_with (first | ((with_reducible refine gate_dst (N := 2) rfl ?_); (try (refine gate_guard (by rfl) ?_; dsimp only)); refine box_event ?hg (N := 2) ?hd (cs := #[.int .i64 a0_0, .slice A0_1 l0_1.length c0_1]) (t := 31) ?hr ?_; (case hd => rfl); (case hg => rfl); (case hr => first | (go_simp; done) | (go_simp; rfl)); intro gb769 hg w11 hbox hb; have BK769 := Aside0.mk (hbox); have GW769 := Aside0.mk ((by rw [hg]; exact (below_size (Lz HB)) : w.heap.size ≤ gb769)); have GE769 := Aside0.mk ((by rw [hg]; exact (below_size (Lz HB)) : w.heap.size ≤ gb769)); replace HB := Aside0.mk (below_step (Lz HB) hb); clear hb hbox hg; have hcz12_0 : w11.cell? ⟨gb769, 0, none⟩ = some (.int .i64 a0_0) := (blk_cell BK769.out 0).trans rfl; have hcz12_1 : w11.cell? ⟨gb769, 1, none⟩ = some (.slice A0_1 l0_1.length c0_1) := (blk_cell BK769.out 1).trans rfl; have hfz12_0 := blk_frozen BK769.out 0; have hfz12_1 := blk_frozen BK769.out 1) | ((with_reducible refine gate_callee (f := 50) rfl ?_); refine goesM_ (some 6) rfl rfl Try.func50 (by kernel_rfl) rfl #[.agg #[.int .i64 a0_0, .slice A0_1 l0_1.length c0_1]] rfl ?_; (with_reducible refine (impl_GraphOk.calls k a0_0 _ _ l0_1 true _ ?side1 ?side2 A3.out).mono ?_); (case side1 => exact Cz ((Kd.C_below HR0_1.out HB.out))); (case side2 => exact HC0_1.out); rintro e w13 ⟨rfl, hb⟩; refine ⟨_, rfl, ?_⟩; replace BK769 := Aside0.mk (blk_below (g := gb769) (o := .cells #[.int .i64 a0_0, .slice A0_1 l0_1.length c0_1] 31 (0, 0)) (Bz BK769) hb); replace HB := Aside0.mk (below_step (by exact Lz1 HB GE769) hb); (try clear hb); (try clear hb2); (try clear hk); (try clear hi); have hcz14_0 : w13.cell? ⟨gb769, 0, none⟩ = some (.int .i64 a0_0) := (blk_cell BK769.out 0).trans rfl; have hcz14_1 : w13.cell? ⟨gb769, 1, none⟩ = some (.slice A0_1 l0_1.length c0_1) := (blk_cell BK769.out 1).trans rfl; have hfz14_0 := blk_frozen BK769.out 0; have hfz14_1 := blk_frozen BK769.out 1))
  go_ret
  exact ⟨by first | rfl | (simp [errW_none, errW_some] <;> rfl) | (simp [*, errW_none, errW_some] <;> rfl), by exact Lz1 HB GE769⟩
 replace c4 := Bool.eq_false_iff.mpr c4
 subst c4
 have H1 : (some false) = some r := by rw [if_neg (show ¬ (false = true) by decide)] at H; exact H
 clear H
 have H := H1
 clear H1
 obtain rfl := Option.some.inj H
 go_enter Try.func40, Try.ntmps40
 go_wp2_with (first | ((with_reducible refine gate_dst (N := 2) rfl ?_); (try (refine gate_guard (by rfl) ?_; dsimp only)); refine box_event ?hg (N := 2) ?hd (cs := #[.int .i64 a0_0, .slice A0_1 l0_1.length c0_1]) (t := 31) ?hr ?_; (case hd => rfl); (case hg => rfl); (case hr => first | (go_simp; done) | (go_simp; rfl)); intro gb769 hg w15 hbox hb; have BK769 := Aside0.mk (hbox); have GW769 := Aside0.mk ((by rw [hg]; exact (below_size (Lz HB)) : w.heap.size ≤ gb769)); have GE769 := Aside0.mk ((by rw [hg]; exact (below_size (Lz HB)) : w.heap.size ≤ gb769)); replace HB := Aside0.mk (below_step (Lz HB) hb); clear hb hbox hg; have hcz16_0 : w15.cell? ⟨gb769, 0, none⟩ = some (.int .i64 a0_0) := (blk_cell BK769.out 0).trans rfl; have hcz16_1 : w15.cell? ⟨gb769, 1, none⟩ = some (.slice A0_1 l0_1.length c0_1) := (blk_cell BK769.out 1).trans rfl; have hfz16_0 := blk_frozen BK769.out 0; have hfz16_1 := blk_frozen BK769.out 1) | ((with_reducible refine gate_callee (f := 50) rfl ?_); refine goesM_ (some 6) rfl rfl Try.func50 (by kernel_rfl) rfl #[.agg #[.int .i64 a0_0, .slice A0_1 l0_1.length c0_1]] rfl ?_; (with_reducible refine (impl_GraphOk.calls k a0_0 _ _ l0_1 false _ ?side1 ?side2 A3.out).mono ?_); (case side1 => exact Cz ((Kd.C_below HR0_1.out HB.out))); (case side2 => exact HC0_1.out); rintro e w17 ⟨rfl, hb⟩; refine ⟨_, rfl, ?_⟩; replace BK769 := Aside0.mk (blk_below (g := gb769) (o := .cells #[.int .i64 a0_0, .slice A0_1 l0_1.length c0_1] 31 (0, 0)) (Bz BK769) hb); replace HB := Aside0.mk (below_step (by exact Lz1 HB GE769) hb); (try clear hb); (try clear hb2); (try clear hk); (try clear hi)))
 go_ret
 exact ⟨by first | rfl | (simp [errW_none, errW_some] <;> rfl) | (simp [*, errW_none, errW_some] <;> rfl), by exact Lz1 HB GE769⟩
def impl_fired.l0 : Nat → List Int → List Int → Int → Int → Int → List (S67) → Option (List Int)
 | 0, _, _, _, _, _, _ => none
 | k + 1, x7, x12, x13, x14, x773000, x773001 => if x14 < x13 then (if 0 ≤ x14 then (if x14 < (x12.length : Int) then ((impl_fire.f k x773000 x773001 x7 x14 (rd x12 x14)).bind fun t777 => (impl_fired.l0 k t777 x12 x13 (wrap64 (x14 + 1)) x773000 x773001)) else (none)) else (none)) else (some x7)
def impl_fired.f (k : Nat) (a0_0 : Int) (l0_1 : List (S67)) (l1 : List Int) (l2 : List Int) : Option (List Int) := (impl_copyInts.f l1).bind fun t773 => (impl_fired.l0 k t773 l2 (l2.length : Int) 0 a0_0 l0_1)
set_option maxHeartbeats 8000000 in
set_option maxRecDepth 100000 in
theorem impl_fired.calls (k : Nat) (a0_0 : Int) (A0_1 : Option Addr) (c0_1 : Nat) (l0_1 : List (S67)) (A1 : Option Addr) (c1 : Nat) (l1 : List Int) (A2 : Option Addr) (c2 : Nat) (l2 : List Int) (r : List Int) (w : World) (hr0_1 : Kd.C k67 w A0_1 l0_1.length l0_1) (hc0_1 : l0_1.length ≤ c0_1) (hr1 : Kd.C (Kd.int .i64) w A1 l1.length l1) (hc1 : l1.length ≤ c1) (hr2 : Kd.C (Kd.int .i64) w A2 l2.length l2) (hc2 : l2.length ≤ c2) (h : impl_fired.f k a0_0 l0_1 l1 l2 = some r) :
  Calls Try.prog 73 #[.agg #[.int .i64 a0_0, .slice A0_1 l0_1.length c0_1], .slice A1 l1.length c1, .slice A2 l2.length c2] w fun e w' => ∃ v0_ : Value, e = .returned (v0_) ∧ Kd.R (Kd.int .i64) 3 w' w.heap.size (fun _ => True) v0_ r ∧ Below w.heap.size w w' := by
 have hu31 := Try.underlying31
 have HR0_1 := Aside0.mk hr0_1
 have HC0_1 := Aside0.mk hc0_1
 clear hr0_1 hc0_1
 have HR1 := Aside0.mk hr1
 have HC1 := Aside0.mk hc1
 clear hr1 hc1
 have HR2 := Aside0.mk hr2
 have HC2 := Aside0.mk hc2
 clear hr2 hc2
 have HB := Aside0.mk (Below.refl w.heap.size w)
 have H : ((impl_copyInts.f l1).bind fun t773 => (impl_fired.l0 k t773 l2 (l2.length : Int) 0 a0_0 l0_1)) = some r := h
 clear h
 replace H := Option.bind_eq_some_iff.mp H
 obtain ⟨t773, A40, H⟩ := H
 replace H : (impl_fired.l0 k t773 l2 (l2.length : Int) 0 a0_0 l0_1) = some r := H
 have A4 := Aside0.mk A40
 clear A40
 have H' := Aside0.mk H
 clear H
 go_enter Try.func73, Try.ntmps73
 go_wp2_with (first | ((with_reducible refine gate_dst (N := 3) rfl ?_); refine box_event ?hg (N := 3) ?hd (cs := #[.int .i64 a0_0, .slice A0_1 l0_1.length c0_1]) (t := 31) ?hr ?_; (case hd => rfl); (case hg => rfl); (case hr => first | (go_simp; done) | (go_simp; rfl)); intro gb772 hg w5 hbox hb; have BK772 := Aside0.mk (hbox); have GW772 := Aside0.mk ((by rw [hg]; exact (below_size (Lz HB)) : w.heap.size ≤ gb772)); have GE772 := Aside0.mk ((by rw [hg]; exact (below_size (Lz HB)) : w.heap.size ≤ gb772)); replace HB := Aside0.mk (below_step (Lz HB) hb); clear hb hbox hg) | ((with_reducible refine gate_callee (f := 79) rfl ?_); refine goesM_ (some 11) rfl rfl Try.func79 (by kernel_rfl) rfl #[.slice A1 l1.length c1] rfl ?_; (with_reducible refine (impl_copyInts.calls _ _ l1 t773 _ ?side1 ?side2 A4.out).mono ?_); (case side1 => exact Cz ((Kd.C_below HR1.out HB.out))); (case side2 => exact HC1.out); rintro e w6 ⟨v774, rfl, ho0, hb⟩; refine ⟨_, rfl, ?_⟩; have HO775 := Aside0.mk (Kd.R_lower ho0 (below_size (by exact Lz1 HB GE772))); replace BK772 := Aside0.mk (blk_below (g := gb772) (o := .cells #[.int .i64 a0_0, .slice A0_1 l0_1.length c0_1] 31 (0, 0)) (Bz BK772) hb); replace HB := Aside0.mk (below_step (by exact Lz1 HB GE772) hb); (try clear hb); (try clear ho0)))
 go_loopg [14] k (fun kq v14 w' => ∃ (x7_1 : List Int) (x14_1 : Int), v14 = .int .i64 x14_1 ∧ Aside0 (impl_fired.l0 kq x7_1 l2 (l2.length : Int) x14_1 a0_0 l0_1 = some r) ∧ Aside0 (kq ≤ k) ∧ Aside0 (Kd.R (Kd.int .i64) 3 w' w.heap.size (fun _ => True) v774 x7_1) ∧ Aside0 (w'.heap[gb772]? = some (.cells #[.int .i64 a0_0, (.slice A0_1 l0_1.length c0_1)] 31 (0, 0))) ∧ Aside0 (Below w.heap.size w w'))
 case atStart => exact ⟨(t773), (0), eqA, H', ⟨Nat.le_refl _⟩, ⟨by exact Rz HO775⟩, ⟨by exact Bz BK772⟩, ⟨by exact Lz1 HB GE772⟩⟩
 case round =>
  clear H'
  try clear c1
  try clear c2
  obtain ⟨x7_1, x14_1, rfl, HA, HK1, HO_7, BK772, HB⟩ := hrel
  cases gk with
  | zero => exact absurd HA.out (by simp [impl_fired.l0])
  | succ k1 =>
   have H := HA.out
   clear HA
   simp only [impl_fired.l0] at H
   by_cases c7 : x14_1 < (l2.length : Int)
   ·rw [if_pos c7] at H
    have c7b0 : decide (x14_1 < (l2.length : Int)) = true := decide_eq_true c7
    clear c7
    by_cases c8 : 0 ≤ x14_1
    ·rw [if_pos c8] at H
     have c8b0 : decide (0 ≤ x14_1) = true := decide_eq_true c8
     clear c8
     by_cases c9 : x14_1 < (l2.length : Int)
     ·rw [if_pos c9] at H
      have c9b0 : decide (x14_1 < (l2.length : Int)) = true := decide_eq_true c9
      clear c9
      replace H := Option.bind_eq_some_iff.mp H
      obtain ⟨t777, A100, H⟩ := H
      replace H : (impl_fired.l0 k1 t777 l2 (l2.length : Int) (wrap64 (x14_1 + 1)) a0_0 l0_1) = some r := H
      have A10 := Aside0.mk A100
      clear A100
      have H' := Aside0.mk H
      clear H
      have p776 : 0 ≤ (x14_1 : Int) := ofA
      have q776 : x14_1 < (l2.length : Int) := ofA
      obtain ⟨ad776, e776, hx776_0⟩ := Kd.at_int HR2.out x14_1 p776 q776
      cases e776
      replace hx776_0 := (HB.out.cell (World.block_lt_of_cell? w _ hx776_0)).trans hx776_0
      replace p776 := eq_true p776
      replace q776 := eq_true q776
      have hcz11_0 : wr.cell? ⟨gb772, 0, none⟩ = some (.int .i64 a0_0) := (blk_cell BK772.out 0).trans rfl
      have hcz11_1 : wr.cell? ⟨gb772, 1, none⟩ = some (.slice A0_1 l0_1.length c0_1) := (blk_cell BK772.out 1).trans rfl
      have hfz11_0 := blk_frozen BK772.out 0
      have hfz11_1 := blk_frozen BK772.out 1
      obtain ⟨Ao12, co12, eo12⟩ := Kd.R_slice HO_7.out
      subst eo12
      go_wp2_with (first | ((with_reducible refine gate_callee (f := 101) rfl ?_); refine goesM_ (some 23) rfl rfl Try.func101 (by kernel_rfl) rfl #[.agg #[.int .i64 a0_0, .slice A0_1 l0_1.length c0_1], .slice Ao12 x7_1.length co12, .int .i64 x14_1, .int .i64 (rd l2 x14_1)] rfl ?_; (with_reducible refine (impl_fire.calls k1 a0_0 _ _ l0_1 (fun k_ => some k_ = (.slice Ao12 x7_1.length co12 : Value).ownBlock) (.slice Ao12 x7_1.length co12) x7_1 x14_1 (rd l2 x14_1) t777 w _ ?side1 ?side2 ?side3 ?side4 A10.out).mono ?_); (case side1 => exact Lz1 HB GE772); (case side2 => exact Kd.C_kept_came k67_heap HR0_1.out (by exact Lz1 HB GE772) (fun k_ hs_ => (fun e_ => Kd.R_base HO_7.out k_ e_.symm) hs_)); (case side3 => exact HC0_1.out); (case side4 => exact Kd.R_tight rfl HO_7.out); rintro e w13 ⟨rfl, hy0, hb, hkp⟩; refine ⟨_, rfl, ?_⟩; replace BK772 := Aside0.mk (blk_kept (Bz BK772) hkp (fun hs_ => (fun e_ => (Kd.R_ne HO_7.out BK772.out (by decide)) e_) hs_)); replace HO_7 := Aside0.mk (Kd.R_reok rfl hy0 (fun k_ e_ => HO_7.out.1 k_ e_)); replace HB := Aside0.mk (hb); (try clear hb); (try clear hkp); (try clear hy0)))
      go_roundg k1
      case measure => have := HK1.out; omega
      case rel => exact ⟨(t777), (wrap64 (x14_1 + 1)), eqA, H', ⟨by have := HK1.out; omega⟩, ⟨by exact Rz HO_7⟩, ⟨by exact Bz BK772⟩, ⟨by exact Lz1 HB GE772⟩⟩
     rw [if_neg c9] at H
     exact absurd H (by simp)
    rw [if_neg c8] at H
    exact absurd H (by simp)
   rw [if_neg c7] at H
   have c7b0 : decide (x14_1 < (l2.length : Int)) = false := decide_eq_false c7
   clear c7
   obtain rfl := Option.some.inj H
   go_wp2
   go_ret
   exact ⟨_, by first | rfl | (simp [errW_none, errW_some] <;> rfl) | (simp [*, errW_none, errW_some] <;> rfl), by exact Rz HO_7, by exact Lz1 HB GE772⟩
def impl_FireScript.f (k : Nat) (a0_0 : Int) (l0_1 : List (S67)) (l1 : List Int) (l2 : List Int) : Option (List Int × Bool) := (impl_DivisorOk.f k a0_0 l0_1 l1).bind fun t779 => (if t779 = true then ((impl_ScriptOk.f k a0_0 l0_1 l2).bind fun t780 => (if t780 = true then ((impl_fired.f k a0_0 l0_1 l1 l2).bind fun t781 => (some (t781, true))) else (some (([] : List Int), false)))) else (some (([] : List Int), false)))
set_option maxHeartbeats 8000000 in
set_option maxRecDepth 100000 in
theorem impl_FireScript.calls (k : Nat) (a0_0 : Int) (A0_1 : Option Addr) (c0_1 : Nat) (l0_1 : List (S67)) (A1 : Option Addr) (c1 : Nat) (l1 : List Int) (A2 : Option Addr) (c2 : Nat) (l2 : List Int) (r1 : List Int) (r2 : Bool) (w : World) (hr0_1 : Kd.C k67 w A0_1 l0_1.length l0_1) (hc0_1 : l0_1.length ≤ c0_1) (hr1 : Kd.C (Kd.int .i64) w A1 l1.length l1) (hc1 : l1.length ≤ c1) (hr2 : Kd.C (Kd.int .i64) w A2 l2.length l2) (hc2 : l2.length ≤ c2) (h : impl_FireScript.f k a0_0 l0_1 l1 l2 = some (r1, r2)) :
  Calls Try.prog 27 #[.agg #[.int .i64 a0_0, .slice A0_1 l0_1.length c0_1], .slice A1 l1.length c1, .slice A2 l2.length c2] w fun e w' => ∃ v0_ : Value, e = .returned (.tuple #[v0_, .bool r2]) ∧ Kd.R (Kd.int .i64) 3 w' w.heap.size (fun _ => True) v0_ r1 ∧ Below w.heap.size w w' := by
 have hu31 := Try.underlying31
 have HR0_1 := Aside0.mk hr0_1
 have HC0_1 := Aside0.mk hc0_1
 clear hr0_1 hc0_1
 have HR1 := Aside0.mk hr1
 have HC1 := Aside0.mk hc1
 clear hr1 hc1
 have HR2 := Aside0.mk hr2
 have HC2 := Aside0.mk hc2
 clear hr2 hc2
 have HB := Aside0.mk (Below.refl w.heap.size w)
 have H : ((impl_DivisorOk.f k a0_0 l0_1 l1).bind fun t779 => (if t779 = true then ((impl_ScriptOk.f k a0_0 l0_1 l2).bind fun t780 => (if t780 = true then ((impl_fired.f k a0_0 l0_1 l1 l2).bind fun t781 => (some (t781, true))) else (some (([] : List Int), false)))) else (some (([] : List Int), false)))) = some (r1, r2) := h
 clear h
 replace H := Option.bind_eq_some_iff.mp H
 obtain ⟨t779, A40, H⟩ := H
 replace H : (if t779 = true then ((impl_ScriptOk.f k a0_0 l0_1 l2).bind fun t780 => (if t780 = true then ((impl_fired.f k a0_0 l0_1 l1 l2).bind fun t781 => (some (t781, true))) else (some (([] : List Int), false)))) else (some (([] : List Int), false))) = some (r1, r2) := H
 have A4 := Aside0.mk A40
 clear A40
 by_cases c5 : t779 = true
 ·subst c5
  have H1 : ((impl_ScriptOk.f k a0_0 l0_1 l2).bind fun t780 => (if t780 = true then ((impl_fired.f k a0_0 l0_1 l1 l2).bind fun t781 => (some (t781, true))) else (some (([] : List Int), false)))) = some (r1, r2) := by rw [if_pos rfl] at H; exact H
  clear H
  have H := H1
  clear H1
  replace H := Option.bind_eq_some_iff.mp H
  obtain ⟨t780, A60, H⟩ := H
  replace H : (if t780 = true then ((impl_fired.f k a0_0 l0_1 l1 l2).bind fun t781 => (some (t781, true))) else (some (([] : List Int), false))) = some (r1, r2) := H
  have A6 := Aside0.mk A60
  clear A60
  by_cases c7 : t780 = true
  ·subst c7
   have H1 : ((impl_fired.f k a0_0 l0_1 l1 l2).bind fun t781 => (some (t781, true))) = some (r1, r2) := by rw [if_pos rfl] at H; exact H
   clear H
   have H := H1
   clear H1
   replace H := Option.bind_eq_some_iff.mp H
   obtain ⟨t781, A80, H⟩ := H
   replace H : (some (t781, true)) = some (r1, r2) := H
   have A8 := Aside0.mk A80
   clear A80
   simp only [Option.some.injEq, Prod.mk.injEq] at H
   obtain ⟨rfl, rfl⟩ := H
   go_enter Try.func27, Try.ntmps27
   go_wp2_with (first | ((with_reducible refine gate_dst (N := 3) rfl ?_); refine box_event ?hg (N := 3) ?hd (cs := #[.int .i64 a0_0, .slice A0_1 l0_1.length c0_1]) (t := 31) ?hr ?_; (case hd => rfl); (case hg => rfl); (case hr => first | (go_simp; done) | (go_simp; rfl)); intro gb778 hg w9 hbox hb; have BK778 := Aside0.mk (hbox); have GW778 := Aside0.mk ((by rw [hg]; exact (below_size (Lz HB)) : w.heap.size ≤ gb778)); have GE778 := Aside0.mk ((by rw [hg]; exact (below_size (Lz HB)) : w.heap.size ≤ gb778)); replace HB := Aside0.mk (below_step (Lz HB) hb); clear hb hbox hg; have hcz10_0 : w9.cell? ⟨gb778, 0, none⟩ = some (.int .i64 a0_0) := (blk_cell BK778.out 0).trans rfl; have hcz10_1 : w9.cell? ⟨gb778, 1, none⟩ = some (.slice A0_1 l0_1.length c0_1) := (blk_cell BK778.out 1).trans rfl; have hfz10_0 := blk_frozen BK778.out 0; have hfz10_1 := blk_frozen BK778.out 1) | ((with_reducible refine gate_callee (f := 71) rfl ?_); refine goesM_ (some 10) rfl rfl Try.func71 (by kernel_rfl) rfl #[.agg #[.int .i64 a0_0, .slice A0_1 l0_1.length c0_1], .slice A1 l1.length c1] rfl ?_; (with_reducible refine (impl_DivisorOk.calls k a0_0 _ _ l0_1 _ _ l1 true _ ?side1 ?side2 ?side3 ?side4 A4.out).mono ?_); (case side1 => exact Cz ((Kd.C_below HR0_1.out HB.out))); (case side2 => exact HC0_1.out); (case side3 => exact Cz ((Kd.C_below HR1.out HB.out))); (case side4 => exact HC1.out); rintro e w11 ⟨rfl, hb⟩; refine ⟨_, rfl, ?_⟩; replace BK778 := Aside0.mk (blk_below (g := gb778) (o := .cells #[.int .i64 a0_0, .slice A0_1 l0_1.length c0_1] 31 (0, 0)) (Bz BK778) hb); replace HB := Aside0.mk (below_step (by exact Lz1 HB GE778) hb); (try clear hb); (try clear hb2); (try clear hk); (try clear hi); have hcz12_0 : w11.cell? ⟨gb778, 0, none⟩ = some (.int .i64 a0_0) := (blk_cell BK778.out 0).trans rfl; have hcz12_1 : w11.cell? ⟨gb778, 1, none⟩ = some (.slice A0_1 l0_1.length c0_1) := (blk_cell BK778.out 1).trans rfl; have hfz12_0 := blk_frozen BK778.out 0; have hfz12_1 := blk_frozen BK778.out 1) | (go_at_call 40; (with_reducible refine (impl_ScriptOk.calls k a0_0 _ _ l0_1 _ _ l2 true _ ?side1 ?side2 ?side3 ?side4 A6.out).mono ?_); (case side1 => exact Cz ((Kd.C_below HR0_1.out HB.out))); (case side2 => exact HC0_1.out); (case side3 => exact Cz ((Kd.C_below HR2.out HB.out))); (case side4 => exact HC2.out); rintro e w13 ⟨rfl, hb⟩; replace BK778 := Aside0.mk (blk_below (g := gb778) (o := .cells #[.int .i64 a0_0, .slice A0_1 l0_1.length c0_1] 31 (0, 0)) (Bz BK778) hb); replace HB := Aside0.mk (below_step (by exact Lz1 HB GE778) hb); (try clear hb); (try clear hb2); (try clear hk); (try clear hi); have hcz14_0 : w13.cell? ⟨gb778, 0, none⟩ = some (.int .i64 a0_0) := (blk_cell BK778.out 0).trans rfl; have hcz14_1 : w13.cell? ⟨gb778, 1, none⟩ = some (.slice A0_1 l0_1.length c0_1) := (blk_cell BK778.out 1).trans rfl; have hfz14_0 := blk_frozen BK778.out 0; have hfz14_1 := blk_frozen BK778.out 1) | ((with_reducible refine gate_callee (f := 73) rfl ?_); refine goesM_ (some 21) rfl rfl Try.func73 (by kernel_rfl) rfl #[.agg #[.int .i64 a0_0, .slice A0_1 l0_1.length c0_1], .slice A1 l1.length c1, .slice A2 l2.length c2] rfl ?_; (with_reducible refine (impl_fired.calls k a0_0 _ _ l0_1 _ _ l1 _ _ l2 t781 _ ?side1 ?side2 ?side3 ?side4 ?side5 ?side6 A8.out).mono ?_); (case side1 => exact Cz ((Kd.C_below HR0_1.out HB.out))); (case side2 => exact HC0_1.out); (case side3 => exact Cz ((Kd.C_below HR1.out HB.out))); (case side4 => exact HC1.out); (case side5 => exact Cz ((Kd.C_below HR2.out HB.out))); (case side6 => exact HC2.out); rintro e w15 ⟨v782, rfl, ho0, hb⟩; refine ⟨_, rfl, ?_⟩; have HO783 := Aside0.mk (Kd.R_lower ho0 (below_size (by exact Lz1 HB GE778))); replace BK778 := Aside0.mk (blk_below (g := gb778) (o := .cells #[.int .i64 a0_0, .slice A0_1 l0_1.length c0_1] 31 (0, 0)) (Bz BK778) hb); replace HB := Aside0.mk (below_step (by exact Lz1 HB GE778) hb); (try clear hb); (try clear ho0)))
   go_ret2
   exact ⟨_, by first | rfl | (simp [errW_none, errW_some] <;> rfl) | (simp [*, errW_none, errW_some] <;> rfl), by exact Rz HO783, by exact Lz1 HB GE778⟩
  replace c7 := Bool.eq_false_iff.mpr c7
  subst c7
  have H1 : (some (([] : List Int), false)) = some (r1, r2) := by rw [if_neg (show ¬ (false = true) by decide)] at H; exact H
  clear H
  have H := H1
  clear H1
  simp only [Option.some.injEq, Prod.mk.injEq] at H
  obtain ⟨rfl, rfl⟩ := H
  go_enter Try.func27, Try.ntmps27
  go_wp2_with (first | ((with_reducible refine gate_dst (N := 3) rfl ?_); refine box_event ?hg (N := 3) ?hd (cs := #[.int .i64 a0_0, .slice A0_1 l0_1.length c0_1]) (t := 31) ?hr ?_; (case hd => rfl); (case hg => rfl); (case hr => first | (go_simp; done) | (go_simp; rfl)); intro gb778 hg w16 hbox hb; have BK778 := Aside0.mk (hbox); have GW778 := Aside0.mk ((by rw [hg]; exact (below_size (Lz HB)) : w.heap.size ≤ gb778)); have GE778 := Aside0.mk ((by rw [hg]; exact (below_size (Lz HB)) : w.heap.size ≤ gb778)); replace HB := Aside0.mk (below_step (Lz HB) hb); clear hb hbox hg; have hcz17_0 : w16.cell? ⟨gb778, 0, none⟩ = some (.int .i64 a0_0) := (blk_cell BK778.out 0).trans rfl; have hcz17_1 : w16.cell? ⟨gb778, 1, none⟩ = some (.slice A0_1 l0_1.length c0_1) := (blk_cell BK778.out 1).trans rfl; have hfz17_0 := blk_frozen BK778.out 0; have hfz17_1 := blk_frozen BK778.out 1) | ((with_reducible refine gate_callee (f := 71) rfl ?_); refine goesM_ (some 10) rfl rfl Try.func71 (by kernel_rfl) rfl #[.agg #[.int .i64 a0_0, .slice A0_1 l0_1.length c0_1], .slice A1 l1.length c1] rfl ?_; (with_reducible refine (impl_DivisorOk.calls k a0_0 _ _ l0_1 _ _ l1 true _ ?side1 ?side2 ?side3 ?side4 A4.out).mono ?_); (case side1 => exact Cz ((Kd.C_below HR0_1.out HB.out))); (case side2 => exact HC0_1.out); (case side3 => exact Cz ((Kd.C_below HR1.out HB.out))); (case side4 => exact HC1.out); rintro e w18 ⟨rfl, hb⟩; refine ⟨_, rfl, ?_⟩; replace BK778 := Aside0.mk (blk_below (g := gb778) (o := .cells #[.int .i64 a0_0, .slice A0_1 l0_1.length c0_1] 31 (0, 0)) (Bz BK778) hb); replace HB := Aside0.mk (below_step (by exact Lz1 HB GE778) hb); (try clear hb); (try clear hb2); (try clear hk); (try clear hi); have hcz19_0 : w18.cell? ⟨gb778, 0, none⟩ = some (.int .i64 a0_0) := (blk_cell BK778.out 0).trans rfl; have hcz19_1 : w18.cell? ⟨gb778, 1, none⟩ = some (.slice A0_1 l0_1.length c0_1) := (blk_cell BK778.out 1).trans rfl; have hfz19_0 := blk_frozen BK778.out 0; have hfz19_1 := blk_frozen BK778.out 1) | (go_at_call 40; (with_reducible refine (impl_ScriptOk.calls k a0_0 _ _ l0_1 _ _ l2 false _ ?side1 ?side2 ?side3 ?side4 A6.out).mono ?_); (case side1 => exact Cz ((Kd.C_below HR0_1.out HB.out))); (case side2 => exact HC0_1.out); (case side3 => exact Cz ((Kd.C_below HR2.out HB.out))); (case side4 => exact HC2.out); rintro e w20 ⟨rfl, hb⟩; replace BK778 := Aside0.mk (blk_below (g := gb778) (o := .cells #[.int .i64 a0_0, .slice A0_1 l0_1.length c0_1] 31 (0, 0)) (Bz BK778) hb); replace HB := Aside0.mk (below_step (by exact Lz1 HB GE778) hb); (try clear hb); (try clear hb2); (try clear hk); (try clear hi)))
  go_ret2
  exact ⟨_, by first | rfl | (simp [errW_none, errW_some] <;> rfl) | (simp [*, errW_none, errW_some] <;> rfl), by first | exact Kd.R_nil _ _ _ _ _ | exact Kd.N_nil _ _ _ _ _ | exact Kd.V_nil _ _ _ _ _ | exact Kd.Q_nil _ _ _ _ _ | exact Kd.S_nil _ _ _ _ _, by exact Lz1 HB GE778⟩
 replace c5 := Bool.eq_false_iff.mpr c5
 subst c5
 have H1 : (some (([] : List Int), false)) = some (r1, r2) := by rw [if_neg (show ¬ (false = true) by decide)] at H; exact H
 clear H
 have H := H1
 clear H1
 simp only [Option.some.injEq, Prod.mk.injEq] at H
 obtain ⟨rfl, rfl⟩ := H
 go_enter Try.func27, Try.ntmps27
 go_wp2_with (first | ((with_reducible refine gate_dst (N := 3) rfl ?_); refine box_event ?hg (N := 3) ?hd (cs := #[.int .i64 a0_0, .slice A0_1 l0_1.length c0_1]) (t := 31) ?hr ?_; (case hd => rfl); (case hg => rfl); (case hr => first | (go_simp; done) | (go_simp; rfl)); intro gb778 hg w21 hbox hb; have BK778 := Aside0.mk (hbox); have GW778 := Aside0.mk ((by rw [hg]; exact (below_size (Lz HB)) : w.heap.size ≤ gb778)); have GE778 := Aside0.mk ((by rw [hg]; exact (below_size (Lz HB)) : w.heap.size ≤ gb778)); replace HB := Aside0.mk (below_step (Lz HB) hb); clear hb hbox hg; have hcz22_0 : w21.cell? ⟨gb778, 0, none⟩ = some (.int .i64 a0_0) := (blk_cell BK778.out 0).trans rfl; have hcz22_1 : w21.cell? ⟨gb778, 1, none⟩ = some (.slice A0_1 l0_1.length c0_1) := (blk_cell BK778.out 1).trans rfl; have hfz22_0 := blk_frozen BK778.out 0; have hfz22_1 := blk_frozen BK778.out 1) | ((with_reducible refine gate_callee (f := 71) rfl ?_); refine goesM_ (some 10) rfl rfl Try.func71 (by kernel_rfl) rfl #[.agg #[.int .i64 a0_0, .slice A0_1 l0_1.length c0_1], .slice A1 l1.length c1] rfl ?_; (with_reducible refine (impl_DivisorOk.calls k a0_0 _ _ l0_1 _ _ l1 false _ ?side1 ?side2 ?side3 ?side4 A4.out).mono ?_); (case side1 => exact Cz ((Kd.C_below HR0_1.out HB.out))); (case side2 => exact HC0_1.out); (case side3 => exact Cz ((Kd.C_below HR1.out HB.out))); (case side4 => exact HC1.out); rintro e w23 ⟨rfl, hb⟩; refine ⟨_, rfl, ?_⟩; replace BK778 := Aside0.mk (blk_below (g := gb778) (o := .cells #[.int .i64 a0_0, .slice A0_1 l0_1.length c0_1] 31 (0, 0)) (Bz BK778) hb); replace HB := Aside0.mk (below_step (by exact Lz1 HB GE778) hb); (try clear hb); (try clear hb2); (try clear hk); (try clear hi)))
 go_ret2
 exact ⟨_, by first | rfl | (simp [errW_none, errW_some] <;> rfl) | (simp [*, errW_none, errW_some] <;> rfl), by first | exact Kd.R_nil _ _ _ _ _ | exact Kd.N_nil _ _ _ _ _ | exact Kd.V_nil _ _ _ _ _ | exact Kd.Q_nil _ _ _ _ _ | exact Kd.S_nil _ _ _ _ _, by exact Lz1 HB GE778⟩
def laws_same.l0 : Nat → List Int → List Int → Int → Int → Option (Bool)
 | 0, _, _, _, _ => none
 | k + 1, x1, x12, x13, x14 => if x14 < x13 then (if 0 ≤ x14 then (if x14 < (x12.length : Int) then (if x14 < (x1.length : Int) then (if (rd x12 x14) = (rd x1 x14) then (laws_same.l0 k x1 x12 x13 (wrap64 (x14 + 1))) else (some false)) else (none)) else (none)) else (none)) else (some true)
def laws_same.f (k : Nat) (l0 : List Int) (l1 : List Int) : Option (Bool) := if (l0.length : Int) = (l1.length : Int) then (laws_same.l0 k l1 l0 (l0.length : Int) 0) else (some false)
set_option maxHeartbeats 8000000 in
set_option maxRecDepth 100000 in
theorem laws_same.calls (k : Nat) (A0 : Option Addr) (c0 : Nat) (l0 : List Int) (A1 : Option Addr) (c1 : Nat) (l1 : List Int) (r : Bool) (w : World) (hr0 : Kd.C (Kd.int .i64) w A0 l0.length l0) (hc0 : l0.length ≤ c0) (hr1 : Kd.C (Kd.int .i64) w A1 l1.length l1) (hc1 : l1.length ≤ c1) (h : laws_same.f k l0 l1 = some r) :
  Calls Try.prog 28 #[.slice A0 l0.length c0, .slice A1 l1.length c1] w fun e w' => e = .returned (.bool r) ∧ Drawn0 w w' := by
 have HR0 := Aside0.mk hr0
 have HC0 := Aside0.mk hc0
 clear hr0 hc0
 have HR1 := Aside0.mk hr1
 have HC1 := Aside0.mk hc1
 clear hr1 hc1
 have H : (if (l0.length : Int) = (l1.length : Int) then (laws_same.l0 k l1 l0 (l0.length : Int) 0) else (some false)) = some r := h
 clear h
 by_cases c3 : (l0.length : Int) = (l1.length : Int)
 ·rw [if_pos c3] at H
  have c3b0 : ((l0.length : Int) == (l1.length : Int)) = true := beq_iff_eq.mpr c3
  have c3b1 : ((l0.length : Int) != (l1.length : Int)) = false := bne_eq_false_iff_eq.mpr c3
  have c3b2 : (l0.length == l1.length) = true := by first | simpa using c3 | (simp at c3 ⊢; omega)
  clear c3
  have H' := Aside0.mk H
  clear H
  go_enter Try.func28, Try.ntmps28
  go_wp2
  go_loopg [14] k (fun kq v14 w' => ∃ (x14_1 : Int), v14 = .int .i64 x14_1 ∧ Aside0 (laws_same.l0 kq l1 l0 (l0.length : Int) x14_1 = some r) ∧ Aside0 (kq ≤ k) ∧ Drawn0 w w')
  case atStart => exact ⟨(0), eqA, H', ⟨Nat.le_refl _⟩, by repeat (first | exact Drawn0.refl _ | apply Drawn0.step)⟩
  case round =>
   clear H'
   try clear c1
   try clear c3
   try clear c3b0
   try clear c3b1
   try clear c3b2
   obtain ⟨x14_1, rfl, HA, HK1, ⟨m1, rfl⟩⟩ := hrel
   cases gk with
   | zero => exact absurd HA.out (by simp [laws_same.l0])
   | succ k1 =>
    have H := HA.out
    clear HA
    simp only [laws_same.l0] at H
    by_cases c4 : x14_1 < (l0.length : Int)
    ·rw [if_pos c4] at H
     have c4b0 : decide (x14_1 < (l0.length : Int)) = true := decide_eq_true c4
     clear c4
     by_cases c5 : 0 ≤ x14_1
     ·rw [if_pos c5] at H
      have c5b0 : decide (0 ≤ x14_1) = true := decide_eq_true c5
      clear c5
      by_cases c6 : x14_1 < (l0.length : Int)
      ·rw [if_pos c6] at H
       have c6b0 : decide (x14_1 < (l0.length : Int)) = true := decide_eq_true c6
       clear c6
       by_cases c7 : x14_1 < (l1.length : Int)
       ·rw [if_pos c7] at H
        have c7b0 : decide (x14_1 < (l1.length : Int)) = true := decide_eq_true c7
        clear c7
        by_cases c8 : (rd l0 x14_1) = (rd l1 x14_1)
        ·rw [if_pos c8] at H
         have c8b0 : ((rd l0 x14_1) == (rd l1 x14_1)) = true := beq_iff_eq.mpr c8
         have c8b1 : ((rd l0 x14_1) != (rd l1 x14_1)) = false := bne_eq_false_iff_eq.mpr c8
         clear c8
         have H' := Aside0.mk H
         clear H
         have p784 : 0 ≤ (x14_1 : Int) := ofA
         have q784 : x14_1 < (l0.length : Int) := ofA
         obtain ⟨ad784, e784, hx784_0⟩ := Kd.at_int HR0.out x14_1 p784 q784
         cases e784
         replace p784 := eq_true p784
         replace q784 := eq_true q784
         have p785 : 0 ≤ (x14_1 : Int) := ofA
         have q785 : x14_1 < (l1.length : Int) := ofA
         obtain ⟨ad785, e785, hx785_0⟩ := Kd.at_int HR1.out x14_1 p785 q785
         cases e785
         replace p785 := eq_true p785
         replace q785 := eq_true q785
         go_wp2
         go_roundg k1
         case measure => have := HK1.out; omega
         case rel => exact ⟨(wrap64 (x14_1 + 1)), eqA, H', ⟨by have := HK1.out; omega⟩, by repeat (first | exact Drawn0.refl _ | apply Drawn0.step)⟩
        rw [if_neg c8] at H
        have c8b0 : ((rd l0 x14_1) == (rd l1 x14_1)) = false := beq_eq_false_iff_ne.mpr c8
        have c8b1 : ((rd l0 x14_1) != (rd l1 x14_1)) = true := bne_iff_ne.mpr c8
        obtain rfl := Option.some.inj H
        have p784 : 0 ≤ (x14_1 : Int) := ofA
        have q784 : x14_1 < (l0.length : Int) := ofA
        obtain ⟨ad784, e784, hx784_0⟩ := Kd.at_int HR0.out x14_1 p784 q784
        cases e784
        replace p784 := eq_true p784
        replace q784 := eq_true q784
        have p785 : 0 ≤ (x14_1 : Int) := ofA
        have q785 : x14_1 < (l1.length : Int) := ofA
        obtain ⟨ad785, e785, hx785_0⟩ := Kd.at_int HR1.out x14_1 p785 q785
        cases e785
        replace p785 := eq_true p785
        replace q785 := eq_true q785
        go_wp2
        go_ret
        exact ⟨eqA, by repeat (first | exact Drawn0.refl _ | apply Drawn0.step)⟩
       rw [if_neg c7] at H
       exact absurd H (by simp)
      rw [if_neg c6] at H
      exact absurd H (by simp)
     rw [if_neg c5] at H
     exact absurd H (by simp)
    rw [if_neg c4] at H
    have c4b0 : decide (x14_1 < (l0.length : Int)) = false := decide_eq_false c4
    clear c4
    obtain rfl := Option.some.inj H
    go_wp2
    go_ret
    exact ⟨eqA, by repeat (first | exact Drawn0.refl _ | apply Drawn0.step)⟩
 rw [if_neg c3] at H
 have c3b0 : ((l0.length : Int) == (l1.length : Int)) = false := beq_eq_false_iff_ne.mpr c3
 have c3b1 : ((l0.length : Int) != (l1.length : Int)) = true := bne_iff_ne.mpr c3
 have c3b2 : (l0.length == l1.length) = false := by first | simpa using c3 | (simp at c3 ⊢; omega)
 obtain rfl := Option.some.inj H
 go_enter Try.func28, Try.ntmps28
 go_wp2
 go_ret
 exact ⟨eqA, by repeat (first | exact Drawn0.refl _ | apply Drawn0.step)⟩
def impl_BurnFrom.f (k : Nat) (a0_0 : Int) (l0_1 : List (S67)) (l1 : List Int) (a2 : Int) : Option (List Int × Bool) := (impl_DivisorOk.f k a0_0 l0_1 l1).bind fun t787 => (if t787 = true then ((impl_isVertex.f k a0_0 l0_1 a2).bind fun t788 => (if t788 = true then ((impl_burn.f k a0_0 l0_1 l1 a2).bind fun t789 => (some (t789, true))) else (some (([] : List Int), false)))) else (some (([] : List Int), false)))
set_option maxHeartbeats 8000000 in
set_option maxRecDepth 100000 in
theorem impl_BurnFrom.calls (k : Nat) (a0_0 : Int) (A0_1 : Option Addr) (c0_1 : Nat) (l0_1 : List (S67)) (A1 : Option Addr) (c1 : Nat) (l1 : List Int) (a2 : Int) (r1 : List Int) (r2 : Bool) (w : World) (hr0_1 : Kd.C k67 w A0_1 l0_1.length l0_1) (hc0_1 : l0_1.length ≤ c0_1) (hr1 : Kd.C (Kd.int .i64) w A1 l1.length l1) (hc1 : l1.length ≤ c1) (h : impl_BurnFrom.f k a0_0 l0_1 l1 a2 = some (r1, r2)) :
  Calls Try.prog 34 #[.agg #[.int .i64 a0_0, .slice A0_1 l0_1.length c0_1], .slice A1 l1.length c1, .int .i64 a2] w fun e w' => ∃ v0_ : Value, e = .returned (.tuple #[v0_, .bool r2]) ∧ Kd.R (Kd.int .i64) 3 w' w.heap.size (fun _ => True) v0_ r1 ∧ Below w.heap.size w w' := by
 have hu31 := Try.underlying31
 have HR0_1 := Aside0.mk hr0_1
 have HC0_1 := Aside0.mk hc0_1
 clear hr0_1 hc0_1
 have HR1 := Aside0.mk hr1
 have HC1 := Aside0.mk hc1
 clear hr1 hc1
 have HB := Aside0.mk (Below.refl w.heap.size w)
 have H : ((impl_DivisorOk.f k a0_0 l0_1 l1).bind fun t787 => (if t787 = true then ((impl_isVertex.f k a0_0 l0_1 a2).bind fun t788 => (if t788 = true then ((impl_burn.f k a0_0 l0_1 l1 a2).bind fun t789 => (some (t789, true))) else (some (([] : List Int), false)))) else (some (([] : List Int), false)))) = some (r1, r2) := h
 clear h
 replace H := Option.bind_eq_some_iff.mp H
 obtain ⟨t787, A40, H⟩ := H
 replace H : (if t787 = true then ((impl_isVertex.f k a0_0 l0_1 a2).bind fun t788 => (if t788 = true then ((impl_burn.f k a0_0 l0_1 l1 a2).bind fun t789 => (some (t789, true))) else (some (([] : List Int), false)))) else (some (([] : List Int), false))) = some (r1, r2) := H
 have A4 := Aside0.mk A40
 clear A40
 by_cases c5 : t787 = true
 ·subst c5
  have H1 : ((impl_isVertex.f k a0_0 l0_1 a2).bind fun t788 => (if t788 = true then ((impl_burn.f k a0_0 l0_1 l1 a2).bind fun t789 => (some (t789, true))) else (some (([] : List Int), false)))) = some (r1, r2) := by rw [if_pos rfl] at H; exact H
  clear H
  have H := H1
  clear H1
  replace H := Option.bind_eq_some_iff.mp H
  obtain ⟨t788, A60, H⟩ := H
  replace H : (if t788 = true then ((impl_burn.f k a0_0 l0_1 l1 a2).bind fun t789 => (some (t789, true))) else (some (([] : List Int), false))) = some (r1, r2) := H
  have A6 := Aside0.mk A60
  clear A60
  by_cases c7 : t788 = true
  ·subst c7
   have H1 : ((impl_burn.f k a0_0 l0_1 l1 a2).bind fun t789 => (some (t789, true))) = some (r1, r2) := by rw [if_pos rfl] at H; exact H
   clear H
   have H := H1
   clear H1
   replace H := Option.bind_eq_some_iff.mp H
   obtain ⟨t789, A80, H⟩ := H
   replace H : (some (t789, true)) = some (r1, r2) := H
   have A8 := Aside0.mk A80
   clear A80
   simp only [Option.some.injEq, Prod.mk.injEq] at H
   obtain ⟨rfl, rfl⟩ := H
   go_enter Try.func34, Try.ntmps34
   go_wp2_with (first | ((with_reducible refine gate_dst (N := 3) rfl ?_); refine box_event ?hg (N := 3) ?hd (cs := #[.int .i64 a0_0, .slice A0_1 l0_1.length c0_1]) (t := 31) ?hr ?_; (case hd => rfl); (case hg => rfl); (case hr => first | (go_simp; done) | (go_simp; rfl)); intro gb786 hg w9 hbox hb; have BK786 := Aside0.mk (hbox); have GW786 := Aside0.mk ((by rw [hg]; exact (below_size (Lz HB)) : w.heap.size ≤ gb786)); have GE786 := Aside0.mk ((by rw [hg]; exact (below_size (Lz HB)) : w.heap.size ≤ gb786)); replace HB := Aside0.mk (below_step (Lz HB) hb); clear hb hbox hg; have hcz10_0 : w9.cell? ⟨gb786, 0, none⟩ = some (.int .i64 a0_0) := (blk_cell BK786.out 0).trans rfl; have hcz10_1 : w9.cell? ⟨gb786, 1, none⟩ = some (.slice A0_1 l0_1.length c0_1) := (blk_cell BK786.out 1).trans rfl; have hfz10_0 := blk_frozen BK786.out 0; have hfz10_1 := blk_frozen BK786.out 1) | ((with_reducible refine gate_callee (f := 71) rfl ?_); refine goesM_ (some 10) rfl rfl Try.func71 (by kernel_rfl) rfl #[.agg #[.int .i64 a0_0, .slice A0_1 l0_1.length c0_1], .slice A1 l1.length c1] rfl ?_; (with_reducible refine (impl_DivisorOk.calls k a0_0 _ _ l0_1 _ _ l1 true _ ?side1 ?side2 ?side3 ?side4 A4.out).mono ?_); (case side1 => exact Cz ((Kd.C_below HR0_1.out HB.out))); (case side2 => exact HC0_1.out); (case side3 => exact Cz ((Kd.C_below HR1.out HB.out))); (case side4 => exact HC1.out); rintro e w11 ⟨rfl, hb⟩; refine ⟨_, rfl, ?_⟩; replace BK786 := Aside0.mk (blk_below (g := gb786) (o := .cells #[.int .i64 a0_0, .slice A0_1 l0_1.length c0_1] 31 (0, 0)) (Bz BK786) hb); replace HB := Aside0.mk (below_step (by exact Lz1 HB GE786) hb); (try clear hb); (try clear hb2); (try clear hk); (try clear hi); have hcz12_0 : w11.cell? ⟨gb786, 0, none⟩ = some (.int .i64 a0_0) := (blk_cell BK786.out 0).trans rfl; have hcz12_1 : w11.cell? ⟨gb786, 1, none⟩ = some (.slice A0_1 l0_1.length c0_1) := (blk_cell BK786.out 1).trans rfl; have hfz12_0 := blk_frozen BK786.out 0; have hfz12_1 := blk_frozen BK786.out 1) | (go_at_call 72; (with_reducible refine (impl_isVertex.calls k a0_0 _ _ l0_1 a2 true _ ?side1 ?side2 A6.out).mono ?_); (case side1 => exact Cz ((Kd.C_below HR0_1.out HB.out))); (case side2 => exact HC0_1.out); rintro e w13 ⟨rfl, hb⟩; replace BK786 := Aside0.mk (blk_below (g := gb786) (o := .cells #[.int .i64 a0_0, .slice A0_1 l0_1.length c0_1] 31 (0, 0)) (Bz BK786) hb); replace HB := Aside0.mk (below_step (by exact Lz1 HB GE786) hb); (try clear hb); (try clear hb2); (try clear hk); (try clear hi); have hcz14_0 : w13.cell? ⟨gb786, 0, none⟩ = some (.int .i64 a0_0) := (blk_cell BK786.out 0).trans rfl; have hcz14_1 : w13.cell? ⟨gb786, 1, none⟩ = some (.slice A0_1 l0_1.length c0_1) := (blk_cell BK786.out 1).trans rfl; have hfz14_0 := blk_frozen BK786.out 0; have hfz14_1 := blk_frozen BK786.out 1) | ((with_reducible refine gate_callee (f := 78) rfl ?_); refine goesM_ (some 21) rfl rfl Try.func78 (by kernel_rfl) rfl #[.agg #[.int .i64 a0_0, .slice A0_1 l0_1.length c0_1], .slice A1 l1.length c1, .int .i64 a2] rfl ?_; (with_reducible refine (impl_burn.calls k a0_0 _ _ l0_1 _ _ l1 a2 t789 _ ?side1 ?side2 ?side3 ?side4 A8.out).mono ?_); (case side1 => exact Cz ((Kd.C_below HR0_1.out HB.out))); (case side2 => exact HC0_1.out); (case side3 => exact Cz ((Kd.C_below HR1.out HB.out))); (case side4 => exact HC1.out); rintro e w15 ⟨v790, rfl, ho0, hb⟩; refine ⟨_, rfl, ?_⟩; have HO791 := Aside0.mk (Kd.R_lower ho0 (below_size (by exact Lz1 HB GE786))); replace BK786 := Aside0.mk (blk_below (g := gb786) (o := .cells #[.int .i64 a0_0, .slice A0_1 l0_1.length c0_1] 31 (0, 0)) (Bz BK786) hb); replace HB := Aside0.mk (below_step (by exact Lz1 HB GE786) hb); (try clear hb); (try clear ho0)))
   go_ret2
   exact ⟨_, by first | rfl | (simp [errW_none, errW_some] <;> rfl) | (simp [*, errW_none, errW_some] <;> rfl), by exact Rz HO791, by exact Lz1 HB GE786⟩
  replace c7 := Bool.eq_false_iff.mpr c7
  subst c7
  have H1 : (some (([] : List Int), false)) = some (r1, r2) := by rw [if_neg (show ¬ (false = true) by decide)] at H; exact H
  clear H
  have H := H1
  clear H1
  simp only [Option.some.injEq, Prod.mk.injEq] at H
  obtain ⟨rfl, rfl⟩ := H
  go_enter Try.func34, Try.ntmps34
  go_wp2_with (first | ((with_reducible refine gate_dst (N := 3) rfl ?_); refine box_event ?hg (N := 3) ?hd (cs := #[.int .i64 a0_0, .slice A0_1 l0_1.length c0_1]) (t := 31) ?hr ?_; (case hd => rfl); (case hg => rfl); (case hr => first | (go_simp; done) | (go_simp; rfl)); intro gb786 hg w16 hbox hb; have BK786 := Aside0.mk (hbox); have GW786 := Aside0.mk ((by rw [hg]; exact (below_size (Lz HB)) : w.heap.size ≤ gb786)); have GE786 := Aside0.mk ((by rw [hg]; exact (below_size (Lz HB)) : w.heap.size ≤ gb786)); replace HB := Aside0.mk (below_step (Lz HB) hb); clear hb hbox hg; have hcz17_0 : w16.cell? ⟨gb786, 0, none⟩ = some (.int .i64 a0_0) := (blk_cell BK786.out 0).trans rfl; have hcz17_1 : w16.cell? ⟨gb786, 1, none⟩ = some (.slice A0_1 l0_1.length c0_1) := (blk_cell BK786.out 1).trans rfl; have hfz17_0 := blk_frozen BK786.out 0; have hfz17_1 := blk_frozen BK786.out 1) | ((with_reducible refine gate_callee (f := 71) rfl ?_); refine goesM_ (some 10) rfl rfl Try.func71 (by kernel_rfl) rfl #[.agg #[.int .i64 a0_0, .slice A0_1 l0_1.length c0_1], .slice A1 l1.length c1] rfl ?_; (with_reducible refine (impl_DivisorOk.calls k a0_0 _ _ l0_1 _ _ l1 true _ ?side1 ?side2 ?side3 ?side4 A4.out).mono ?_); (case side1 => exact Cz ((Kd.C_below HR0_1.out HB.out))); (case side2 => exact HC0_1.out); (case side3 => exact Cz ((Kd.C_below HR1.out HB.out))); (case side4 => exact HC1.out); rintro e w18 ⟨rfl, hb⟩; refine ⟨_, rfl, ?_⟩; replace BK786 := Aside0.mk (blk_below (g := gb786) (o := .cells #[.int .i64 a0_0, .slice A0_1 l0_1.length c0_1] 31 (0, 0)) (Bz BK786) hb); replace HB := Aside0.mk (below_step (by exact Lz1 HB GE786) hb); (try clear hb); (try clear hb2); (try clear hk); (try clear hi); have hcz19_0 : w18.cell? ⟨gb786, 0, none⟩ = some (.int .i64 a0_0) := (blk_cell BK786.out 0).trans rfl; have hcz19_1 : w18.cell? ⟨gb786, 1, none⟩ = some (.slice A0_1 l0_1.length c0_1) := (blk_cell BK786.out 1).trans rfl; have hfz19_0 := blk_frozen BK786.out 0; have hfz19_1 := blk_frozen BK786.out 1) | (go_at_call 72; (with_reducible refine (impl_isVertex.calls k a0_0 _ _ l0_1 a2 false _ ?side1 ?side2 A6.out).mono ?_); (case side1 => exact Cz ((Kd.C_below HR0_1.out HB.out))); (case side2 => exact HC0_1.out); rintro e w20 ⟨rfl, hb⟩; replace BK786 := Aside0.mk (blk_below (g := gb786) (o := .cells #[.int .i64 a0_0, .slice A0_1 l0_1.length c0_1] 31 (0, 0)) (Bz BK786) hb); replace HB := Aside0.mk (below_step (by exact Lz1 HB GE786) hb); (try clear hb); (try clear hb2); (try clear hk); (try clear hi)))
  go_ret2
  exact ⟨_, by first | rfl | (simp [errW_none, errW_some] <;> rfl) | (simp [*, errW_none, errW_some] <;> rfl), by first | exact Kd.R_nil _ _ _ _ _ | exact Kd.N_nil _ _ _ _ _ | exact Kd.V_nil _ _ _ _ _ | exact Kd.Q_nil _ _ _ _ _ | exact Kd.S_nil _ _ _ _ _, by exact Lz1 HB GE786⟩
 replace c5 := Bool.eq_false_iff.mpr c5
 subst c5
 have H1 : (some (([] : List Int), false)) = some (r1, r2) := by rw [if_neg (show ¬ (false = true) by decide)] at H; exact H
 clear H
 have H := H1
 clear H1
 simp only [Option.some.injEq, Prod.mk.injEq] at H
 obtain ⟨rfl, rfl⟩ := H
 go_enter Try.func34, Try.ntmps34
 go_wp2_with (first | ((with_reducible refine gate_dst (N := 3) rfl ?_); refine box_event ?hg (N := 3) ?hd (cs := #[.int .i64 a0_0, .slice A0_1 l0_1.length c0_1]) (t := 31) ?hr ?_; (case hd => rfl); (case hg => rfl); (case hr => first | (go_simp; done) | (go_simp; rfl)); intro gb786 hg w21 hbox hb; have BK786 := Aside0.mk (hbox); have GW786 := Aside0.mk ((by rw [hg]; exact (below_size (Lz HB)) : w.heap.size ≤ gb786)); have GE786 := Aside0.mk ((by rw [hg]; exact (below_size (Lz HB)) : w.heap.size ≤ gb786)); replace HB := Aside0.mk (below_step (Lz HB) hb); clear hb hbox hg; have hcz22_0 : w21.cell? ⟨gb786, 0, none⟩ = some (.int .i64 a0_0) := (blk_cell BK786.out 0).trans rfl; have hcz22_1 : w21.cell? ⟨gb786, 1, none⟩ = some (.slice A0_1 l0_1.length c0_1) := (blk_cell BK786.out 1).trans rfl; have hfz22_0 := blk_frozen BK786.out 0; have hfz22_1 := blk_frozen BK786.out 1) | ((with_reducible refine gate_callee (f := 71) rfl ?_); refine goesM_ (some 10) rfl rfl Try.func71 (by kernel_rfl) rfl #[.agg #[.int .i64 a0_0, .slice A0_1 l0_1.length c0_1], .slice A1 l1.length c1] rfl ?_; (with_reducible refine (impl_DivisorOk.calls k a0_0 _ _ l0_1 _ _ l1 false _ ?side1 ?side2 ?side3 ?side4 A4.out).mono ?_); (case side1 => exact Cz ((Kd.C_below HR0_1.out HB.out))); (case side2 => exact HC0_1.out); (case side3 => exact Cz ((Kd.C_below HR1.out HB.out))); (case side4 => exact HC1.out); rintro e w23 ⟨rfl, hb⟩; refine ⟨_, rfl, ?_⟩; replace BK786 := Aside0.mk (blk_below (g := gb786) (o := .cells #[.int .i64 a0_0, .slice A0_1 l0_1.length c0_1] 31 (0, 0)) (Bz BK786) hb); replace HB := Aside0.mk (below_step (by exact Lz1 HB GE786) hb); (try clear hb); (try clear hb2); (try clear hk); (try clear hi)))
 go_ret2
 exact ⟨_, by first | rfl | (simp [errW_none, errW_some] <;> rfl) | (simp [*, errW_none, errW_some] <;> rfl), by first | exact Kd.R_nil _ _ _ _ _ | exact Kd.N_nil _ _ _ _ _ | exact Kd.V_nil _ _ _ _ _ | exact Kd.Q_nil _ _ _ _ _ | exact Kd.S_nil _ _ _ _ _, by exact Lz1 HB GE786⟩
def impl_IsReduced.f (k : Nat) (a0_0 : Int) (l0_1 : List (S67)) (l1 : List Int) (a2 : Int) : Option (Bool) := (impl_BurnFrom.f k a0_0 l0_1 l1 a2).bind fun bt793 => (if bt793.2 = true then ((impl_inDebt.f k l1 a2).bind fun t797 => (if t797 < 0 then (some ((bt793.1.length : Int) == a0_0)) else (some false))) else (some false))
set_option maxHeartbeats 8000000 in
set_option maxRecDepth 100000 in
theorem impl_IsReduced.calls (k : Nat) (a0_0 : Int) (A0_1 : Option Addr) (c0_1 : Nat) (l0_1 : List (S67)) (A1 : Option Addr) (c1 : Nat) (l1 : List Int) (a2 : Int) (r : Bool) (w : World) (hr0_1 : Kd.C k67 w A0_1 l0_1.length l0_1) (hc0_1 : l0_1.length ≤ c0_1) (hr1 : Kd.C (Kd.int .i64) w A1 l1.length l1) (hc1 : l1.length ≤ c1) (h : impl_IsReduced.f k a0_0 l0_1 l1 a2 = some r) :
  Calls Try.prog 29 #[.agg #[.int .i64 a0_0, .slice A0_1 l0_1.length c0_1], .slice A1 l1.length c1, .int .i64 a2] w fun e w' => e = .returned (.bool r) ∧ Below w.heap.size w w' := by
 have hu31 := Try.underlying31
 have HR0_1 := Aside0.mk hr0_1
 have HC0_1 := Aside0.mk hc0_1
 clear hr0_1 hc0_1
 have HR1 := Aside0.mk hr1
 have HC1 := Aside0.mk hc1
 clear hr1 hc1
 have HB := Aside0.mk (Below.refl w.heap.size w)
 have H : ((impl_BurnFrom.f k a0_0 l0_1 l1 a2).bind fun bt793 => (if bt793.2 = true then ((impl_inDebt.f k l1 a2).bind fun t797 => (if t797 < 0 then (some ((bt793.1.length : Int) == a0_0)) else (some false))) else (some false))) = some r := h
 clear h
 replace H := Option.bind_eq_some_iff.mp H
 obtain ⟨⟨t793, t796⟩, A40, H⟩ := H
 replace H : (if t796 = true then ((impl_inDebt.f k l1 a2).bind fun t797 => (if t797 < 0 then (some ((t793.length : Int) == a0_0)) else (some false))) else (some false)) = some r := H
 have A4 := Aside0.mk A40
 clear A40
 by_cases c5 : t796 = true
 ·subst c5
  have H1 : ((impl_inDebt.f k l1 a2).bind fun t797 => (if t797 < 0 then (some ((t793.length : Int) == a0_0)) else (some false))) = some r := by rw [if_pos rfl] at H; exact H
  clear H
  have H := H1
  clear H1
  replace H := Option.bind_eq_some_iff.mp H
  obtain ⟨t797, A60, H⟩ := H
  replace H : (if t797 < 0 then (some ((t793.length : Int) == a0_0)) else (some false)) = some r := H
  have A6 := Aside0.mk A60
  clear A60
  by_cases c7 : t797 < 0
  ·rw [if_pos c7] at H
   have c7b0 : decide (t797 < 0) = true := decide_eq_true c7
   clear c7
   obtain rfl := Option.some.inj H
   go_enter Try.func29, Try.ntmps29
   go_wp2_with (first | ((with_reducible refine gate_dst (N := 3) rfl ?_); (try (refine gate_guard (by rfl) ?_; dsimp only)); refine box_event ?hg (N := 3) ?hd (cs := #[.int .i64 a0_0, .slice A0_1 l0_1.length c0_1]) (t := 31) ?hr ?_; (case hd => rfl); (case hg => rfl); (case hr => first | (go_simp; done) | (go_simp; rfl)); intro gb792 hg w8 hbox hb; have BK792 := Aside0.mk (hbox); have GW792 := Aside0.mk ((by rw [hg]; exact (below_size (Lz HB)) : w.heap.size ≤ gb792)); have GE792 := Aside0.mk ((by rw [hg]; exact (below_size (Lz HB)) : w.heap.size ≤ gb792)); replace HB := Aside0.mk (below_step (Lz HB) hb); clear hb hbox hg; have hcz9_0 : w8.cell? ⟨gb792, 0, none⟩ = some (.int .i64 a0_0) := (blk_cell BK792.out 0).trans rfl; have hcz9_1 : w8.cell? ⟨gb792, 1, none⟩ = some (.slice A0_1 l0_1.length c0_1) := (blk_cell BK792.out 1).trans rfl; have hfz9_0 := blk_frozen BK792.out 0; have hfz9_1 := blk_frozen BK792.out 1) | ((with_reducible refine gate_callee (f := 34) rfl ?_); refine goesM_ (some 13) rfl rfl Try.func34 (by kernel_rfl) rfl #[.agg #[.int .i64 a0_0, .slice A0_1 l0_1.length c0_1], .slice A1 l1.length c1, .int .i64 a2] rfl ?_; (with_reducible refine (impl_BurnFrom.calls k a0_0 _ _ l0_1 _ _ l1 a2 t793 true _ ?side1 ?side2 ?side3 ?side4 A4.out).mono ?_); (case side1 => exact Cz ((Kd.C_below HR0_1.out HB.out))); (case side2 => exact HC0_1.out); (case side3 => exact Cz ((Kd.C_below HR1.out HB.out))); (case side4 => exact HC1.out); rintro e w10 ⟨v794, rfl, ho0, hb⟩; refine ⟨_, rfl, ?_⟩; have HO795 := Aside0.mk (Kd.R_lower ho0 (below_size (by exact Lz1 HB GE792))); replace BK792 := Aside0.mk (blk_below (g := gb792) (o := .cells #[.int .i64 a0_0, .slice A0_1 l0_1.length c0_1] 31 (0, 0)) (Bz BK792) hb); replace HB := Aside0.mk (below_step (by exact Lz1 HB GE792) hb); (try clear hb); (try clear ho0)) | (go_at_call 74; (with_reducible refine (impl_inDebt.calls k _ _ l1 a2 t797 _ ?side1 ?side2 A6.out).mono ?_); (case side1 => exact Cz ((Kd.C_below HR1.out HB.out))); (case side2 => exact HC1.out); rintro e w' ⟨rfl, ⟨nd, rfl⟩⟩; obtain ⟨Ao11, co11, eo11⟩ := Kd.R_slice HO795.out; subst eo11; have hcz12_0 : w10.cell? ⟨gb792, 0, none⟩ = some (.int .i64 a0_0) := (blk_cell BK792.out 0).trans rfl; have hcz12_1 : w10.cell? ⟨gb792, 1, none⟩ = some (.slice A0_1 l0_1.length c0_1) := (blk_cell BK792.out 1).trans rfl; have hfz12_0 := blk_frozen BK792.out 0; have hfz12_1 := blk_frozen BK792.out 1))
   go_ret
   exact ⟨by first | rfl | (simp [errW_none, errW_some] <;> rfl) | (simp [*, errW_none, errW_some] <;> rfl), by exact Lz1 HB GE792⟩
  rw [if_neg c7] at H
  have c7b0 : decide (t797 < 0) = false := decide_eq_false c7
  clear c7
  obtain rfl := Option.some.inj H
  go_enter Try.func29, Try.ntmps29
  go_wp2_with (first | ((with_reducible refine gate_dst (N := 3) rfl ?_); (try (refine gate_guard (by rfl) ?_; dsimp only)); refine box_event ?hg (N := 3) ?hd (cs := #[.int .i64 a0_0, .slice A0_1 l0_1.length c0_1]) (t := 31) ?hr ?_; (case hd => rfl); (case hg => rfl); (case hr => first | (go_simp; done) | (go_simp; rfl)); intro gb792 hg w13 hbox hb; have BK792 := Aside0.mk (hbox); have GW792 := Aside0.mk ((by rw [hg]; exact (below_size (Lz HB)) : w.heap.size ≤ gb792)); have GE792 := Aside0.mk ((by rw [hg]; exact (below_size (Lz HB)) : w.heap.size ≤ gb792)); replace HB := Aside0.mk (below_step (Lz HB) hb); clear hb hbox hg; have hcz14_0 : w13.cell? ⟨gb792, 0, none⟩ = some (.int .i64 a0_0) := (blk_cell BK792.out 0).trans rfl; have hcz14_1 : w13.cell? ⟨gb792, 1, none⟩ = some (.slice A0_1 l0_1.length c0_1) := (blk_cell BK792.out 1).trans rfl; have hfz14_0 := blk_frozen BK792.out 0; have hfz14_1 := blk_frozen BK792.out 1) | ((with_reducible refine gate_callee (f := 34) rfl ?_); refine goesM_ (some 13) rfl rfl Try.func34 (by kernel_rfl) rfl #[.agg #[.int .i64 a0_0, .slice A0_1 l0_1.length c0_1], .slice A1 l1.length c1, .int .i64 a2] rfl ?_; (with_reducible refine (impl_BurnFrom.calls k a0_0 _ _ l0_1 _ _ l1 a2 t793 true _ ?side1 ?side2 ?side3 ?side4 A4.out).mono ?_); (case side1 => exact Cz ((Kd.C_below HR0_1.out HB.out))); (case side2 => exact HC0_1.out); (case side3 => exact Cz ((Kd.C_below HR1.out HB.out))); (case side4 => exact HC1.out); rintro e w15 ⟨v794, rfl, ho0, hb⟩; refine ⟨_, rfl, ?_⟩; have HO795 := Aside0.mk (Kd.R_lower ho0 (below_size (by exact Lz1 HB GE792))); replace BK792 := Aside0.mk (blk_below (g := gb792) (o := .cells #[.int .i64 a0_0, .slice A0_1 l0_1.length c0_1] 31 (0, 0)) (Bz BK792) hb); replace HB := Aside0.mk (below_step (by exact Lz1 HB GE792) hb); (try clear hb); (try clear ho0)) | (go_at_call 74; (with_reducible refine (impl_inDebt.calls k _ _ l1 a2 t797 _ ?side1 ?side2 A6.out).mono ?_); (case side1 => exact Cz ((Kd.C_below HR1.out HB.out))); (case side2 => exact HC1.out); rintro e w' ⟨rfl, ⟨nd, rfl⟩⟩))
  go_ret
  exact ⟨by first | rfl | (simp [errW_none, errW_some] <;> rfl) | (simp [*, errW_none, errW_some] <;> rfl), by exact Lz1 HB GE792⟩
 replace c5 := Bool.eq_false_iff.mpr c5
 subst c5
 have H1 : (some false) = some r := by rw [if_neg (show ¬ (false = true) by decide)] at H; exact H
 clear H
 have H := H1
 clear H1
 obtain rfl := Option.some.inj H
 go_enter Try.func29, Try.ntmps29
 go_wp2_with (first | ((with_reducible refine gate_dst (N := 3) rfl ?_); (try (refine gate_guard (by rfl) ?_; dsimp only)); refine box_event ?hg (N := 3) ?hd (cs := #[.int .i64 a0_0, .slice A0_1 l0_1.length c0_1]) (t := 31) ?hr ?_; (case hd => rfl); (case hg => rfl); (case hr => first | (go_simp; done) | (go_simp; rfl)); intro gb792 hg w16 hbox hb; have BK792 := Aside0.mk (hbox); have GW792 := Aside0.mk ((by rw [hg]; exact (below_size (Lz HB)) : w.heap.size ≤ gb792)); have GE792 := Aside0.mk ((by rw [hg]; exact (below_size (Lz HB)) : w.heap.size ≤ gb792)); replace HB := Aside0.mk (below_step (Lz HB) hb); clear hb hbox hg; have hcz17_0 : w16.cell? ⟨gb792, 0, none⟩ = some (.int .i64 a0_0) := (blk_cell BK792.out 0).trans rfl; have hcz17_1 : w16.cell? ⟨gb792, 1, none⟩ = some (.slice A0_1 l0_1.length c0_1) := (blk_cell BK792.out 1).trans rfl; have hfz17_0 := blk_frozen BK792.out 0; have hfz17_1 := blk_frozen BK792.out 1) | ((with_reducible refine gate_callee (f := 34) rfl ?_); refine goesM_ (some 13) rfl rfl Try.func34 (by kernel_rfl) rfl #[.agg #[.int .i64 a0_0, .slice A0_1 l0_1.length c0_1], .slice A1 l1.length c1, .int .i64 a2] rfl ?_; (with_reducible refine (impl_BurnFrom.calls k a0_0 _ _ l0_1 _ _ l1 a2 t793 false _ ?side1 ?side2 ?side3 ?side4 A4.out).mono ?_); (case side1 => exact Cz ((Kd.C_below HR0_1.out HB.out))); (case side2 => exact HC0_1.out); (case side3 => exact Cz ((Kd.C_below HR1.out HB.out))); (case side4 => exact HC1.out); rintro e w18 ⟨v794, rfl, ho0, hb⟩; refine ⟨_, rfl, ?_⟩; have HO795 := Aside0.mk (Kd.R_lower ho0 (below_size (by exact Lz1 HB GE792))); replace BK792 := Aside0.mk (blk_below (g := gb792) (o := .cells #[.int .i64 a0_0, .slice A0_1 l0_1.length c0_1] 31 (0, 0)) (Bz BK792) hb); replace HB := Aside0.mk (below_step (by exact Lz1 HB GE792) hb); (try clear hb); (try clear ho0)))
 go_ret
 exact ⟨by first | rfl | (simp [errW_none, errW_some] <;> rfl) | (simp [*, errW_none, errW_some] <;> rfl), by exact Lz1 HB GE792⟩
def impl_ChipsAt.f (k : Nat) (a0_0 : Int) (l0_1 : List (S67)) (l1 : List Int) (a2 : Int) : Option (Int × Bool) := (impl_ReducedOf.f k a0_0 l0_1 l1 a2).bind fun bt813 => (if bt813.2 = true then (if 0 ≤ a2 then (if a2 < (bt813.1.length : Int) then (some (rd bt813.1 a2, true)) else (none)) else (none)) else (some (0, false)))
set_option maxHeartbeats 8000000 in
set_option maxRecDepth 100000 in
theorem impl_ChipsAt.calls (k : Nat) (a0_0 : Int) (A0_1 : Option Addr) (c0_1 : Nat) (l0_1 : List (S67)) (A1 : Option Addr) (c1 : Nat) (l1 : List Int) (a2 : Int) (r1 : Int) (r2 : Bool) (w : World) (hr0_1 : Kd.C k67 w A0_1 l0_1.length l0_1) (hc0_1 : l0_1.length ≤ c0_1) (hr1 : Kd.C (Kd.int .i64) w A1 l1.length l1) (hc1 : l1.length ≤ c1) (h : impl_ChipsAt.f k a0_0 l0_1 l1 a2 = some (r1, r2)) :
  Calls Try.prog 31 #[.agg #[.int .i64 a0_0, .slice A0_1 l0_1.length c0_1], .slice A1 l1.length c1, .int .i64 a2] w fun e w' => e = .returned (.tuple #[.int .i64 r1, .bool r2]) ∧ Below w.heap.size w w' := by
 have hu31 := Try.underlying31
 have HR0_1 := Aside0.mk hr0_1
 have HC0_1 := Aside0.mk hc0_1
 clear hr0_1 hc0_1
 have HR1 := Aside0.mk hr1
 have HC1 := Aside0.mk hc1
 clear hr1 hc1
 have HB := Aside0.mk (Below.refl w.heap.size w)
 have H : ((impl_ReducedOf.f k a0_0 l0_1 l1 a2).bind fun bt813 => (if bt813.2 = true then (if 0 ≤ a2 then (if a2 < (bt813.1.length : Int) then (some (rd bt813.1 a2, true)) else (none)) else (none)) else (some (0, false)))) = some (r1, r2) := h
 clear h
 replace H := Option.bind_eq_some_iff.mp H
 obtain ⟨⟨t813, t816⟩, A40, H⟩ := H
 replace H : (if t816 = true then (if 0 ≤ a2 then (if a2 < (t813.length : Int) then (some (rd t813 a2, true)) else (none)) else (none)) else (some (0, false))) = some (r1, r2) := H
 have A4 := Aside0.mk A40
 clear A40
 by_cases c5 : t816 = true
 ·subst c5
  have H1 : (if 0 ≤ a2 then (if a2 < (t813.length : Int) then (some (rd t813 a2, true)) else (none)) else (none)) = some (r1, r2) := by rw [if_pos rfl] at H; exact H
  clear H
  have H := H1
  clear H1
  by_cases c6 : 0 ≤ a2
  ·rw [if_pos c6] at H
   have c6b0 : decide (0 ≤ a2) = true := decide_eq_true c6
   clear c6
   by_cases c7 : a2 < (t813.length : Int)
   ·rw [if_pos c7] at H
    have c7b0 : decide (a2 < (t813.length : Int)) = true := decide_eq_true c7
    clear c7
    simp only [Option.some.injEq, Prod.mk.injEq] at H
    obtain ⟨rfl, rfl⟩ := H
    go_enter Try.func31, Try.ntmps31
    go_wp2_with (first | ((with_reducible refine gate_dst (N := 3) rfl ?_); refine box_event ?hg (N := 3) ?hd (cs := #[.int .i64 a0_0, .slice A0_1 l0_1.length c0_1]) (t := 31) ?hr ?_; (case hd => rfl); (case hg => rfl); (case hr => first | (go_simp; done) | (go_simp; rfl)); intro gb812 hg w8 hbox hb; have BK812 := Aside0.mk (hbox); have GW812 := Aside0.mk ((by rw [hg]; exact (below_size (Lz HB)) : w.heap.size ≤ gb812)); have GE812 := Aside0.mk ((by rw [hg]; exact (below_size (Lz HB)) : w.heap.size ≤ gb812)); replace HB := Aside0.mk (below_step (Lz HB) hb); clear hb hbox hg; have hcz9_0 : w8.cell? ⟨gb812, 0, none⟩ = some (.int .i64 a0_0) := (blk_cell BK812.out 0).trans rfl; have hcz9_1 : w8.cell? ⟨gb812, 1, none⟩ = some (.slice A0_1 l0_1.length c0_1) := (blk_cell BK812.out 1).trans rfl; have hfz9_0 := blk_frozen BK812.out 0; have hfz9_1 := blk_frozen BK812.out 1) | ((with_reducible refine gate_callee (f := 25) rfl ?_); refine goesM_ (some 14) rfl rfl Try.func25 (by kernel_rfl) rfl #[.agg #[.int .i64 a0_0, .slice A0_1 l0_1.length c0_1], .slice A1 l1.length c1, .int .i64 a2] rfl ?_; (with_reducible refine (impl_ReducedOf.calls k a0_0 _ _ l0_1 _ _ l1 a2 t813 true _ ?side1 ?side2 ?side3 ?side4 A4.out).mono ?_); (case side1 => exact Cz ((Kd.C_below HR0_1.out HB.out))); (case side2 => exact HC0_1.out); (case side3 => exact Cz ((Kd.C_below HR1.out HB.out))); (case side4 => exact HC1.out); rintro e w10 ⟨v814, rfl, ho0, hb⟩; refine ⟨_, rfl, ?_⟩; have HO815 := Aside0.mk (Kd.R_lower ho0 (below_size (by exact Lz1 HB GE812))); replace BK812 := Aside0.mk (blk_below (g := gb812) (o := .cells #[.int .i64 a0_0, .slice A0_1 l0_1.length c0_1] 31 (0, 0)) (Bz BK812) hb); replace HB := Aside0.mk (below_step (by exact Lz1 HB GE812) hb); (try clear hb); (try clear ho0); obtain ⟨Ao11, co11, eo11⟩ := Kd.R_slice HO815.out; subst eo11; have p817 : 0 ≤ (a2 : Int) := ofA; have q817 : a2 < (t813.length : Int) := ofA; obtain ⟨ad817, e817, hx817_0⟩ := Kd.at_int (Kd.R_reads' HO815.out).2.2 a2 p817 q817; cases e817; replace p817 := eq_true p817; replace q817 := eq_true q817))
    go_ret2
    exact ⟨by first | rfl | (simp [errW_none, errW_some] <;> rfl) | (simp [*, errW_none, errW_some] <;> rfl), by exact Lz1 HB GE812⟩
   rw [if_neg c7] at H
   exact absurd H (by simp)
  rw [if_neg c6] at H
  exact absurd H (by simp)
 replace c5 := Bool.eq_false_iff.mpr c5
 subst c5
 have H1 : (some (0, false)) = some (r1, r2) := by rw [if_neg (show ¬ (false = true) by decide)] at H; exact H
 clear H
 have H := H1
 clear H1
 simp only [Option.some.injEq, Prod.mk.injEq] at H
 obtain ⟨rfl, rfl⟩ := H
 go_enter Try.func31, Try.ntmps31
 go_wp2_with (first | ((with_reducible refine gate_dst (N := 3) rfl ?_); refine box_event ?hg (N := 3) ?hd (cs := #[.int .i64 a0_0, .slice A0_1 l0_1.length c0_1]) (t := 31) ?hr ?_; (case hd => rfl); (case hg => rfl); (case hr => first | (go_simp; done) | (go_simp; rfl)); intro gb812 hg w12 hbox hb; have BK812 := Aside0.mk (hbox); have GW812 := Aside0.mk ((by rw [hg]; exact (below_size (Lz HB)) : w.heap.size ≤ gb812)); have GE812 := Aside0.mk ((by rw [hg]; exact (below_size (Lz HB)) : w.heap.size ≤ gb812)); replace HB := Aside0.mk (below_step (Lz HB) hb); clear hb hbox hg; have hcz13_0 : w12.cell? ⟨gb812, 0, none⟩ = some (.int .i64 a0_0) := (blk_cell BK812.out 0).trans rfl; have hcz13_1 : w12.cell? ⟨gb812, 1, none⟩ = some (.slice A0_1 l0_1.length c0_1) := (blk_cell BK812.out 1).trans rfl; have hfz13_0 := blk_frozen BK812.out 0; have hfz13_1 := blk_frozen BK812.out 1) | ((with_reducible refine gate_callee (f := 25) rfl ?_); refine goesM_ (some 14) rfl rfl Try.func25 (by kernel_rfl) rfl #[.agg #[.int .i64 a0_0, .slice A0_1 l0_1.length c0_1], .slice A1 l1.length c1, .int .i64 a2] rfl ?_; (with_reducible refine (impl_ReducedOf.calls k a0_0 _ _ l0_1 _ _ l1 a2 t813 false _ ?side1 ?side2 ?side3 ?side4 A4.out).mono ?_); (case side1 => exact Cz ((Kd.C_below HR0_1.out HB.out))); (case side2 => exact HC0_1.out); (case side3 => exact Cz ((Kd.C_below HR1.out HB.out))); (case side4 => exact HC1.out); rintro e w14 ⟨v814, rfl, ho0, hb⟩; refine ⟨_, rfl, ?_⟩; have HO815 := Aside0.mk (Kd.R_lower ho0 (below_size (by exact Lz1 HB GE812))); replace BK812 := Aside0.mk (blk_below (g := gb812) (o := .cells #[.int .i64 a0_0, .slice A0_1 l0_1.length c0_1] 31 (0, 0)) (Bz BK812) hb); replace HB := Aside0.mk (below_step (by exact Lz1 HB GE812) hb); (try clear hb); (try clear ho0)))
 go_ret2
 exact ⟨by first | rfl | (simp [errW_none, errW_some] <;> rfl) | (simp [*, errW_none, errW_some] <;> rfl), by exact Lz1 HB GE812⟩
mutual
def impl_MostLegalSet.j0 : Nat → List Int → List Int → Bool → Option (List Int)
 | 0, _, _, _ => none
 | k + 1, x1, x7, x25 => if x25 = true then (some ([] : List Int)) else (impl_MostLegalSet.l0 k x7 ([] : List Int) (x1.length : Int) 0)
def impl_MostLegalSet.l0 : Nat → List Int → List Int → Int → Int → Option (List Int)
 | 0, _, _, _, _ => none
 | k + 1, x7, x9, x27, x28 => if x28 < x27 then ((slices_Contains_int_int.f k x7 x28).bind fun t824 => (if t824 = true then (impl_MostLegalSet.l0 k x7 x9 x27 (wrap64 (x28 + 1))) else (if x9.length < 17592186044416 then (impl_MostLegalSet.l0 k x7 (x9 ++ [x28]) x27 (wrap64 (x28 + 1))) else (none)))) else (some x9)
end
def impl_MostLegalSet.f (k : Nat) (a0_0 : Int) (l0_1 : List (S67)) (l1 : List Int) (a2 : Int) : Option (List Int) := (impl_BurnFrom.f k a0_0 l0_1 l1 a2).bind fun bt819 => (if bt819.2 = true then ((impl_inDebt.f k l1 a2).bind fun t823 => (impl_MostLegalSet.j0 k l1 bt819.1 (decide (t823 ≥ 0)))) else (impl_MostLegalSet.j0 k l1 bt819.1 true))
set_option maxHeartbeats 8000000 in
set_option maxRecDepth 100000 in
theorem impl_MostLegalSet.calls (k : Nat) (a0_0 : Int) (A0_1 : Option Addr) (c0_1 : Nat) (l0_1 : List (S67)) (A1 : Option Addr) (c1 : Nat) (l1 : List Int) (a2 : Int) (r : List Int) (w : World) (hr0_1 : Kd.C k67 w A0_1 l0_1.length l0_1) (hc0_1 : l0_1.length ≤ c0_1) (hr1 : Kd.C (Kd.int .i64) w A1 l1.length l1) (hc1 : l1.length ≤ c1) (h : impl_MostLegalSet.f k a0_0 l0_1 l1 a2 = some r) :
  Calls Try.prog 32 #[.agg #[.int .i64 a0_0, .slice A0_1 l0_1.length c0_1], .slice A1 l1.length c1, .int .i64 a2] w fun e w' => ∃ v0_ : Value, e = .returned (v0_) ∧ Kd.R (Kd.int .i64) 3 w' w.heap.size (fun _ => True) v0_ r ∧ Below w.heap.size w w' := by
 have hu31 := Try.underlying31
 have HR0_1 := Aside0.mk hr0_1
 have HC0_1 := Aside0.mk hc0_1
 clear hr0_1 hc0_1
 have HR1 := Aside0.mk hr1
 have HC1 := Aside0.mk hc1
 clear hr1 hc1
 have HB := Aside0.mk (Below.refl w.heap.size w)
 have H : ((impl_BurnFrom.f k a0_0 l0_1 l1 a2).bind fun bt819 => (if bt819.2 = true then ((impl_inDebt.f k l1 a2).bind fun t823 => (impl_MostLegalSet.j0 k l1 bt819.1 (decide (t823 ≥ 0)))) else (impl_MostLegalSet.j0 k l1 bt819.1 true))) = some r := h
 clear h
 replace H := Option.bind_eq_some_iff.mp H
 obtain ⟨⟨t819, t822⟩, A40, H⟩ := H
 replace H : (if t822 = true then ((impl_inDebt.f k l1 a2).bind fun t823 => (impl_MostLegalSet.j0 k l1 t819 (decide (t823 ≥ 0)))) else (impl_MostLegalSet.j0 k l1 t819 true)) = some r := H
 have A4 := Aside0.mk A40
 clear A40
 have HC5 := Aside0.mk H
 clear H
 go_enter Try.func32, Try.ntmps32
 go_upto_region 2 with (first | ((with_reducible refine gate_dst (N := 3) rfl ?_); refine box_event ?hg (N := 3) ?hd (cs := #[.int .i64 a0_0, .slice A0_1 l0_1.length c0_1]) (t := 31) ?hr ?_; (case hd => rfl); (case hg => rfl); (case hr => first | (go_simp; done) | (go_simp; rfl)); intro gb818 hg w6 hbox hb; have BK818 := Aside0.mk (hbox); have GW818 := Aside0.mk ((by rw [hg]; exact (below_size (Lz HB)) : w.heap.size ≤ gb818)); have GE818 := Aside0.mk ((by rw [hg]; exact (below_size (Lz HB)) : w.heap.size ≤ gb818)); replace HB := Aside0.mk (below_step (Lz HB) hb); clear hb hbox hg; have hcz7_0 : w6.cell? ⟨gb818, 0, none⟩ = some (.int .i64 a0_0) := (blk_cell BK818.out 0).trans rfl; have hcz7_1 : w6.cell? ⟨gb818, 1, none⟩ = some (.slice A0_1 l0_1.length c0_1) := (blk_cell BK818.out 1).trans rfl; have hfz7_0 := blk_frozen BK818.out 0; have hfz7_1 := blk_frozen BK818.out 1) | ((with_reducible refine gate_callee (f := 34) rfl ?_); refine goesM_ (some 15) rfl rfl Try.func34 (by kernel_rfl) rfl #[.agg #[.int .i64 a0_0, .slice A0_1 l0_1.length c0_1], .slice A1 l1.length c1, .int .i64 a2] rfl ?_; (with_reducible refine (impl_BurnFrom.calls k a0_0 _ _ l0_1 _ _ l1 a2 t819 t822 _ ?side1 ?side2 ?side3 ?side4 A4.out).mono ?_); (case side1 => exact Cz ((Kd.C_below HR0_1.out HB.out))); (case side2 => exact HC0_1.out); (case side3 => exact Cz ((Kd.C_below HR1.out HB.out))); (case side4 => exact HC1.out); rintro e w8 ⟨v820, rfl, ho0, hb⟩; refine ⟨_, rfl, ?_⟩; have HO821 := Aside0.mk (Kd.R_lower ho0 (below_size (by exact Lz1 HB GE818))); replace BK818 := Aside0.mk (blk_below (g := gb818) (o := .cells #[.int .i64 a0_0, .slice A0_1 l0_1.length c0_1] 31 (0, 0)) (Bz BK818) hb); replace HB := Aside0.mk (below_step (by exact Lz1 HB GE818) hb); (try clear hb); (try clear ho0)))
 (try simp only [Act.put, List.setIfInBounds_toArray, List.set_cons_zero, List.set_cons_succ])
 go_cut [25] (fun v25 wc => ∃ (kq : Nat) (x25_4 : Bool), v25 = .bool x25_4 ∧ Aside0 (impl_MostLegalSet.j0 kq l1 t819 x25_4 = some r) ∧ Aside0 (kq ≤ k) ∧ Aside0 (Kd.R (Kd.int .i64) 3 wc w.heap.size (fun _ => True) v820 t819) ∧ Aside0 (wc.heap[gb818]? = some (.cells #[.int .i64 a0_0, (.slice A0_1 l0_1.length c0_1)] 31 (0, 0))) ∧ Aside0 (Below w.heap.size w wc))
 case first =>
  have H := HC5.out
  clear HC5
  by_cases c9 : t822 = true
  ·subst c9
   have H1 : ((impl_inDebt.f k l1 a2).bind fun t823 => (impl_MostLegalSet.j0 k l1 t819 (decide (t823 ≥ 0)))) = some r := by rw [if_pos rfl] at H; exact H
   clear H
   have H := H1
   clear H1
   replace H := Option.bind_eq_some_iff.mp H
   obtain ⟨t823, A100, H⟩ := H
   replace H : (impl_MostLegalSet.j0 k l1 t819 (decide (t823 ≥ 0))) = some r := H
   have A10 := Aside0.mk A100
   clear A100
   have H' := Aside0.mk H
   clear H
   go_wp2_with (first | (go_at_call 74; (with_reducible refine (impl_inDebt.calls k _ _ l1 a2 t823 _ ?side1 ?side2 A10.out).mono ?_); (case side1 => exact Cz ((Kd.C_below HR1.out HB.out))); (case side2 => exact HC1.out); rintro e w' ⟨rfl, ⟨nd, rfl⟩⟩))
   go_meet
   case rel => exact ⟨_, (decide (t823 ≥ 0)), eqA, H', ⟨by first | omega | exact Nat.le_refl _⟩, ⟨by exact Rz HO821⟩, ⟨by exact Bz BK818⟩, ⟨by exact Lz1 HB GE818⟩⟩
  replace c9 := Bool.eq_false_iff.mpr c9
  subst c9
  have H1 : (impl_MostLegalSet.j0 k l1 t819 true) = some r := by rw [if_neg (show ¬ (false = true) by decide)] at H; exact H
  clear H
  have H := H1
  clear H1
  have H' := Aside0.mk H
  clear H
  go_wp2
  go_meet
  case rel => exact ⟨_, (true), eqA, H', ⟨by first | omega | exact Nat.le_refl _⟩, ⟨by exact Rz HO821⟩, ⟨by exact Bz BK818⟩, ⟨by exact Lz1 HB GE818⟩⟩
 case rest =>
  clear HC5
  try clear c1
  try clear c9
  obtain ⟨kq, x25_4, rfl, HA, HJ4, HO_7, BK818, HB⟩ := hcut
  cases kq with
  | zero => exact absurd HA.out (by simp [impl_MostLegalSet.j0])
  | succ kj4 =>
   have H := HA.out
   clear HA
   simp only [impl_MostLegalSet.j0] at H
   by_cases c11 : x25_4 = true
   ·subst c11
    have H1 : (some ([] : List Int)) = some r := by rw [if_pos rfl] at H; exact H
    clear H
    have H := H1
    clear H1
    obtain rfl := Option.some.inj H
    go_wp2
    go_ret
    exact ⟨_, by first | rfl | (simp [errW_none, errW_some] <;> rfl) | (simp [*, errW_none, errW_some] <;> rfl), by first | exact Kd.R_nil _ _ _ _ _ | exact Kd.N_nil _ _ _ _ _ | exact Kd.V_nil _ _ _ _ _ | exact Kd.Q_nil _ _ _ _ _ | exact Kd.S_nil _ _ _ _ _, by exact Lz1 HB GE818⟩
   replace c11 := Bool.eq_false_iff.mpr c11
   subst c11
   have H1 : (impl_MostLegalSet.l0 kj4 t819 ([] : List Int) (l1.length : Int) 0) = some r := by rw [if_neg (show ¬ (false = true) by decide)] at H; exact H
   clear H
   have H := H1
   clear H1
   have H' := Aside0.mk H
   clear H
   go_wp2
   go_loopg [9, 28] kj4 (fun kq v9 v28 w' => ∃ (x9_2 : List Int) (x28_2 : Int), v28 = .int .i64 x28_2 ∧ Aside0 (impl_MostLegalSet.l0 kq t819 x9_2 (l1.length : Int) x28_2 = some r) ∧ Aside0 (kq ≤ kj4) ∧ Aside0 (Kd.R (Kd.int .i64) 3 w' w.heap.size (fun k_ => some k_ ≠ (v9 : Value).ownBlock) v820 t819) ∧ Aside0 (Kd.R (Kd.int .i64) 3 w' w.heap.size (fun k_ => some k_ ≠ (v820 : Value).ownBlock) v9 x9_2) ∧ Aside0 (w'.heap[gb818]? = some (.cells #[.int .i64 a0_0, (.slice A0_1 l0_1.length c0_1)] 31 (0, 0))) ∧ Aside0 (Below w.heap.size w w'))
   case atStart => exact ⟨(([] : List Int)), (0), eqA, H', ⟨Nat.le_refl _⟩, ⟨by (with_reducible repeat (first | apply Kd.R_alloc | apply Kd.R_drewN | apply Kd.R_drew)); exact Kd.R_mono HO_7.out (fun _ hk => (by simp [Value.ownBlock]))⟩, ⟨by first | exact Kd.R_nil _ _ _ _ _ | exact Kd.N_nil _ _ _ _ _ | exact Kd.V_nil _ _ _ _ _ | exact Kd.Q_nil _ _ _ _ _ | exact Kd.S_nil _ _ _ _ _⟩, ⟨by exact Bz BK818⟩, ⟨by exact Lz1 HB GE818⟩⟩
   case round =>
    clear H'
    try clear c1
    try clear c9
    try clear c11
    obtain ⟨x9_2, x28_2, rfl, HA, HK2, HO_7, HO_9, BK818, HB⟩ := hrel
    cases gk with
    | zero => exact absurd HA.out (by simp [impl_MostLegalSet.l0])
    | succ k2 =>
     have H := HA.out
     clear HA
     simp only [impl_MostLegalSet.l0] at H
     by_cases c12 : x28_2 < (l1.length : Int)
     ·rw [if_pos c12] at H
      have c12b0 : decide (x28_2 < (l1.length : Int)) = true := decide_eq_true c12
      clear c12
      replace H := Option.bind_eq_some_iff.mp H
      obtain ⟨t824, A130, H⟩ := H
      replace H : (if t824 = true then (impl_MostLegalSet.l0 k2 t819 x9_2 (l1.length : Int) (wrap64 (x28_2 + 1))) else (if x9_2.length < 17592186044416 then (impl_MostLegalSet.l0 k2 t819 (x9_2 ++ [x28_2]) (l1.length : Int) (wrap64 (x28_2 + 1))) else (none))) = some r := H
      have A13 := Aside0.mk A130
      clear A130
      by_cases c14 : t824 = true
      ·subst c14
       have H1 : (impl_MostLegalSet.l0 k2 t819 x9_2 (l1.length : Int) (wrap64 (x28_2 + 1))) = some r := by rw [if_pos rfl] at H; exact H
       clear H
       have H := H1
       clear H1
       have H' := Aside0.mk H
       clear H
       obtain ⟨Ao15, co15, eo15⟩ := Kd.R_slice HO_7.out
       subst eo15
       go_wp2_with (first | ((with_reducible refine gate_callee (f := 76) rfl ?_); refine goesM_ (some 33) rfl rfl Try.func76 (by kernel_rfl) rfl #[.slice Ao15 t819.length co15, .int .i64 x28_2] rfl ?_; (with_reducible refine (slices_Contains_int_int.calls k2 _ _ t819 x28_2 true _ ?side1 ?side2 A13.out).mono ?_); (case side1 => exact Cz ((Kd.R_reads' HO_7.out).2.2)); (case side2 => exact (Kd.R_reads' HO_7.out).2.1); rintro e w' ⟨rfl, ⟨nd, rfl⟩⟩; refine ⟨_, rfl, ?_⟩))
       go_roundg k2
       case measure => have := HJ4.out; have := HK2.out; omega
       case rel => exact ⟨(x9_2), (wrap64 (x28_2 + 1)), eqA, H', ⟨by have := HJ4.out; have := HK2.out; omega⟩, ⟨by exact Rz HO_7⟩, ⟨by exact Rz HO_9⟩, ⟨by exact Bz BK818⟩, ⟨by exact Lz1 HB GE818⟩⟩
      replace c14 := Bool.eq_false_iff.mpr c14
      subst c14
      have H1 : (if x9_2.length < 17592186044416 then (impl_MostLegalSet.l0 k2 t819 (x9_2 ++ [x28_2]) (l1.length : Int) (wrap64 (x28_2 + 1))) else (none)) = some r := by rw [if_neg (show ¬ (false = true) by decide)] at H; exact H
      clear H
      have H := H1
      clear H1
      by_cases c16 : x9_2.length < 17592186044416
      ·rw [if_pos c16] at H
       have LMc16 := Aside0.mk c16
       clear c16
       obtain ⟨y825, hy825⟩ : ∃ y_ : List Int, y_ = (x9_2 ++ [x28_2]) := ⟨_, rfl⟩
       replace H : (impl_MostLegalSet.l0 k2 t819 y825 (l1.length : Int) (wrap64 (x28_2 + 1))) = some r := by first | (rw [hy825]; with_reducible exact H) | (have H2_ := (Option.bind_some _ _).symm.trans H; rw [hy825]; with_reducible exact H2_) | (have H2_ := (Option.bind_some _ _).symm.trans H; with_reducible exact H2_) | with_reducible exact H | (rw [hy825]; exact H) | exact H
       have Ny825 := Aside0.mk hy825
       clear hy825
       have H' := Aside0.mk H
       clear H
       obtain ⟨Ao17, co17, eo17⟩ := Kd.R_slice HO_7.out
       subst eo17
       go_wp2_with (first | ((with_reducible refine gate_callee (f := 76) rfl ?_); refine goesM_ (some 33) rfl rfl Try.func76 (by kernel_rfl) rfl #[.slice Ao17 t819.length co17, .int .i64 x28_2] rfl ?_; (with_reducible refine (slices_Contains_int_int.calls k2 _ _ t819 x28_2 false _ ?side1 ?side2 A13.out).mono ?_); (case side1 => exact Cz ((Kd.R_reads' HO_7.out).2.2)); (case side2 => exact (Kd.R_reads' HO_7.out).2.1); rintro e w' ⟨rfl, ⟨nd, rfl⟩⟩; refine ⟨_, rfl, ?_⟩) | ((with_reducible refine gate_builtin (b := .append) (xs := #[.tmp 35, .tmp 37]) rfl ?_); at_builtin; refine Kd.R_append (Kd.int .i64) (w0 := w) w.heap.size rfl (.tmp 35) (.tmp 37) 25 3 (.int .i64 0) 8 rfl Try.underlying25 info3 rfl (by decide) (by omega) u9 x9_2 x28_2 [.int .i64 x28_2] (fun k_ => some k_ ≠ (.slice Ao17 t819.length co17 : Value).ownBlock) (fun _ => False) rfl rfl ?aP (fun _ hk => hk.elim) ?aF ?aO ?aB ?aS ?aL ?_; (case aP => exact rfl); (case aB => exact (by exact Lz1 HB GE818)); (case aF => exact (fun k_ hk => Kd.fresh' (Kd.R_lt (Rz HO_7)) k_ hk)); (case aO => exact (Rz HO_9)); (case aS => exact (below_size (by exact Lz1 HB GE818))); (case aL => have := LMc16.out; omega); intro v826 w18 ho hb hg hat; rw [← Ny825.out] at ho; replace HO_7 := Aside0.mk (Kd.R_after (ok := (fun _ => True)) (by (with_reducible repeat (first | apply Kd.R_alloc | apply Kd.R_drewN | apply Kd.R_drew)); exact Kd.R_mono HO_7.out (fun _ hk => ⟨trivial, hk⟩)) hg hat); replace BK818 := Aside0.mk (blk_grown (g := gb818) (o := .cells #[.int .i64 a0_0, .slice A0_1 l0_1.length c0_1] 31 (0, 0)) (Bz BK818) hg (Kd.R_ne HO_9.out BK818.out (by decide))); replace HB := Aside0.mk (hb); have HO827 := Aside0.mk (ho); clear HO_9; clear ho hb hg hat))
       go_roundg k2
       case measure => have := HJ4.out; have := HK2.out; omega
       case rel => exact ⟨(y825), (wrap64 (x28_2 + 1)), eqA, H', ⟨by have := HJ4.out; have := HK2.out; omega⟩, ⟨by (with_reducible repeat (first | apply Kd.R_alloc | apply Kd.R_drewN | apply Kd.R_drew)); exact Kd.R_mono HO_7.out (fun _ hk => hk.2)⟩, ⟨by exact Rz HO827⟩, ⟨by exact Bz BK818⟩, ⟨by exact Lz1 HB GE818⟩⟩
      rw [if_neg c16] at H
      exact absurd H (by simp)
     rw [if_neg c12] at H
     have c12b0 : decide (x28_2 < (l1.length : Int)) = false := decide_eq_false c12
     clear c12
     obtain rfl := Option.some.inj H
     go_wp2
     go_ret
     exact ⟨_, by first | rfl | (simp [errW_none, errW_some] <;> rfl) | (simp [*, errW_none, errW_some] <;> rfl), by (with_reducible repeat (first | apply Kd.R_alloc | apply Kd.R_drewN | apply Kd.R_drew)); exact Kd.R_mono HO_9.out (fun _ hk => trivial), by exact Lz1 HB GE818⟩
end Go.Proofs.Ytbcfccdoffbncaa.P
end
section
set_option linter.unusedVariables false
set_option linter.unusedSimpArgs false
namespace Go.Proofs.Ytbcfccdoffbncaa.Pure
open Go.RowKit Go.Proofs.Ytbcfccdoffbncaa.P Go.Proofs.YtbcfccdoffbncaaW.PrintWords Go.Proofs.YtbcfccdoffbncaaW.PrintLast Go.Proofs.YtbcfccdoffbncaaW.PrintMore Go.Proofs.Ytbcfccdoffbncaa.Base Go.Proofs.Ytbcfccdoffbncaa.Loops
theorem rd_IE {l : List S67} {i : Nat} {a : S67} {r : List S67} (h : l.drop i = a :: r) : rd_T67 l (i : Int) = a := by
  unfold rd_T67
  rw [Int.toNat_natCast]
  exact get_drop h _
def multN (es : List S67) (a b : Int) : Nat := es.countP fun e => decide (e.f0 = mn a b) && decide (e.f1 = mx a b)
def multI (n : Int) (es : List S67) (a b : Int) : Int := if 0 ≤ a ∧ a < n ∧ 0 ≤ b ∧ b < n ∧ a ≠ b then (multN es a b : Int) else 0
theorem mult_loop (es : List S67) (hl : es.length < 4611686018427387904) (a b : Int) (g : Nat → Int → Int → Option Int)
    (hg : ∀ k c i, g (k + 1) c i = if i < (es.length : Int) then (if 0 ≤ i then (if i < (es.length : Int) then (if ((rd_T67 es i).f0) = (mn a b) then (if ((rd_T67 es i).f1) = (mx a b) then (g k (wrap64 (c + 1)) (wrap64 (i + 1))) else (g k c (wrap64 (i + 1)))) else (g k c (wrap64 (i + 1)))) else (none)) else (none)) else (some c)) :
    Ev (fun k => g k 0 0) (multN es a b : Int) := by
  have h := ev_list es (fun k (c : Int) i => g k c i) (fun c r => c + (r.countP fun e => decide (e.f0 = mn a b) && decide (e.f1 = mx a b) : Nat)) (fun c r => 0 ≤ c ∧ c + r.length ≤ es.length) (fun s _ => ev1 fun k => ?_) (fun s e rest i hlt hd hinv => Or.inr ?_) es 0 0 (by omega) rfl (by simp)
  · simpa [multN] using h
  · rw [hg, if_neg (by omega)]; simp
  · simp only [List.length_cons] at hinv
    by_cases hc : e.f0 = mn a b ∧ e.f1 = mx a b
    · refine ⟨s + 1, by omega, ?_, 0, fun k _ => ?_⟩
      · rw [List.countP_cons_of_pos (by simp [hc])]; omega
      · rw [hg, if_pos (by omega), if_pos (by omega), if_pos (by omega), rd_IE hd, if_pos hc.1, if_pos hc.2, wrap_succ (by omega), wrap_id (by omega) (by omega)]
    · refine ⟨s, by omega, ?_, 0, fun k _ => ?_⟩
      · rw [List.countP_cons_of_neg (by simp; intro h1 h2; exact hc ⟨h1, h2⟩)]
      · rw [hg, if_pos (by omega), if_pos (by omega), if_pos (by omega), rd_IE hd, wrap_succ (by omega)]
        by_cases h1 : e.f0 = mn a b
        · rw [if_pos h1, if_neg (fun h2 => hc ⟨h1, h2⟩)]
        · rw [if_neg h1]
theorem spec_mult_ev (n : Int) (es : List S67) (hl : es.length < 4611686018427387904) (a b : Int) : Ev (fun k => spec_Multiplicity.f k n es a b) (multI n es a b) := by
  have hv : ∀ v, spec_l02Vert.f n es v = some (decide (0 ≤ v ∧ v < n)) := by
    intro v
    unfold spec_l02Vert.f
    by_cases h : v ≥ 0
    · rw [if_pos h]; simp; omega
    · rw [if_neg h]; simp; omega
  simp only [spec_Multiplicity.f, hv, Option.bind_some]
  have off : ∀ q : Bool, q = true → Ev (fun k => spec_Multiplicity.j0 k a b 0 q n es) 0 := fun q hq => ev1 fun k => by
    simp only [spec_Multiplicity.j0, hq, if_true]
  by_cases ha : 0 ≤ a ∧ a < n
  · by_cases hb : 0 ≤ b ∧ b < n
    · simp only [ha, hb, and_self, decide_true, if_true]
      by_cases hab : a = b
      · rw [multI, if_neg (by omega)]
        exact off _ (by simp [hab])
      · rw [multI, if_pos ⟨ha.1, ha.2, hb.1, hb.2, hab⟩]
        obtain ⟨K, hK⟩ := mult_loop es hl a b (fun k c i => spec_Multiplicity.l0 k a b c es (es.length : Int) i) (fun k c i => by simp only [spec_Multiplicity.l0])
        refine ⟨K + 1, fun k hk => ?_⟩
        obtain ⟨m, rfl⟩ : ∃ m, k = m + 1 := ⟨k - 1, by omega⟩
        have h2 := hK m (by omega)
        dsimp only at h2 ⊢
        simp only [spec_Multiplicity.j0]
        rw [if_neg (by simp [hab]), h2]
    · simp only [ha, and_self, decide_true, if_true, decide_eq_true_eq, if_neg hb]
      rw [multI, if_neg (by omega)]
      exact off _ rfl
  · simp only [decide_eq_true_eq, if_neg ha]
    rw [multI, if_neg (by omega)]
    exact off _ rfl
theorem impl_mult_ev (n : Int) (es : List S67) (hl : es.length < 4611686018427387904) (a b : Int) : Ev (fun k => impl_Multiplicity.f k n es a b) (multI n es a b) := by
  simp only [impl_Multiplicity.f]
  have off : ∀ q : Bool, q = true → Ev (fun k => impl_Multiplicity.j0 k a b q n es) 0 := fun q hq => ev1 fun k => by
    simp only [impl_Multiplicity.j0, hq, if_true]
  have e1 : mn a b < 0 ↔ (a < 0 ∨ b < 0) := by unfold mn; split <;> omega
  have e2 : mx a b ≥ n ↔ (a ≥ n ∨ b ≥ n) := by unfold mx; split <;> omega
  by_cases h1 : mn a b < 0
  · simp only [if_pos h1]
    rw [multI, if_neg (by omega)]
    exact off _ rfl
  · by_cases h2 : mx a b ≥ n
    · simp only [if_neg h1, if_pos h2]
      rw [multI, if_neg (by omega)]
      exact off _ rfl
    · simp only [if_neg h1, if_neg h2]
      by_cases hab : a = b
      · rw [multI, if_neg (by omega)]
        exact off _ (by simp [hab])
      · rw [multI, if_pos (by omega)]
        obtain ⟨K, hK⟩ := mult_loop es hl a b (fun k c i => impl_Multiplicity.l0 k a b c es (es.length : Int) i) (fun k c i => by simp only [impl_Multiplicity.l0])
        refine ⟨K + 1, fun k hk => ?_⟩
        obtain ⟨m, rfl⟩ : ∃ m, k = m + 1 := ⟨k - 1, by omega⟩
        have h2 := hK m (by omega)
        dsimp only at h2 ⊢
        simp only [impl_Multiplicity.j0]
        rw [if_neg (by simp [hab]), h2]
end Go.Proofs.Ytbcfccdoffbncaa.Pure
end
section
namespace Go.Proofs.Ytbcfccdoffbncaa.P
open Go.RowKit Go.Proofs.YtbcfccdoffbncaaW.PrintWords Go.Proofs.YtbcfccdoffbncaaW.PrintLast Go.Proofs.YtbcfccdoffbncaaW.PrintMore
attribute [local go_sem] max2_int min2_int max_two min_two max_three min_three max_four min_four
set_option linter.unusedVariables false
set_option linter.unusedSimpArgs false
def spec_l04Fire.l0 : Nat → List Int → List Int → List (S67) → Int → Int → Option (List Int)
 | 0, _, _, _, _, _ => none
 | k + 1, x2, x7, x14, x15, x16 => if x16 < x15 then (if 0 ≤ x16 then (if x16 < (x14.length : Int) then (if 0 ≤ ((rd_T67 x14 x16).f0) then (if ((rd_T67 x14 x16).f0) < (x7.length : Int) then (if ((rd_T67 x14 x16).f0) < (x2.length : Int) then (if 0 ≤ ((rd_T67 x14 x16).f1) then (if ((rd_T67 x14 x16).f1) < (x2.length : Int) then ((some (x7.set (((rd_T67 x14 x16).f0) : Int).toNat (wrap64 ((wrap64 ((rd x7 ((rd_T67 x14 x16).f0)) - (rd x2 ((rd_T67 x14 x16).f0)))) + (rd x2 ((rd_T67 x14 x16).f1)))) : List Int)).bind fun y116 => (if ((rd_T67 x14 x16).f1) < (x7.length : Int) then (spec_l04Fire.l0 k x2 (y116.set (((rd_T67 x14 x16).f1) : Int).toNat (wrap64 ((wrap64 ((rd y116 ((rd_T67 x14 x16).f1)) - (rd x2 ((rd_T67 x14 x16).f1)))) + (rd x2 ((rd_T67 x14 x16).f0))))) x14 x15 (wrap64 (x16 + 1))) else (none))) else (none)) else (none)) else (none)) else (none)) else (none)) else (none)) else (none)) else (some x7)
def spec_l04Fire.f (k : Nat) (a0_0 : Int) (l0_1 : List (S67)) (l1 : List Int) (l2 : List Int) : Option (List Int) := (some (([] : List Int) : List Int)).bind fun y105 => (if y105.length + l1.length < 17592186044416 then (spec_l04Fire.l0 k l2 (y105 ++ l1) l0_1 (l0_1.length : Int) 0) else (none))
mutual
def spec_DivisorOk.j0 : Nat → List Int → Bool → Option (Bool)
 | 0, _, _ => none
 | k + 1, x1, x16 => if x16 = true then (some false) else (spec_DivisorOk.l0 k x1 (x1.length : Int) 0)
def spec_DivisorOk.l0 : Nat → List Int → Int → Int → Option (Bool)
 | 0, _, _, _ => none
 | k + 1, x17, x18, x19 => if x19 < x18 then (if 0 ≤ x19 then (if x19 < (x17.length : Int) then ((spec_l01In.f (rd x17 x19) (-60) 60).bind fun t205 => (if t205 = true then (spec_DivisorOk.l0 k x17 x18 (wrap64 (x19 + 1))) else (some false))) else (none)) else (none)) else (some true)
end
def spec_DivisorOk.f (k : Nat) (a0_0 : Int) (l0_1 : List (S67)) (l1 : List Int) : Option (Bool) := (spec_GraphOk.f k a0_0 l0_1).bind fun t203 => (if t203 = true then (spec_DivisorOk.j0 k l1 ((l1.length : Int) != a0_0)) else (spec_DivisorOk.j0 k l1 true))
end Go.Proofs.Ytbcfccdoffbncaa.P
end
section
set_option linter.unusedVariables false
set_option linter.unusedSimpArgs false
namespace Go.Proofs.Ytbcfccdoffbncaa.Pure
open Go.RowKit Go.Proofs.Ytbcfccdoffbncaa.P Go.Proofs.YtbcfccdoffbncaaW.PrintWords Go.Proofs.YtbcfccdoffbncaaW.PrintLast Go.Proofs.YtbcfccdoffbncaaW.PrintMore Go.Proofs.Ytbcfccdoffbncaa.Base Go.Proofs.Ytbcfccdoffbncaa.Loops
def edgesB (n : Int) (es : List S67) : Bool := decide (1 ≤ n) && decide (n ≤ 6) && decide (es.length ≤ 12) && es.all fun e => decide (0 ≤ e.f0) && decide (e.f0 < e.f1) && decide (e.f1 < n)
theorem impl_edgesOk_ev (n : Int) (es : List S67) (hl : es.length < 4611686018427387904) : Ev (fun k => impl_EdgesOk.f k n es) (edgesB n es) := by
  have hw : impl_within.f n 1 6 = some (decide (1 ≤ n) && decide (n ≤ 6)) := by
    unfold impl_within.f
    by_cases h : n ≥ 1
    · rw [if_pos h]; simp [h]
    · rw [if_neg h]; simp [h]
  simp only [impl_EdgesOk.f, hw, Option.bind_some]
  by_cases hn : 1 ≤ n ∧ n ≤ 6
  · by_cases h12 : es.length ≤ 12
    · have loop : Ev (fun k => impl_EdgesOk.l0 k es (es.length : Int) 0 n es) (es.all fun e => decide (0 ≤ e.f0) && decide (e.f0 < e.f1) && decide (e.f1 < n)) := by
        refine ev_listE es (fun k (_ : Unit) i => impl_EdgesOk.l0 k es (es.length : Int) i n es) (fun _ r => r.all fun e => decide (0 ≤ e.f0) && decide (e.f0 < e.f1) && decide (e.f1 < n)) (fun _ _ => True)
          (fun s _ => ev1 fun k => ?_) (fun s a rest i hlt hd _ => ?_) () trivial
        · simp only [impl_EdgesOk.l0]
          rw [if_neg (by omega)]; rfl
        · have bad : a.f0 < 0 ∨ a.f0 ≥ a.f1 ∨ a.f1 ≥ n → ((a :: rest).all fun e => decide (0 ≤ e.f0) && decide (e.f0 < e.f1) && decide (e.f1 < n)) = false := by
            intro h; simp only [List.all_cons, Bool.and_eq_false_iff, decide_eq_false_iff_not]; omega
          have stop : Ev (fun k => impl_EdgesOk.j2 k es (es.length : Int) (i : Int) true n es) false := ev1 fun k => by simp only [impl_EdgesOk.j2, if_true]
          by_cases h1 : a.f0 < 0
          · refine Or.inl (ev_succ ?_)
            simp only [impl_EdgesOk.l0, rd_IE hd]
            rw [bad (by omega)]
            exact ev_ift (by omega) (ev_ift (by omega) (ev_ift (by omega) (ev_ift h1 stop)))
          by_cases h2 : a.f0 ≥ a.f1
          · refine Or.inl (ev_succ ?_)
            simp only [impl_EdgesOk.l0, rd_IE hd]
            rw [bad (by omega)]
            exact ev_ift (by omega) (ev_ift (by omega) (ev_ift (by omega) (ev_ifn h1 (ev_ift h2 stop))))
          by_cases h3 : a.f1 ≥ n
          · refine Or.inl (ev_succ ?_)
            simp only [impl_EdgesOk.l0, rd_IE hd]
            rw [bad (by omega), decide_eq_true h3]
            exact ev_ift (by omega) (ev_ift (by omega) (ev_ift (by omega) (ev_ifn h1 (ev_ifn h2 stop))))
          refine Or.inr ⟨(), trivial, ?_, fun r hr => ev_succ ?_⟩
          · simp; omega
          · simp only [impl_EdgesOk.l0, rd_IE hd, decide_eq_false h3]
            refine ev_ift (by omega) (ev_ift (by omega) (ev_ift (by omega) (ev_ifn h1 (ev_ifn h2 (ev_succ ?_)))))
            simp only [impl_EdgesOk.j2, Bool.false_eq_true, if_false, wrap_succ (show i < 4611686018427387904 by omega)]
            exact hr
      obtain ⟨K, hK⟩ := loop
      dsimp only at hK
      refine ⟨K + 1, fun k hk => ?_⟩
      obtain ⟨m, rfl⟩ : ∃ m, k = m + 1 := ⟨k - 1, by omega⟩
      have := hK m (by omega)
      simp only [hn.1, hn.2, decide_true, Bool.and_self, if_true, impl_EdgesOk.j0]
      rw [if_neg (by simp; omega), this]
      simp [edgesB, hn, h12]
    · refine ev1 fun k => ?_
      simp only [hn.1, hn.2, decide_true, Bool.and_self, if_true, impl_EdgesOk.j0]
      rw [if_pos (by simp; omega)]
      simp [edgesB, h12]
  · refine ev1 fun k => ?_
    rw [if_neg (by simp; omega)]
    simp only [impl_EdgesOk.j0, if_true]
    simp [edgesB]
    intro a b
    exact absurd ⟨a, b⟩ hn
theorem spec_edgesOk_ev (n : Int) (es : List S67) (hl : es.length < 4611686018427387904) : Ev (fun k => spec_EdgesOk.f k n es) (edgesB n es) := by
  have hw : ∀ a b c : Int, spec_l01In.f a b c = some (decide (b ≤ a) && decide (a ≤ c)) := by
    intro a b c
    unfold spec_l01In.f
    by_cases h : a ≥ b
    · rw [if_pos h]; simp [h]
    · rw [if_neg h]; simp [h]
  simp only [spec_EdgesOk.f, hw, Option.bind_some]
  by_cases hn : 1 ≤ n ∧ n ≤ 6
  · have hn1 : wrap64 (n - 1) = n - 1 := by unfold wrap64; omega
    by_cases h12 : es.length ≤ 12
    · have loop : Ev (fun k => spec_EdgesOk.l0 k es (es.length : Int) 0 n es) (es.all fun e => decide (0 ≤ e.f0) && decide (e.f0 < e.f1) && decide (e.f1 < n)) := by
        refine ev_list0 es (fun k (_ : Unit) i => spec_EdgesOk.l0 k es (es.length : Int) i n es) (fun _ r => r.all fun e => decide (0 ≤ e.f0) && decide (e.f0 < e.f1) && decide (e.f1 < n)) (fun _ _ => True)
          (fun s _ => ev1 fun k => ?_) (fun s a rest i hlt hd _ => ?_) () trivial
        · simp only [spec_EdgesOk.l0]
          rw [if_neg (by omega)]; rfl
        · by_cases h1 : 0 ≤ a.f0 ∧ a.f0 ≤ n - 1
          · have e1 : wrap64 (a.f0 + 1) = a.f0 + 1 := by unfold wrap64; omega
            by_cases h2 : a.f0 + 1 ≤ a.f1 ∧ a.f1 ≤ n - 1
            · refine Or.inr ⟨(), trivial, ?_, 0, fun k _ => ?_⟩
              · simp; omega
              · simp only [spec_EdgesOk.l0, rd_IE hd, hw, hn1, e1, Option.bind_some]
                rw [if_pos (by omega), if_pos (by omega), if_pos (by omega), if_pos (by simp; omega), if_pos (by simp; omega), wrap_succ (by omega)]
            · refine Or.inl (ev1 fun k => ?_)
              simp only [spec_EdgesOk.l0, rd_IE hd, hw, hn1, e1, Option.bind_some]
              rw [if_pos (by omega), if_pos (by omega), if_pos (by omega), if_pos (by simp; omega), if_neg (by simp; omega)]
              simp; omega
          · refine Or.inl (ev1 fun k => ?_)
            simp only [spec_EdgesOk.l0, rd_IE hd, hw, hn1, Option.bind_some]
            rw [if_pos (by omega), if_pos (by omega), if_pos (by omega), if_neg (by simp; omega)]
            simp; omega
      obtain ⟨K, hK⟩ := loop
      dsimp only at hK
      refine ⟨K + 1, fun k hk => ?_⟩
      obtain ⟨m, rfl⟩ : ∃ m, k = m + 1 := ⟨k - 1, by omega⟩
      have := hK m (by omega)
      simp only [hn.1, hn.2, decide_true, Bool.and_self, if_true, spec_EdgesOk.j0]
      rw [if_neg (by simp; omega), this]
      simp [edgesB, hn, h12]
    · refine ev1 fun k => ?_
      simp only [hn.1, hn.2, decide_true, Bool.and_self, if_true, spec_EdgesOk.j0]
      rw [if_pos (by simp; omega)]
      simp [edgesB, h12]
  · refine ev1 fun k => ?_
    rw [if_neg (by simp; omega)]
    simp only [spec_EdgesOk.j0, if_true]
    simp [edgesB]
    intro a b
    exact absurd ⟨a, b⟩ hn
end Go.Proofs.Ytbcfccdoffbncaa.Pure
end
section
set_option linter.unusedVariables false
set_option linter.unusedSimpArgs false
namespace Go.Proofs.Ytbcfccdoffbncaa.Pure
open Go.RowKit Go.Proofs.Ytbcfccdoffbncaa.P Go.Proofs.YtbcfccdoffbncaaW.PrintWords Go.Proofs.YtbcfccdoffbncaaW.PrintLast Go.Proofs.YtbcfccdoffbncaaW.PrintMore Go.Proofs.Ytbcfccdoffbncaa.Base Go.Proofs.Ytbcfccdoffbncaa.Bits Go.Proofs.Ytbcfccdoffbncaa.Loops
def SortedE (es : List S67) : Prop := ∀ i, i + 1 < es.length → ¬ ((es.getD (i + 1) z67).f0 < (es.getD i z67).f0 ∨ ((es.getD (i + 1) z67).f0 = (es.getD i z67).f0 ∧ (es.getD (i + 1) z67).f1 < (es.getD i z67).f1))
def ConnE (n : Int) (es : List S67) : Prop := ∀ P : Int → Prop, P 0 → (∀ e ∈ es, P e.f0 ↔ P e.f1) → ∀ v, 0 ≤ v → v < n → P v
def GraphP (n : Int) (es : List S67) : Prop := edgesB n es = true ∧ SortedE es ∧ ConnE n es
theorem rdE_nat (es : List S67) (i : Nat) : rd_T67 es (i : Int) = es.getD i z67 := by unfold rd_T67; rw [Int.toNat_natCast]
theorem edgesB_facts {n : Int} {es : List S67} (h : edgesB n es = true) : 1 ≤ n ∧ n ≤ 6 ∧ es.length ≤ 12 ∧ ∀ e ∈ es, 0 ≤ e.f0 ∧ e.f0 < e.f1 ∧ e.f1 < n := by
  simp only [edgesB, Bool.and_eq_true, decide_eq_true_eq, List.all_eq_true] at h
  exact ⟨h.1.1.1, h.1.1.2, h.1.2, fun e he => ⟨(h.2 e he).1.1, (h.2 e he).1.2, (h.2 e he).2⟩⟩
theorem compare_eq (a0 a1 b0 b1 : Int) : ∃ c, impl_compareEdges.f a0 a1 b0 b1 = some c ∧ (c < 0 ↔ a0 < b0 ∨ (a0 = b0 ∧ a1 < b1)) := by
  have hc : ∀ x y : Int, cmp_Compare_int.f x y = some (if x < y then -1 else if x > y then 1 else 0) := by
    intro x y
    unfold cmp_Compare_int.f cmp_isNaN_int.f
    simp only [Option.bind_some, bne_self_eq_false, Bool.false_eq_true, if_false]
    by_cases h1 : x < y
    · rw [if_pos h1, if_pos h1]
    · rw [if_neg h1, if_neg h1]
      by_cases h2 : x > y
      · rw [if_pos h2, if_pos h2]
      · rw [if_neg h2, if_neg h2]
  unfold impl_compareEdges.f
  simp only [hc, Option.bind_some]
  by_cases h1 : a0 < b0
  · rw [if_pos h1, if_neg (by decide)]
    exact ⟨_, rfl, by omega⟩
  · by_cases h2 : a0 > b0
    · rw [if_neg h1, if_pos h2, if_neg (by decide)]
      exact ⟨_, rfl, by omega⟩
    · rw [if_neg h1, if_neg h2, if_pos rfl]
      refine ⟨_, rfl, ?_⟩
      by_cases h3 : a1 < b1
      · rw [if_pos h3]; omega
      · rw [if_neg h3]
        split <;> omega
theorem impl_sorted_ev (es : List S67) (hl : es.length < 4611686018427387904) : ∃ b : Bool, Ev (fun k => slices_IsSortedFunc_Edge.f k es) b ∧ (b = true ↔ SortedE es) := by
  have main : ∀ i : Nat, i < es.length → ∃ b : Bool, Ev (fun k => slices_IsSortedFunc_Edge.l0 k es (i : Int)) b ∧ (b = true ↔ ∀ j, j < i → ¬ ((es.getD (j + 1) z67).f0 < (es.getD j z67).f0 ∨ ((es.getD (j + 1) z67).f0 = (es.getD j z67).f0 ∧ (es.getD (j + 1) z67).f1 < (es.getD j z67).f1))) := by
    intro i
    induction i with
    | zero =>
      intro _
      refine ⟨true, ev1 fun k => ?_, by simp⟩
      simp only [slices_IsSortedFunc_Edge.l0]
      rw [if_neg (by omega)]
    | succ i ih =>
      intro hi
      obtain ⟨b, ⟨K, hb⟩, hiff⟩ := ih (by omega)
      have ew : wrap64 (((i + 1 : Nat) : Int) - 1) = (i : Int) := by unfold wrap64; omega
      obtain ⟨c, hc, hneg⟩ := compare_eq (es.getD (i + 1) z67).f0 (es.getD (i + 1) z67).f1 (es.getD i z67).f0 (es.getD i z67).f1
      by_cases h : c < 0
      · refine ⟨false, ev1 fun k => ?_, ?_⟩
        · simp only [slices_IsSortedFunc_Edge.l0, ew, rdE_nat, hc, Option.bind_some]
          rw [if_pos (by omega), if_pos (by omega), if_pos (by omega), if_pos (by omega), if_pos (by omega), if_pos h]
        · simp only [Bool.false_eq_true, false_iff]
          intro hall
          exact hall i (by omega) (hneg.1 h)
      · refine ⟨b, ⟨K + 1, fun k hk => ?_⟩, ?_⟩
        · obtain ⟨m, rfl⟩ : ∃ m, k = m + 1 := ⟨k - 1, by omega⟩
          have h2 := hb m (by omega)
          dsimp only at h2 ⊢
          simp only [slices_IsSortedFunc_Edge.l0, ew, rdE_nat, hc, Option.bind_some]
          rw [if_pos (by omega), if_pos (by omega), if_pos (by omega), if_pos (by omega), if_pos (by omega), if_neg h, h2]
        · rw [hiff]
          constructor
          · intro hall j hj
            by_cases e : j = i
            · subst e; exact fun hh => h (hneg.2 hh)
            · exact hall j (by omega)
          · exact fun hall j hj => hall j (by omega)
  simp only [slices_IsSortedFunc_Edge.f]
  by_cases h0 : es.length = 0
  · refine ⟨true, ev1 fun k => ?_, ?_⟩
    · simp only [slices_IsSortedFunc_Edge.l0]
      rw [if_neg (by unfold wrap64; omega)]
    · simp only [true_iff]
      intro i hi
      omega
  · obtain ⟨b, hb, hiff⟩ := main (es.length - 1) (by omega)
    have ew : wrap64 ((es.length : Int) - 1) = ((es.length - 1 : Nat) : Int) := by unfold wrap64; omega
    rw [ew]
    refine ⟨b, hb, ?_⟩
    rw [hiff]
    exact ⟨fun h i hi => h i (by omega), fun h i hi => h i (by omega)⟩
def toN (e : S67) : Nat × Nat := (e.f0.toNat, e.f1.toNat)
theorem conn_l1 (n : Nat) (es : List S67) (hn : n ≤ 6) (he : ∀ e ∈ es, 0 ≤ e.f0 ∧ e.f0 < e.f1 ∧ e.f1 < n) (x8 x9 : Int) (r : Bool) (hl : es.length < 4611686018427387904) :
    ∀ (rest : List S67) (i : Nat) (M : Nat), i ≤ es.length → es.drop i = rest → M < 2 ^ n → Ev (fun k => impl_connected.l0 k n es ((rnd (rest.map toN) M : Nat) : Int) x8 (wrap64 (x9 + 1))) r →
      Ev (fun k => impl_connected.l1 k n es (M : Int) x8 x9 es (es.length : Int) (i : Int)) r := by
  intro rest
  induction rest with
  | nil =>
    intro i M hi hd hM h
    have := drop_nil hd
    obtain ⟨K, hK⟩ := h
    refine ⟨K + 1, fun k hk => ?_⟩
    obtain ⟨m, rfl⟩ : ∃ m, k = m + 1 := ⟨k - 1, by omega⟩
    simp only [impl_connected.l1]
    rw [if_neg (by omega)]
    exact hK m (by omega)
  | cons e rest ih =>
    intro i M hi hd hM h
    have hlt := drop_lt hd
    have hmem : e ∈ es := by
      have : e ∈ es.drop i := by rw [hd]; simp
      exact List.mem_of_mem_drop this
    obtain ⟨h0, h1, h2⟩ := he e hmem
    obtain ⟨a, ha⟩ : ∃ a : Nat, e.f0 = a := ⟨e.f0.toNat, by omega⟩
    obtain ⟨b, hb⟩ : ∃ b : Nat, e.f1 = b := ⟨e.f1.toNat, by omega⟩
    have hte : toN e = (a, b) := by simp [toN, ha, hb]
    have hM62 : M < 2 ^ 62 := Nat.lt_of_lt_of_le hM (Nat.pow_le_pow_right (by decide) (by omega))
    have hlt' := upd_lt M (a, b) n hM (by show a < n; omega) (by show b < n; omega)
    rw [List.map_cons, hte] at h
    obtain ⟨K, hK⟩ := ih (i + 1) (upd M (a, b)) (by omega) (drop_next hd) hlt' h
    refine ⟨K + 1, fun k hk => ?_⟩
    obtain ⟨m, rfl⟩ : ∃ m, k = m + 1 := ⟨k - 1, by omega⟩
    have h3 := hK m (by omega)
    dsimp only at h3 ⊢
    simp only [impl_connected.l1, rd_IE hd, ha, hb, bit_of M a hM62 (by omega), bit_of M b hM62 (by omega), or_two M a b hM62 (by omega) (by omega)]
    rw [if_pos (by omega), if_pos (by omega), if_pos (by omega), if_pos (by omega), wrap_succ (by omega)]
    unfold upd at h3
    by_cases ta : M.testBit a = true
    · rw [if_pos (by simp [ta]), if_pos (by omega)]
      rw [if_pos (by simp [ta])] at h3
      exact h3
    · by_cases tb : M.testBit b = true
      · rw [if_neg (by simp [ta]), if_pos (by omega), if_pos (by simp [tb])]
        rw [if_pos (by simp [tb])] at h3
        exact h3
      · rw [if_neg (by simp [ta]), if_pos (by omega), if_neg (by simp [tb])]
        rw [if_neg (by simp [ta, tb])] at h3
        exact h3
theorem toN_lt {n : Nat} {es : List S67} (he : ∀ e ∈ es, 0 ≤ e.f0 ∧ e.f0 < e.f1 ∧ e.f1 < n) : ∀ x ∈ es.map toN, x.1 < n ∧ x.2 < n := by
  intro x hx
  obtain ⟨e, hm, rfl⟩ := List.mem_map.1 hx
  have := he e hm
  simp only [toN]
  omega
theorem impl_connected_ev (n : Nat) (es : List S67) (hn0 : 0 < n) (hn : n ≤ 6) (he : ∀ e ∈ es, 0 ≤ e.f0 ∧ e.f0 < e.f1 ∧ e.f1 < n) (hl : es.length < 4611686018427387904) :
    Ev (fun k => impl_connected.f k n es) (decide (iter (es.map toN) n 1 = 2 ^ n - 1)) := by
  have main : ∀ (d : Nat) (x9 M : Nat), x9 + d = n → M < 2 ^ n → Ev (fun k => impl_connected.l0 k n es (M : Int) n (x9 : Int)) (decide (iter (es.map toN) d M = 2 ^ n - 1)) := by
    intro d
    induction d with
    | zero =>
      intro x9 M hx hM
      refine ev1 fun k => ?_
      simp only [impl_connected.l0, iter]
      rw [if_neg (by omega), if_pos (by omega), shl_nat n (by omega)]
      have : wrap64 (((2 ^ n : Nat) : Int) - 1) = ((2 ^ n - 1 : Nat) : Int) := by
        have h1 : 2 ^ n ≤ 2 ^ 6 := Nat.pow_le_pow_right (by decide) hn
        have h2 : 0 < 2 ^ n := Nat.pow_pos (by decide)
        unfold wrap64
        omega
      rw [this]
      have e : ((M : Int) == ((2 ^ n - 1 : Nat) : Int)) = decide (M = 2 ^ n - 1) := by
        generalize 2 ^ n - 1 = q
        rw [Bool.eq_iff_iff, beq_iff_eq, decide_eq_true_eq]
        omega
      rw [e]
      rfl
    | succ d ih =>
      intro x9 M hx hM
      have h1 := ih (x9 + 1) (rnd (es.map toN) M) (by omega) (rnd_lt _ n M hM (toN_lt he))
      have h2 := conn_l1 n es hn he n x9 _ hl es 0 M (by omega) rfl hM (by rw [wrap_succ (by omega)]; exact h1)
      obtain ⟨K, hK⟩ := h2
      refine ⟨K + 1, fun k hk => ?_⟩
      obtain ⟨m, rfl⟩ : ∃ m, k = m + 1 := ⟨k - 1, by omega⟩
      have h3 := hK m (by omega)
      dsimp only [iter] at h3 ⊢
      simp only [impl_connected.l0]
      rw [if_pos (by omega)]
      exact h3
  exact main n 0 1 (by omega) (Nat.one_lt_two_pow (by omega))
theorem full_iff (n : Nat) (es : List S67) (hn0 : 0 < n) (he : ∀ e ∈ es, 0 ≤ e.f0 ∧ e.f0 < e.f1 ∧ e.f1 < n) : iter (es.map toN) n 1 = 2 ^ n - 1 ↔ ConnE n es := by
  rw [iter_full (es.map toN) n hn0 (toN_lt he)]
  constructor
  · intro h P h0 hP v hv0 hv
    obtain ⟨u, rfl⟩ : ∃ u : Nat, v = u := ⟨v.toNat, by omega⟩
    refine h (fun u => P u) h0 (fun x hx => ?_) u (by omega)
    obtain ⟨e, hm, rfl⟩ := List.mem_map.1 hx
    have hb := he e hm
    simp only [toN]
    rw [show ((e.f0.toNat : Nat) : Int) = e.f0 by omega, show ((e.f1.toNat : Nat) : Int) = e.f1 by omega]
    exact hP e hm
  · intro h P h0 hP v hv
    have := h (fun u => P u.toNat) h0 (fun e hm => hP (toN e) (List.mem_map.2 ⟨e, hm, rfl⟩)) v (by omega) (by omega)
    simpa using this
theorem impl_graphOk_iff (n : Int) (es : List S67) (hl : es.length < 4611686018427387904) : ∃ b : Bool, Ev (fun k => impl_GraphOk.f k n es) b ∧ (b = true ↔ GraphP n es) := by
  have h1 := impl_edgesOk_ev n es hl
  simp only [impl_GraphOk.f]
  by_cases hb : edgesB n es = true
  · obtain ⟨f1, f2, f3, f4⟩ := edgesB_facts hb
    obtain ⟨m, rfl⟩ : ∃ m : Nat, n = m := ⟨n.toNat, by omega⟩
    obtain ⟨b, h2, hs⟩ := impl_sorted_ev es hl
    rw [hb] at h1
    cases b with
    | false =>
      refine ⟨false, Ev.bind h1 ?_, ?_⟩
      · simp only [if_true]
        refine Ev.bind h2 ?_
        simp only [Bool.false_eq_true, if_false]
        exact Ev.now _
      · simp only [Bool.false_eq_true, false_iff] at hs ⊢
        exact fun h => hs h.2.1
    | true =>
      refine ⟨decide (iter (es.map toN) m 1 = 2 ^ m - 1), Ev.bind h1 ?_, ?_⟩
      · simp only [if_true]
        refine Ev.bind h2 ?_
        simp only [if_true]
        refine Ev.bind (impl_connected_ev m es (by omega) (by omega) f4 hl) ?_
        exact Ev.now _
      · rw [decide_eq_true_eq, full_iff m es (by omega) f4]
        simp only [true_iff] at hs
        exact ⟨fun h => ⟨hb, hs, h⟩, fun h => h.2.2⟩
  · refine ⟨false, Ev.bind h1 ?_, ?_⟩
    · simp only [hb]
      exact Ev.now _
    · simp only [Bool.false_eq_true, false_iff]
      exact fun h => hb h.1
theorem has_ev (l : List Int) (v : Int) (hl : l.length < 4611686018427387904) : Ev (fun k => spec_l02Has.f k l v) (decide (v ∈ l)) := by
  simp only [spec_l02Has.f]
  refine ev_list0 l (fun k (_ : Unit) i => spec_l02Has.l0 k v l (l.length : Int) i) (fun _ r => decide (v ∈ r)) (fun _ _ => True) (fun s _ => ev1 fun k => ?_) (fun s a rest i hlt hd _ => ?_) () trivial
  · simp only [spec_l02Has.l0]
    rw [if_neg (by omega)]; simp
  · by_cases h : a = v
    · refine Or.inl (ev1 fun k => ?_)
      simp only [spec_l02Has.l0, rd_drop hd]
      rw [if_pos (by omega), if_pos (by omega), if_pos (by omega), if_pos h]
      simp [h]
    · refine Or.inr ⟨(), trivial, ?_, 0, fun k _ => ?_⟩
      · simp [Ne.symm h]
      · simp only [spec_l02Has.l0, rd_drop hd]
        rw [if_pos (by omega), if_pos (by omega), if_pos (by omega), if_neg h, wrap_succ (by omega)]
def RInv (n : Nat) (es : List S67) (q : List Int) : Prop :=
  q.Nodup ∧ (∀ v ∈ q, 0 ≤ v ∧ v < n) ∧ (0 : Int) ∈ q ∧ ∀ P : Int → Prop, P 0 → (∀ e ∈ es, P e.f0 ↔ P e.f1) → ∀ v ∈ q, P v
theorem rinv_len {n : Nat} {es : List S67} {q : List Int} (h : RInv n es q) : q.length ≤ n := by
  have := List.Nodup.length_le_of_subset h.1 (l₂ := (List.range n).map fun i : Nat => (i : Int)) (fun v hv => by
    have hb := h.2.1 v hv
    exact List.mem_map.2 ⟨v.toNat, by simp; omega, by omega⟩)
  simpa using this
theorem rinv_add {n : Nat} {es : List S67} {q : List Int} (h : RInv n es q) {u v : Int} {e : S67} (he : e ∈ es) (hb : 0 ≤ e.f0 ∧ e.f0 < e.f1 ∧ e.f1 < n) (hu : u ∈ q) (huv : (u = e.f0 ∧ v = e.f1) ∨ (u = e.f1 ∧ v = e.f0)) (hv : v ∉ q) : RInv n es (q ++ [v]) := by
  refine ⟨?_, fun x hx => ?_, by simp [h.2.2.1], fun P h0 hP x hx => ?_⟩
  · rw [List.nodup_append]
    refine ⟨h.1, by simp, fun a ha b hb' => ?_⟩
    simp at hb'
    subst hb'
    intro e'
    subst e'
    exact hv ha
  · rcases List.mem_append.1 hx with hx | hx
    · exact h.2.1 x hx
    · simp at hx
      omega
  · rcases List.mem_append.1 hx with hx | hx
    · exact h.2.2.2 P h0 hP x hx
    · simp at hx
      subst hx
      have := h.2.2.2 P h0 hP u hu
      rcases huv with ⟨h1, h2⟩ | ⟨h1, h2⟩
      · rw [h2]; exact (hP e he).1 (h1 ▸ this)
      · rw [h2]; exact (hP e he).2 (h1 ▸ this)
theorem get_mem_append {q : List Int} {i : Nat} (h : i < q.length) (v : Int) : rd (q ++ [v]) (i : Int) = rd q (i : Int) := by
  rw [rd_nat q i h, rd_nat (q ++ [v]) i (by simp; omega), List.getElem_append_left h]
theorem reach_step (n : Nat) (es : List S67) (q : List Int) (pos i : Nat) (e : S67) (rest : List S67) (hd : es.drop i = e :: rest) (hne : e.f0 ≠ e.f1) (hpos : pos < q.length) (hq : q.length ≤ 6) (hl : es.length < 4611686018427387904) (r : List Int)
    (h : Ev (fun k => spec_l02Reach.l1 k (if e.f0 = rd q pos ∧ e.f1 ∉ q then q ++ [e.f1] else if e.f1 = rd q pos ∧ e.f0 ∉ q then q ++ [e.f0] else q) (pos : Int) es (es.length : Int) ((i + 1 : Nat) : Int) n es) r) :
    Ev (fun k => spec_l02Reach.l1 k q (pos : Int) es (es.length : Int) (i : Int) n es) r := by
  have hlt := drop_lt hd
  have b1 := has_ev q e.f1 (by omega)
  have tail : ∀ q' : List Int, pos < q'.length → q'.length ≤ 7 →
      Ev (fun k => spec_l02Reach.l1 k (if e.f1 = rd q' pos ∧ e.f0 ∉ q' then q' ++ [e.f0] else q') (pos : Int) es (es.length : Int) ((i + 1 : Nat) : Int) n es) r →
      Ev (fun k => spec_l02Reach.j3 k q' (pos : Int) es (es.length : Int) (i : Int) n es e.f0 e.f1) r := by
    intro q' hp' hq' h'
    have b2 := has_ev q' e.f0 (by omega)
    refine ev_succ ?_
    simp only [spec_l02Reach.j3, wrap_succ (show i < 4611686018427387904 by omega)]
    refine ev_ift (by omega) (ev_ift (by omega) ?_)
    by_cases c1 : e.f1 = rd q' pos
    · refine ev_ift c1 (Ev.bind b2 ?_)
      by_cases m0 : e.f0 ∈ q'
      · rw [if_neg (fun hh => hh.2 m0)] at h'
        exact ev_ift (by simp [m0]) h'
      · rw [if_pos ⟨c1, m0⟩] at h'
        exact ev_ifn (by simp [m0]) (ev_ift (by omega) h')
    · rw [if_neg (fun hh => c1 hh.1)] at h'
      exact ev_ifn c1 h'
  refine ev_succ ?_
  simp only [spec_l02Reach.l1, rd_IE hd]
  refine ev_ift (by omega) (ev_ift (by omega) (ev_ift (by omega) (ev_ift (by omega) (ev_ift (by omega) ?_))))
  by_cases c0 : e.f0 = rd q pos
  · have c1 : ¬ e.f1 = rd q pos := fun hh => hne (c0.trans hh.symm)
    refine ev_ift c0 (Ev.bind b1 (ev_succ ?_))
    simp only [spec_l02Reach.j2]
    by_cases m1 : e.f1 ∈ q
    · rw [if_neg (fun hh => hh.2 m1), if_neg (fun hh => c1 hh.1)] at h
      refine ev_ifn (by simp [m1]) (tail q hpos (by omega) ?_)
      rw [if_neg (fun hh => c1 hh.1)]
      exact h
    · rw [if_pos ⟨c0, m1⟩] at h
      refine ev_ift (by simp [m1]) (ev_ift (by omega) (tail (q ++ [e.f1]) (by simp; omega) (by simp; omega) ?_))
      rw [get_mem_append hpos, if_neg (fun hh => c1 hh.1)]
      exact h
  · refine ev_ifn c0 (ev_succ ?_)
    simp only [spec_l02Reach.j2]
    rw [if_neg (fun hh => c0 hh.1)] at h
    exact ev_ifn (by simp) (tail q hpos (by omega) h)
def Done (es : List S67) (q : List Int) (pos : Nat) : Prop := ∀ j, j < pos → ∀ e ∈ es, (e.f0 = rd q j → e.f1 ∈ q) ∧ (e.f1 = rd q j → e.f0 ∈ q)
theorem done_add {es : List S67} {q : List Int} {pos : Nat} (h : Done es q pos) (hp : pos ≤ q.length) (v : Int) : Done es (q ++ [v]) pos := by
  intro j hj e he
  rw [get_mem_append (by omega)]
  have := h j hj e he
  exact ⟨fun hh => List.mem_append_left _ (this.1 hh), fun hh => List.mem_append_left _ (this.2 hh)⟩
theorem reach_inner (n : Nat) (hn : n ≤ 6) (es : List S67) (he : ∀ e ∈ es, 0 ≤ e.f0 ∧ e.f0 < e.f1 ∧ e.f1 < n) (hl : es.length < 4611686018427387904) (pos : Nat)
    (next : ∀ q, RInv n es q → Done es q (pos + 1) → pos < q.length → ∃ r, Ev (fun k => spec_l02Reach.l0 k q ((pos + 1 : Nat) : Int) n es) r ∧ RInv n es r ∧ Done es r r.length) :
    ∀ (rest : List S67) (i : Nat) (q : List Int), i ≤ es.length → es.drop i = rest → RInv n es q → Done es q pos → pos < q.length →
      (∀ e ∈ es.take i, (e.f0 = rd q pos → e.f1 ∈ q) ∧ (e.f1 = rd q pos → e.f0 ∈ q)) →
      ∃ r, Ev (fun k => spec_l02Reach.l1 k q (pos : Int) es (es.length : Int) (i : Int) n es) r ∧ RInv n es r ∧ Done es r r.length := by
  intro rest
  induction rest with
  | nil =>
    intro i q hi hd hinv hdone hpos hpart
    have hge := drop_nil hd
    have hlen := rinv_len hinv
    rw [List.take_of_length_le hge] at hpart
    obtain ⟨r, ⟨K, hK⟩, h1, h2⟩ := next q hinv (fun j hj => by
      by_cases e : j = pos
      · subst e; exact hpart
      · exact hdone j (by omega)) hpos
    refine ⟨r, ⟨K + 1, fun k hk => ?_⟩, h1, h2⟩
    obtain ⟨m, rfl⟩ : ∃ m, k = m + 1 := ⟨k - 1, by omega⟩
    have h3 := hK m (by omega)
    dsimp only at h3 ⊢
    simp only [spec_l02Reach.l1]
    rw [if_neg (by omega), wrap_succ (by omega), h3]
  | cons e rest ih =>
    intro i q hi hd hinv hdone hpos hpart
    have hlt := drop_lt hd
    have hmem : e ∈ es := by
      have : e ∈ es.drop i := by rw [hd]; simp
      exact List.mem_of_mem_drop this
    have hb := he e hmem
    have hlen := rinv_len hinv
    have hx : rd q pos ∈ q := by rw [rd_nat q pos hpos]; exact List.getElem_mem _
    have htake : es.take (i + 1) = es.take i ++ [e] := take_drop hd
    have step := reach_step n es q pos i e rest hd (by omega) hpos (by omega) hl
    by_cases c0 : e.f0 = rd q pos ∧ e.f1 ∉ q
    · obtain ⟨r, hr, h1, h2⟩ := ih (i + 1) (q ++ [e.f1]) (by omega) (drop_next hd) (rinv_add hinv hmem hb hx (Or.inl ⟨c0.1.symm, rfl⟩) c0.2) (done_add hdone (by omega) _) (by simp; omega) (fun x hx' => by
        rw [get_mem_append hpos]
        rw [htake] at hx'
        rcases List.mem_append.1 hx' with hx' | hx'
        · have := hpart x hx'
          exact ⟨fun hh => List.mem_append_left _ (this.1 hh), fun hh => List.mem_append_left _ (this.2 hh)⟩
        · simp at hx'
          subst hx'
          exact ⟨fun _ => by simp, fun hh => absurd (c0.1.trans hh.symm) (by omega)⟩)
      refine ⟨r, step r ?_, h1, h2⟩
      simp only [if_pos c0]
      exact hr
    · by_cases c1 : e.f1 = rd q pos ∧ e.f0 ∉ q
      · obtain ⟨r, hr, h1, h2⟩ := ih (i + 1) (q ++ [e.f0]) (by omega) (drop_next hd) (rinv_add hinv hmem hb hx (Or.inr ⟨c1.1.symm, rfl⟩) c1.2) (done_add hdone (by omega) _) (by simp; omega) (fun x hx' => by
          rw [get_mem_append hpos]
          rw [htake] at hx'
          rcases List.mem_append.1 hx' with hx' | hx'
          · have := hpart x hx'
            exact ⟨fun hh => List.mem_append_left _ (this.1 hh), fun hh => List.mem_append_left _ (this.2 hh)⟩
          · simp at hx'
            subst hx'
            exact ⟨fun hh => absurd (hh.trans c1.1.symm) (by omega), fun _ => by simp⟩)
        refine ⟨r, step r ?_, h1, h2⟩
        simp only [if_neg c0, if_pos c1]
        exact hr
      · obtain ⟨r, hr, h1, h2⟩ := ih (i + 1) q (by omega) (drop_next hd) hinv hdone hpos (fun x hx' => by
          rw [htake] at hx'
          rcases List.mem_append.1 hx' with hx' | hx'
          · exact hpart x hx'
          · simp at hx'
            subst hx'
            exact ⟨fun hh => Classical.byContradiction fun hn => c0 ⟨hh, hn⟩, fun hh => Classical.byContradiction fun hn => c1 ⟨hh, hn⟩⟩)
        refine ⟨r, step r ?_, h1, h2⟩
        simp only [if_neg c0, if_neg c1]
        exact hr
theorem reach_ev (n : Nat) (hn0 : 0 < n) (hn : n ≤ 6) (es : List S67) (he : ∀ e ∈ es, 0 ≤ e.f0 ∧ e.f0 < e.f1 ∧ e.f1 < n) (hl : es.length < 4611686018427387904) :
    ∃ r, Ev (fun k => spec_l02Reach.f k n es) r ∧ RInv n es r ∧ Done es r r.length := by
  have main : ∀ (d pos : Nat) (q : List Int), RInv n es q → Done es q pos → pos ≤ q.length → n < pos + d → ∃ r, Ev (fun k => spec_l02Reach.l0 k q (pos : Int) n es) r ∧ RInv n es r ∧ Done es r r.length := by
    intro d
    induction d with
    | zero =>
      intro pos q hinv _ hp hd
      have := rinv_len hinv
      omega
    | succ d ih =>
      intro pos q hinv hdone hp hd
      by_cases hlt : pos < q.length
      · obtain ⟨r, ⟨K, hK⟩, h1, h2⟩ := reach_inner n hn es he hl pos (fun q' h1 h2 h3 => ih (pos + 1) q' h1 h2 (by omega) (by omega)) es 0 q (by omega) rfl hinv hdone hlt (fun e he' => by simp at he')
        refine ⟨r, ⟨K + 1, fun k hk => ?_⟩, h1, h2⟩
        obtain ⟨m, rfl⟩ : ∃ m, k = m + 1 := ⟨k - 1, by omega⟩
        have h3 := hK m (by omega)
        dsimp only at h3 ⊢
        simp only [spec_l02Reach.l0]
        rw [if_pos (by omega)]
        exact h3
      · refine ⟨q, ev1 fun k => ?_, hinv, ?_⟩
        · simp only [spec_l02Reach.l0]
          rw [if_neg (by omega)]
        · have : pos = q.length := by omega
          rw [this] at hdone
          exact hdone
  refine main (n + 1) 0 [0] ⟨by simp, fun v hv => by simp at hv; omega, by simp, fun P h0 _ v hv => by simp at hv; rw [hv]; exact h0⟩ (fun j hj => by omega) (by simp) (by omega)
theorem reach_all (n : Nat) (es : List S67) (r : List Int) (h1 : RInv n es r) (h2 : Done es r r.length) : ((r.length : Int) == n) = true ↔ ConnE n es := by
  have hlen := rinv_len h1
  constructor
  · intro h P h0 hP v hv0 hv
    simp at h
    refine h1.2.2.2 P h0 hP v (Classical.byContradiction fun hno => ?_)
    have := List.Nodup.length_le_of_subset (l₁ := v :: r) (by rw [List.nodup_cons]; exact ⟨hno, h1.1⟩) (l₂ := (List.range n).map fun i : Nat => (i : Int)) (fun u hu => by
      have hb : 0 ≤ u ∧ u < n := by
        rcases List.mem_cons.1 hu with rfl | hu
        · omega
        · exact h1.2.1 u hu
      exact List.mem_map.2 ⟨u.toNat, by simp; omega, by omega⟩)
    simp at this
    omega
  · intro h
    have hall := h (fun v => v ∈ r) h1.2.2.1 (fun e he => by
      constructor
      · intro hm
        obtain ⟨j, hj, hjv⟩ := List.mem_iff_getElem.1 hm
        exact (h2 j hj e he).1 (by rw [rd_nat r j hj]; exact hjv.symm)
      · intro hm
        obtain ⟨j, hj, hjv⟩ := List.mem_iff_getElem.1 hm
        exact (h2 j hj e he).2 (by rw [rd_nat r j hj]; exact hjv.symm))
    have := List.Nodup.length_le_of_subset (l₁ := (List.range n).map fun i : Nat => (i : Int)) (l₂ := r) (by
      refine List.Pairwise.map _ (fun a b hab => ?_) List.nodup_range
      show (a : Int) ≠ b
      omega) (fun v hv => by
      obtain ⟨i, hi, rfl⟩ := List.mem_map.1 hv
      simp at hi
      exact hall _ (by omega) (by omega))
    simp at this ⊢
    omega
theorem spec_graphOk_iff (n : Int) (es : List S67) (hl : es.length < 4611686018427387904) : ∃ b : Bool, Ev (fun k => spec_GraphOk.f k n es) b ∧ (b = true ↔ GraphP n es) := by
  have h1 := spec_edgesOk_ev n es hl
  simp only [spec_GraphOk.f]
  by_cases hb : edgesB n es = true
  · obtain ⟨f1, f2, f3, f4⟩ := edgesB_facts hb
    obtain ⟨m, rfl⟩ : ∃ m : Nat, n = m := ⟨n.toNat, by omega⟩
    obtain ⟨r, hr, r1, r2⟩ := reach_ev m (by omega) (by omega) es f4 hl
    rw [hb] at h1
    have main : ∀ (d i : Nat), i + d = es.length → ∃ b : Bool, Ev (fun k => spec_GraphOk.l0 k es (es.length : Int) (i : Int) m es) b ∧
        (b = true ↔ (∀ j, i ≤ j + 1 → j + 1 < es.length → ¬ ((es.getD (j + 1) z67).f0 < (es.getD j z67).f0 ∨ ((es.getD (j + 1) z67).f0 = (es.getD j z67).f0 ∧ (es.getD (j + 1) z67).f1 < (es.getD j z67).f1))) ∧ ConnE m es) := by
      intro d
      induction d with
      | zero =>
        intro i hi
        obtain ⟨K, hK⟩ := hr
        refine ⟨((r.length : Int) == m), ⟨K + 1, fun k hk => ?_⟩, ?_⟩
        · obtain ⟨p, rfl⟩ : ∃ p, k = p + 1 := ⟨k - 1, by omega⟩
          have h3 := hK p (by omega)
          dsimp only at h3 ⊢
          simp only [spec_GraphOk.l0]
          rw [if_neg (by omega), h3]
          rfl
        · rw [reach_all m es r r1 r2]
          exact ⟨fun h => ⟨fun j h1 h2 => by omega, h⟩, fun h => h.2⟩
      | succ d ih =>
        intro i hi
        obtain ⟨b, hK, hiff⟩ := ih (i + 1) (by omega)
        have stop : Ev (fun k => spec_GraphOk.j1 k es (es.length : Int) (i : Int) true m es) false := ev1 fun k => by simp only [spec_GraphOk.j1, if_true]
        have go : Ev (fun k => spec_GraphOk.j1 k es (es.length : Int) (i : Int) false m es) b := by
          refine ev_succ ?_
          simp only [spec_GraphOk.j1, Bool.false_eq_true, if_false, wrap_succ (show i < 4611686018427387904 by omega)]
          exact hK
        by_cases i0 : i = 0
        · subst i0
          refine ⟨b, ev_succ ?_, ?_⟩
          · simp only [spec_GraphOk.l0]
            exact ev_ift (by omega) (ev_ift (by omega) (ev_ift (by omega) (ev_ifn (by omega) go)))
          · rw [hiff]
            exact ⟨fun h => ⟨fun j _ h2 => h.1 j (by omega) h2, h.2⟩, fun h => ⟨fun j _ h2 => h.1 j (by omega) h2, h.2⟩⟩
        · obtain ⟨p, rfl⟩ : ∃ p, i = p + 1 := ⟨i - 1, by omega⟩
          have ew : wrap64 (((p + 1 : Nat) : Int) - 1) = (p : Int) := by unfold wrap64; omega
          by_cases hc : (es.getD (p + 1) z67).f0 < (es.getD p z67).f0 ∨ ((es.getD (p + 1) z67).f0 = (es.getD p z67).f0 ∧ (es.getD (p + 1) z67).f1 < (es.getD p z67).f1)
          · refine ⟨false, ev_succ ?_, ?_⟩
            · simp only [spec_GraphOk.l0, ew, rdE_nat]
              refine ev_ift (by omega) (ev_ift (by omega) (ev_ift (by omega) (ev_ift (by omega) (ev_ift (by omega) (ev_ift (by omega) ?_)))))
              by_cases c0 : (es.getD (p + 1) z67).f0 < (es.getD p z67).f0
              · exact ev_ift c0 stop
              · have c1 : (es.getD (p + 1) z67).f1 < (es.getD p z67).f1 := by omega
                simp only [decide_eq_true c1]
                exact ev_ifn c0 (ev_ift (by omega) stop)
            · simp only [Bool.false_eq_true, false_iff]
              exact fun h => h.1 p (by omega) (by omega) hc
          · refine ⟨b, ev_succ ?_, ?_⟩
            · simp only [spec_GraphOk.l0, ew, rdE_nat]
              refine ev_ift (by omega) (ev_ift (by omega) (ev_ift (by omega) (ev_ift (by omega) (ev_ift (by omega) (ev_ift (by omega) (ev_ifn (by omega) ?_))))))
              by_cases c0 : (es.getD (p + 1) z67).f0 = (es.getD p z67).f0
              · have c1 : ¬ (es.getD (p + 1) z67).f1 < (es.getD p z67).f1 := by omega
                simp only [decide_eq_false c1]
                exact ev_ift c0 go
              · exact ev_ifn c0 go
            · rw [hiff]
              refine ⟨fun h => ⟨fun j h1 h2 => ?_, h.2⟩, fun h => ⟨fun j _ h2 => h.1 j (by omega) h2, h.2⟩⟩
              by_cases e : j = p
              · subst e; exact hc
              · exact h.1 j (by omega) h2
    obtain ⟨b, hb2, hiff⟩ := main es.length 0 (by omega)
    refine ⟨b, Ev.bind h1 ?_, ?_⟩
    · simp only [if_true]
      exact hb2
    · rw [hiff]
      exact ⟨fun h => ⟨hb, fun i hi => h.1 i (by omega) hi, h.2⟩, fun h => ⟨fun j _ h2 => h.2.1 j h2, h.2.2⟩⟩
  · refine ⟨false, Ev.bind h1 ?_, ?_⟩
    · simp only [hb]
      exact Ev.now _
    · simp only [Bool.false_eq_true, false_iff]
      exact fun h => hb h.1
theorem graphOk_both (n : Int) (es : List S67) (hl : es.length < 4611686018427387904) : ∃ b : Bool, Ev (fun k => impl_GraphOk.f k n es) b ∧ Ev (fun k => spec_GraphOk.f k n es) b ∧ (b = true ↔ GraphP n es) := by
  obtain ⟨b, h1, i1⟩ := impl_graphOk_iff n es hl
  obtain ⟨b', h2, i2⟩ := spec_graphOk_iff n es hl
  have : b' = b := by rw [Bool.eq_iff_iff, i1, i2]
  subst this
  exact ⟨b', h1, h2, i1⟩
theorem within_eq (a b c : Int) : impl_within.f a b c = some (decide (b ≤ a ∧ a ≤ c)) := by
  unfold impl_within.f
  by_cases h : a ≥ b
  · rw [if_pos h]; simp; omega
  · rw [if_neg h]; simp; omega
theorem in_eq (a b c : Int) : spec_l01In.f a b c = some (decide (b ≤ a ∧ a ≤ c)) := by
  unfold spec_l01In.f
  by_cases h : a ≥ b
  · rw [if_pos h]; simp; omega
  · rw [if_neg h]; simp; omega
def allB (l : List Int) (lo hi : Int) : Bool := l.all fun x => decide (lo ≤ x ∧ x ≤ hi)
theorem allWithin_ev (l : List Int) (lo hi : Int) (hl : l.length < 4611686018427387904) : Ev (fun k => impl_allWithin.f k l lo hi) (allB l lo hi) := by
  simp only [impl_allWithin.f]
  refine ev_list0 l (fun k (_ : Unit) i => impl_allWithin.l0 k lo hi l (l.length : Int) i) (fun _ r => allB r lo hi) (fun _ _ => True) (fun s _ => ev1 fun k => ?_) (fun s a rest i hlt hd _ => ?_) () trivial
  · simp only [impl_allWithin.l0]
    rw [if_neg (by omega)]; rfl
  · by_cases h : lo ≤ a ∧ a ≤ hi
    · refine Or.inr ⟨(), trivial, by simp [allB, h], 0, fun k _ => ?_⟩
      simp only [impl_allWithin.l0, rd_drop hd, within_eq, Option.bind_some]
      rw [if_pos (by omega), if_pos (by omega), if_pos (by omega), if_pos (by simp [h]), wrap_succ (by omega)]
    · refine Or.inl (ev1 fun k => ?_)
      simp only [impl_allWithin.l0, rd_drop hd, within_eq, Option.bind_some]
      rw [if_pos (by omega), if_pos (by omega), if_pos (by omega), if_neg (by simpa using h)]
      simp [allB, h]
theorem all_loop (l : List Int) (lo hi : Int) (hl : l.length < 4611686018427387904) (g : Nat → Int → Option Bool)
    (hg : ∀ k i, g (k + 1) i = if i < (l.length : Int) then (if 0 ≤ i then (if i < (l.length : Int) then ((spec_l01In.f (rd l i) lo hi).bind fun t => (if t = true then (g k (wrap64 (i + 1))) else (some false))) else (none)) else (none)) else (some true)) :
    Ev (fun k => g k 0) (allB l lo hi) := by
  refine ev_list0 l (fun k (_ : Unit) i => g k i) (fun _ r => allB r lo hi) (fun _ _ => True) (fun s _ => ev1 fun k => ?_) (fun s a rest i hlt hd _ => ?_) () trivial
  · rw [hg, if_neg (by omega)]; rfl
  · by_cases h : lo ≤ a ∧ a ≤ hi
    · refine Or.inr ⟨(), trivial, by simp [allB, h], 0, fun k _ => ?_⟩
      rw [hg, if_pos (by omega), if_pos (by omega), if_pos (by omega), rd_drop hd, in_eq, Option.bind_some, if_pos (by simp [h]), wrap_succ (by omega)]
    · refine Or.inl (ev1 fun k => ?_)
      rw [hg, if_pos (by omega), if_pos (by omega), if_pos (by omega), rd_drop hd, in_eq, Option.bind_some, if_neg (by simpa using h)]
      simp [allB, h]
def DivP (n : Int) (es : List S67) (d : List Int) : Prop := GraphP n es ∧ (d.length : Int) = n ∧ allB d (-60) 60 = true
theorem divOk_both (n : Int) (es : List S67) (d : List Int) (hl : es.length < 4611686018427387904) (hd : d.length < 4611686018427387904) : ∃ b : Bool, Ev (fun k => impl_DivisorOk.f k n es d) b ∧ Ev (fun k => spec_DivisorOk.f k n es d) b ∧ (b = true ↔ DivP n es d) := by
  obtain ⟨b, h1, h2, hb⟩ := graphOk_both n es hl
  simp only [impl_DivisorOk.f, spec_DivisorOk.f]
  have off : ∀ q : Bool, q = true → Ev (fun k => spec_DivisorOk.j0 k d q) false := fun q hq => ev1 fun k => by
    simp only [spec_DivisorOk.j0, hq, if_true]
  cases b with
  | false =>
    refine ⟨false, Ev.bind h1 ?_, Ev.bind h2 ?_, ?_⟩
    · simp only [Bool.false_eq_true, if_false]; exact Ev.now _
    · simp only [Bool.false_eq_true, if_false]; exact off _ rfl
    · simp only [Bool.false_eq_true, false_iff] at hb ⊢
      exact fun h => hb h.1
  | true =>
    simp only [true_iff] at hb
    by_cases hn : (d.length : Int) = n
    · refine ⟨allB d (-60) 60, Ev.bind h1 ?_, Ev.bind h2 ?_, ?_⟩
      · simp only [if_true, if_pos hn]
        exact Ev.bind (allWithin_ev d (-60) 60 hd) (Ev.now _)
      · simp only [if_true]
        refine ev_succ ?_
        simp only [spec_DivisorOk.j0]
        simp only [if_neg (show ¬ ((d.length : Int) != n) = true by simp [hn])]
        exact all_loop d (-60) 60 hd (fun k i => spec_DivisorOk.l0 k d (d.length : Int) i) (fun k i => by simp only [spec_DivisorOk.l0])
      · exact ⟨fun h => ⟨hb, hn, h⟩, fun h => h.2.2⟩
    · refine ⟨false, Ev.bind h1 ?_, Ev.bind h2 ?_, ?_⟩
      · simp only [if_true, if_neg hn]; exact Ev.now _
      · simp only [if_true]; exact off _ (by simp [hn])
      · simp only [Bool.false_eq_true, false_iff]
        exact fun h => hn h.2.1
end Go.Proofs.Ytbcfccdoffbncaa.Pure
end
