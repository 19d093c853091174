/- Functions of the program as plain Lean functions and that the machine's calls answer as they do, the words of the print that these use, lemmas and plain proofs of laws. Put together by a program of this work that leaves out what nothing uses; Lean checks it. -/
import Derived.Test.YtbcfccdoffbncaaG4577911c2e
import Derived.Test.YtbcfccdoffbncaaGa2b5af435a
import Derived.Test.YtbcfccdoffbncaaGaac7f9c49c
import Derived.Test.YtbcfccdoffbncaaG34698dee4f
import Derived.Test.YtbcfccdoffbncaaG6a09071fbe
section
namespace Go.Proofs.Ytbcfccdoffbncaa.P
open Go.RowKit Go.Proofs.YtbcfccdoffbncaaW.PrintWords Go.Proofs.YtbcfccdoffbncaaW.PrintLast Go.Proofs.YtbcfccdoffbncaaW.PrintMore
attribute [local go_sem] max2_int min2_int max_two min_two max_three min_three max_four min_four
set_option linter.unusedVariables false
set_option linter.unusedSimpArgs false
def spec_MakeGraph.f (k : Nat) (l0 : List Int) : Option (Int × (List (S67))) := (spec_l01New.f k l0).bind fun bt710 => ((spec_l02Graph.f k bt710.1 bt710.2.1 bt710.2.2).bind fun bt714 => (some (bt714.1, bt714.2.1)))
set_option maxHeartbeats 8000000 in
set_option maxRecDepth 100000 in
theorem spec_MakeGraph.calls (k : Nat) (A0 : Option Addr) (c0 : Nat) (l0 : List Int) (r1 : Int) (r2 : List (S67)) (w : World) (hr0 : Kd.C (Kd.int .u8) w A0 l0.length l0) (hc0 : l0.length ≤ c0) (h : spec_MakeGraph.f k l0 = some (r1, r2)) :
  Calls Try.prog 22 #[.slice A0 l0.length c0] w fun e w' => ∃ v1_ : Value, e = .returned (.agg #[.int .i64 r1, v1_]) ∧ Kd.R k67 67 w' w.heap.size (fun _ => True) v1_ r2 ∧ Below w.heap.size w w' := by
 have hu31 := Try.underlying31
 have HR0 := Aside0.mk hr0
 have HC0 := Aside0.mk hc0
 clear hr0 hc0
 have HB := Aside0.mk (Below.refl w.heap.size w)
 have H : ((spec_l01New.f k l0).bind fun bt710 => ((spec_l02Graph.f k bt710.1 bt710.2.1 bt710.2.2).bind fun bt714 => (some (bt714.1, bt714.2.1)))) = some (r1, r2) := h
 clear h
 replace H := Option.bind_eq_some_iff.mp H
 obtain ⟨⟨t710, t711, t712⟩, A20, H⟩ := H
 replace H : ((spec_l02Graph.f k t710 t711 t712).bind fun bt714 => (some (bt714.1, bt714.2.1))) = some (r1, r2) := H
 have A2 := Aside0.mk A20
 clear A20
 replace H := Option.bind_eq_some_iff.mp H
 obtain ⟨⟨t714, t715, t718, t719⟩, A30, H⟩ := H
 replace H : (some (t714, t715)) = some (r1, r2) := H
 have A3 := Aside0.mk A30
 clear A30
 simp only [Option.some.injEq, Prod.mk.injEq] at H
 obtain ⟨rfl, rfl⟩ := H
 go_enter Try.func22, Try.ntmps22
 go_wp2_with (first | ((with_reducible refine gate_dst (N := 2) rfl ?_); refine box_event ?hg (N := 2) ?hd (cs := #[.int .i64 0, .slice none 0 0]) (t := 31) ?hr ?_; (case hd => rfl); (case hg => rfl); (case hr => first | (go_simp; done) | (go_simp; rfl)); intro gb709 hg w4 hbox hb; have BK709 := Aside0.mk (hbox); have GW709 := Aside0.mk ((by rw [hg]; exact (below_size (Lz HB)) : w.heap.size ≤ gb709)); have GE709 := Aside0.mk ((by rw [hg]; exact (below_size (Lz HB)) : w.heap.size ≤ gb709)); replace HB := Aside0.mk (below_step (Lz HB) hb); clear hb hbox hg) | ((with_reducible refine gate_callee (f := 67) rfl ?_); refine goesM_ (some 4) rfl rfl Try.func67 (by kernel_rfl) rfl #[.slice A0 l0.length c0] rfl ?_; (with_reducible refine (spec_l01New.calls k _ _ l0 t710 t711 t712 w _ ?side1 ?side2 ?side3 A2.out).mono ?_); (case side1 => exact Lz1 HB GE709); (case side2 => exact HR0.out); (case side3 => exact HC0.out); rintro e w5 ⟨g713, rfl, hi, hb, hb2⟩; refine ⟨_, rfl, ?_⟩; replace HB := Aside0.mk (hb); have HI713 := Aside0.mk (hi); have NB713_709 := Aside0.mk (IsS101.ne_blk hi (blk_below (g := gb709) (o := .cells #[.int .i64 0, .slice none 0 0] 31 (0, 0)) (Bz BK709) hb2) (by decide)); have NB709_713 := Aside0.mk (Ne.symm (IsS101.ne_blk hi (blk_below (g := gb709) (o := .cells #[.int .i64 0, .slice none 0 0] 31 (0, 0)) (Bz BK709) hb2) (by decide))); replace BK709 := Aside0.mk (blk_below (g := gb709) (o := .cells #[.int .i64 0, .slice none 0 0] 31 (0, 0)) (Bz BK709) hb2); (try clear hb); (try clear hb2); (try clear hk); (try clear hi)) | ((with_reducible refine gate_callee (f := 66) rfl ?_); refine goesM_ (some 5) rfl rfl Try.func66 (by kernel_rfl) rfl #[.pointer (some ⟨g713, 0, none⟩)] rfl ?_; (with_reducible refine (spec_l02Graph.calls k g713 t710 t711 t712 t714 t715 t718 t719 w _ ?side1 ?side2 A3.out).mono ?_); (case side1 => repeat (first | (with_reducible first | exact HI713.out | apply IsS101.alloc | apply IsS101.drewN | apply IsS101.drew | apply IsS101.set_1 | apply IsS101.set_2 | refine IsS101.far ?_ NB713_709.out _) | exact HI713.out)); (case side2 => repeat (first | (with_reducible first | exact HB.out | apply below_alloc | apply pw_below_drewN | apply below_drew1 | refine below_set ?_ (IsS101.ge HI713.out) | refine below_set ?_ GE709.out) | exact HB.out)); rintro e w6 ⟨v716, rfl, ho0, hi, hb, hk⟩; refine ⟨_, rfl, ?_⟩; replace BK709 := Aside0.mk (KeepBut.blk hk (g' := gb709) (o := .cells #[.int .i64 0, .slice none 0 0] 31 (0, 0)) (Bz BK709) NB709_713.out (by simp)); have HO717 := Aside0.mk (Kd.R_lower ho0 (below_size (by repeat (first | (with_reducible first | exact HB.out | apply below_alloc | apply pw_below_drewN | apply below_drew1 | refine below_set ?_ (IsS101.ge HI713.out) | refine below_set ?_ GE709.out) | exact HB.out)))); replace HB := Aside0.mk (hb); replace HI713 := Aside0.mk (hi); (try clear hb); (try clear ho0); have hnb7 := NB709_713.out; have hnc7 := NB713_709.out; have hcz8_0 : w6.cell? ⟨gb709, 0, none⟩ = some (.int .i64 0) := (blk_cell BK709.out 0).trans rfl; have hcz8_1 : w6.cell? ⟨gb709, 1, none⟩ = some (.slice none 0 0) := (blk_cell BK709.out 1).trans rfl; have hfz8_0 := blk_frozen BK709.out 0; have hfz8_1 := blk_frozen BK709.out 1; obtain ⟨Ao9, co9, eo9⟩ := Kd.R_slice HO717.out; subst eo9))
 refine bodyPost_ret (results_cell_row rfl _ _ gb709 31 #[.int .i64 t714, .slice Ao9 t715.length co9] (0, 0) _ rfl (by (with_reducible repeat (first | refine blk_drewN ?_ _ | refine blk_drew ?_ | refine blk_alloc ?_ _)); refine blk_put (cs := #[.int .i64 t714, .slice none 0 0]) ?_ 1 _ rfl; (with_reducible repeat (first | refine blk_drewN ?_ _ | refine blk_drew ?_ | refine blk_alloc ?_ _)); refine blk_put (cs := #[.int .i64 0, .slice none 0 0]) ?_ 0 _ rfl; exact Bz BK709) Try.underlying31 rfl (by kernel_rfl)) rfl ?_
 exact ⟨_, by first | rfl | (simp [errW_none, errW_some] <;> rfl) | (simp [*, errW_none, errW_some] <;> rfl), by (with_reducible repeat (first | apply Kd.R_alloc | apply Kd.R_drewN | apply Kd.R_drew)); exact Kd.R_mono (Kd.R_far (p := ⟨gb709, 1, none⟩) (Kd.R_far (p := ⟨gb709, 0, none⟩) (Kd.R_types HO717.out BK709.out (by decide)) (fun _ hk => hk.2) (.int .i64 t714)) (fun _ hk => hk.2) (.slice Ao9 t715.length co9)) (fun _ hk => trivial), by repeat (first | (with_reducible first | exact HB.out | apply below_alloc | apply pw_below_drewN | apply below_drew1 | refine below_set ?_ (IsS101.ge HI713.out) | refine below_set ?_ GE709.out) | exact HB.out)⟩
def spec_l01Pick.f (s0_0 : List Int) (s0_1 : Int) (s0_2 : Int) (l1 : List Int) : Option (Int × Int × Int) := (spec_l01Below.f s0_0 s0_1 s0_2 (l1.length : Int)).bind fun bt720 => (if 0 ≤ bt720.1 then (if bt720.1 < (l1.length : Int) then (some (rd l1 bt720.1, bt720.2.1, bt720.2.2)) else (none)) else (none))
set_option maxHeartbeats 8000000 in
set_option maxRecDepth 100000 in
theorem spec_l01Pick.calls (g : Nat) (s0_0 : List Int) (s0_1 : Int) (s0_2 : Int) (A1 : Option Addr) (c1 : Nat) (l1 : List Int) (r1 : Int) (r2 : Int) (r3 : Int) (w0 w : World) (hI : IsS101 w0 w g s0_0 s0_1 s0_2) (hB : Below w0.heap.size w0 w) (hr1 : Kd.C (Kd.int .i64) w A1 l1.length l1) (hc1 : l1.length ≤ c1) (hf1 : ∀ ad, A1 = some ad → 0 < l1.length → ad.block ≠ g) (h : spec_l01Pick.f s0_0 s0_1 s0_2 l1 = some (r1, r2, r3)) :
  Calls Try.prog 108 #[.pointer (some ⟨g, 0, none⟩), .slice A1 l1.length c1] w fun e w' => e = .returned (.int .i64 r1) ∧ IsS101 w0 w' g s0_0 r2 r3 ∧ Below w0.heap.size w0 w' ∧ KeepBut w w' g none := by
 have HR1 := Aside0.mk hr1
 have HC1 := Aside0.mk hc1
 clear hr1 hc1
 have HI0 := Aside0.mk hI
 have HK := Aside0.mk (KeepBut.refl w g none)
 have HL := Aside0.mk hB.size
 clear hI
 have HW0 := Aside0.mk hB.size
 have HB := Aside0.mk hB
 clear hB
 have H : ((spec_l01Below.f s0_0 s0_1 s0_2 (l1.length : Int)).bind fun bt720 => (if 0 ≤ bt720.1 then (if bt720.1 < (l1.length : Int) then (some (rd l1 bt720.1, bt720.2.1, bt720.2.2)) else (none)) else (none))) = some (r1, r2, r3) := h
 clear h
 replace H := Option.bind_eq_some_iff.mp H
 obtain ⟨⟨t720, t721, t722⟩, A30, H⟩ := H
 replace H : (if 0 ≤ t720 then (if t720 < (l1.length : Int) then (some (rd l1 t720, t721, t722)) else (none)) else (none)) = some (r1, r2, r3) := H
 have A3 := Aside0.mk A30
 clear A30
 by_cases c4 : 0 ≤ t720
 ·rw [if_pos c4] at H
  have c4b0 : decide (0 ≤ t720) = true := decide_eq_true c4
  clear c4
  by_cases c5 : t720 < (l1.length : Int)
  ·rw [if_pos c5] at H
   have c5b0 : decide (t720 < (l1.length : Int)) = true := decide_eq_true c5
   clear c5
   simp only [Option.some.injEq, Prod.mk.injEq] at H
   obtain ⟨rfl, rfl, rfl⟩ := H
   go_enter Try.func108, Try.ntmps108
   go_wp2_with (first | ((with_reducible refine gate_callee (f := 75) rfl ?_); refine goesM_ (some 9) rfl rfl Try.func75 (by kernel_rfl) rfl #[.pointer (some ⟨g, 0, none⟩), .int .i64 (l1.length : Int)] rfl ?_; (with_reducible refine (spec_l01Below.calls g s0_0 s0_1 s0_2 (l1.length : Int) t720 t721 t722 w0 _ ?side1 ?side2 A3.out).mono ?_); (case side1 => repeat (first | (with_reducible first | exact HI0.out | apply IsS101.alloc | apply IsS101.drewN | apply IsS101.drew | apply IsS101.set_1 | apply IsS101.set_2) | exact HI0.out)); (case side2 => repeat (first | (with_reducible first | exact HB.out | apply below_alloc | apply pw_below_drewN | apply below_drew1 | refine below_set ?_ (IsS101.ge HI0.out)) | exact HB.out)); rintro e w6 ⟨rfl, hi, hb, hk⟩; refine ⟨_, rfl, ?_⟩; replace HK := Aside0.mk (KeepBut.trans (by repeat (first | (with_reducible first | exact HK.out | apply KeepBut.set_ | apply keep_drewN | apply keep_drew | apply keep_alloc) | exact HK.out)) hk (.inl rfl)); replace HB := Aside0.mk (hb); replace HI0 := Aside0.mk (hi); (try clear hb); (try clear hb2); (try clear hk); (try clear hi); have p723 : 0 ≤ (t720 : Int) := ofA; have q723 : t720 < (l1.length : Int) := ofA; obtain ⟨ad723, e723, hx723_0⟩ := Kd.at_int HR1.out t720 p723 q723; cases e723; replace hx723_0 := keep_cell HK.out hx723_0 (by first | (rw [add_block]; exact hf1 _ rfl (by omega)) | exact hf1 _ rfl (by omega) | exact hf1 ad723 rfl (by omega)); replace p723 := eq_true p723; replace q723 := eq_true q723))
   go_ret
   exact ⟨by first | rfl | (simp [errW_none, errW_some] <;> rfl) | (simp [*, errW_none, errW_some] <;> rfl), by repeat (first | (with_reducible first | exact HI0.out | apply IsS101.alloc | apply IsS101.drewN | apply IsS101.drew | apply IsS101.set_1 | apply IsS101.set_2) | exact HI0.out), by repeat (first | (with_reducible first | exact HB.out | apply below_alloc | apply pw_below_drewN | apply below_drew1 | refine below_set ?_ (IsS101.ge HI0.out)) | exact HB.out), by repeat (first | (with_reducible first | exact HK.out | apply KeepBut.set_ | apply keep_drewN | apply keep_drew | apply keep_alloc) | exact HK.out)⟩
  rw [if_neg c5] at H
  exact absurd H (by simp)
 rw [if_neg c4] at H
 exact absurd H (by simp)
def spec_l04Draw.l0 : Nat → List Int → Int → List Int → Int → Int → Int → List (S67) → Option (List Int × Int × Int)
 | 0, _, _, _, _, _, _, _ => none
 | k + 1, x5, x6, x1000, x1001, x1002, x725000, x725001 => if x6 < x725000 then ((spec_l01Below.f x1000 x1001 x1002 7).bind fun bt728 => ((spec_l01Pick.f x1000 bt728.2.1 bt728.2.2 (([0, 1, 2, (-1), 3, (-2), bt728.1] : List Int))).bind fun bt734 => (if x5.length < 17592186044416 then (spec_l04Draw.l0 k (x5 ++ [bt734.1]) (wrap64 (x6 + 1)) x1000 bt734.2.1 bt734.2.2 x725000 x725001) else (none)))) else (some (x5, x1001, x1002))
def spec_l04Draw.f (k : Nat) (s0_0 : List Int) (s0_1 : Int) (s0_2 : Int) (a1_0 : Int) (l1_1 : List (S67)) : Option (List Int × Int × Int) := spec_l04Draw.l0 k (([] : List Int)) 0 s0_0 s0_1 s0_2 a1_0 l1_1
set_option maxHeartbeats 8000000 in
set_option maxRecDepth 100000 in
theorem spec_l04Draw.calls (k : Nat) (g : Nat) (s0_0 : List Int) (s0_1 : Int) (s0_2 : Int) (a1_0 : Int) (A1_1 : Option Addr) (c1_1 : Nat) (l1_1 : List (S67)) (r1 : List Int) (r2 : Int) (r3 : Int) (w0 w : World) (hI : IsS101 w0 w g s0_0 s0_1 s0_2) (hB : Below w0.heap.size w0 w) (hr1_1 : ∀ W_, KeepBut w W_ g none → Kd.C k67 W_ A1_1 l1_1.length l1_1) (hc1_1 : l1_1.length ≤ c1_1) (h : spec_l04Draw.f k s0_0 s0_1 s0_2 a1_0 l1_1 = some (r1, r2, r3)) :
  Calls Try.prog 68 #[.pointer (some ⟨g, 0, none⟩), .agg #[.int .i64 a1_0, .slice A1_1 l1_1.length c1_1]] w fun e w' => ∃ v0_ : Value, e = .returned (v0_) ∧ Kd.R (Kd.int .i64) 3 w' w.heap.size (fun _ => True) v0_ r1 ∧ IsS101 w0 w' g s0_0 r2 r3 ∧ Below w0.heap.size w0 w' ∧ KeepBut w w' g none := by
 have hu31 := Try.underlying31
 have HR1_1 := Aside0.mk hr1_1
 have HC1_1 := Aside0.mk hc1_1
 clear hr1_1 hc1_1
 have HI0 := Aside0.mk hI
 have HK := Aside0.mk (KeepBut.refl w g none)
 have HL := Aside0.mk hB.size
 clear hI
 have HW0 := Aside0.mk hB.size
 have HB := Aside0.mk hB
 clear hB
 have H : (spec_l04Draw.l0 k (([] : List Int)) 0 s0_0 s0_1 s0_2 a1_0 l1_1) = some (r1, r2, r3) := h
 clear h
 obtain ⟨y725, hy725⟩ : ∃ y_ : List Int, y_ = (([] : List Int)) := ⟨_, rfl⟩
 replace H : (spec_l04Draw.l0 k y725 0 s0_0 s0_1 s0_2 a1_0 l1_1) = some (r1, r2, r3) := by first | (rw [hy725]; with_reducible exact H) | (have H2_ := (Option.bind_some _ _).symm.trans H; rw [hy725]; with_reducible exact H2_) | (have H2_ := (Option.bind_some _ _).symm.trans H; with_reducible exact H2_) | with_reducible exact H | (rw [hy725]; exact H) | exact H
 have Ny725 := Aside0.mk hy725
 clear hy725
 have H' := Aside0.mk H
 clear H
 go_enter Try.func68, Try.ntmps68
 go_wp2_with (first | ((with_reducible refine gate_dst (N := 3) rfl ?_); refine box_event ?hg (N := 3) ?hd (cs := #[.int .i64 a1_0, .slice A1_1 l1_1.length c1_1]) (t := 31) ?hr ?_; (case hd => rfl); (case hg => rfl); (case hr => first | (go_simp; done) | (go_simp; rfl)); intro gb724 hg w3 hbox hb; replace HB := Aside0.mk (below_step (by repeat (first | (with_reducible first | exact HB.out | apply below_alloc | apply pw_below_drewN | apply below_drew1 | refine below_set ?_ (IsS101.ge HI0.out)) | exact HB.out)) hb); have BK724 := Aside0.mk (hbox); have GW724 := Aside0.mk ((by rw [hg]; exact (keep_size (w := w) (g := g) (row := none) (by repeat (first | (with_reducible first | exact HK.out | apply KeepBut.set_ | apply keep_drewN | apply keep_drew | apply keep_alloc) | exact HK.out))) : w.heap.size ≤ gb724)); have GE724 := Aside0.mk ((Nat.le_trans HW0.out (by rw [hg]; exact (keep_size (w := w) (g := g) (row := none) (by repeat (first | (with_reducible first | exact HK.out | apply KeepBut.set_ | apply keep_drewN | apply keep_drew | apply keep_alloc) | exact HK.out))) : w.heap.size ≤ gb724) : w0.heap.size ≤ gb724)); replace HK := Aside0.mk (KeepBut.trans (by repeat (first | (with_reducible first | exact HK.out | apply KeepBut.set_ | apply keep_drewN | apply keep_drew | apply keep_alloc) | exact HK.out)) (KeepBut.of_below hb g none) (.inl rfl)); have NB0_724 := Aside0.mk ((by rw [hg]; exact Nat.ne_of_lt (IsS101.lt (show IsS101 w0 _ g s0_0 s0_1 s0_2 from by repeat (first | (with_reducible first | exact HI0.out | apply IsS101.alloc | apply IsS101.drewN | apply IsS101.drew | apply IsS101.set_1 | apply IsS101.set_2) | exact HI0.out))) : g ≠ gb724)); have NB724_0 := Aside0.mk ((by rw [hg]; exact Nat.ne_of_gt (IsS101.lt (show IsS101 w0 _ g s0_0 s0_1 s0_2 from by repeat (first | (with_reducible first | exact HI0.out | apply IsS101.alloc | apply IsS101.drewN | apply IsS101.drew | apply IsS101.set_1 | apply IsS101.set_2) | exact HI0.out))) : gb724 ≠ g)); replace HI0 := Aside0.mk (IsS101.below (by repeat (first | (with_reducible first | exact HI0.out | apply IsS101.alloc | apply IsS101.drewN | apply IsS101.drew | apply IsS101.set_1 | apply IsS101.set_2) | exact HI0.out)) hb); clear hb hbox hg) | ((with_reducible refine gate_dst (N := 7) rfl ?_); refine Kd.R_lit (Kd.int .i64) _ 3 ?hg (N := 7) ?hd (xs := ([] : List Int)) (inner := []) (ok := fun _ => True) (okp := fun _ => True) ?hr ?hp (fun _ hk => hk) trivial (Below.refl _ _) (Nat.le_refl _) (by simp) ?_; (case hd => rfl); (case hg => rfl); (case hr => first | (go_simp; done) | (go_simp; rfl)); (case hp => exact (Reps.none _ _)); intro v726 w4 ho5 hb hg_ hnew_; clear hg_ hnew_; (first | rw [← Ny725.out] at ho5 | (simp only [Int.reduceToNat] at ho5; rw [← Ny725.out] at ho5)); have HO727 := Aside0.mk (Kd.R_lower ho5 (keep_size (w := w) (g := g) (row := none) (by repeat (first | (with_reducible first | exact HK.out | apply KeepBut.set_ | apply keep_drewN | apply keep_drew | apply keep_alloc | refine keep_far ?_ GW724.out _) | exact HK.out)))); replace BK724 := Aside0.mk (blk_below (g := gb724) (o := .cells #[.int .i64 a1_0, .slice A1_1 l1_1.length c1_1] 31 (0, 0)) (Bz BK724) hb); replace HK := Aside0.mk (KeepBut.trans (by repeat (first | (with_reducible first | exact HK.out | apply KeepBut.set_ | apply keep_drewN | apply keep_drew | apply keep_alloc | refine keep_far ?_ GW724.out _) | exact HK.out)) (KeepBut.of_below hb g none) (.inl rfl)); replace HB := Aside0.mk (below_step (by repeat (first | (with_reducible first | exact HB.out | apply below_alloc | apply pw_below_drewN | apply below_drew1 | refine below_set ?_ (IsS101.ge HI0.out) | refine below_set ?_ GE724.out) | exact HB.out)) hb); replace HI0 := Aside0.mk (IsS101.below (by repeat (first | (with_reducible first | exact HI0.out | apply IsS101.alloc | apply IsS101.drewN | apply IsS101.drew | apply IsS101.set_1 | apply IsS101.set_2 | refine IsS101.far ?_ NB0_724.out _) | exact HI0.out)) hb); clear hb ho5))
 go_loopg [5, 6] k (fun kq v5 v6 w' => ∃ (x5_1 : List Int) (x6_1 : Int) (x1001_1 : Int) (x1002_1 : Int), v6 = .int .i64 x6_1 ∧ Aside0 (spec_l04Draw.l0 kq x5_1 x6_1 s0_0 x1001_1 x1002_1 a1_0 l1_1 = some (r1, r2, r3)) ∧ Aside0 (kq ≤ k) ∧ Aside0 (Kd.R (Kd.int .i64) 3 w' w.heap.size (fun _ => True) v5 x5_1) ∧ Aside0 (w'.heap[gb724]? = some (.cells #[.int .i64 a1_0, (.slice A1_1 l1_1.length c1_1)] 31 (0, 0))) ∧ Aside0 (IsS101 w0 w' g s0_0 x1001_1 x1002_1) ∧ Aside0 (KeepBut w w' g none) ∧ Aside0 (Below w0.heap.size w0 w'))
 case atStart => exact ⟨(y725), (0), (s0_1), (s0_2), eqA, H', ⟨Nat.le_refl _⟩, ⟨by exact Rz HO727⟩, ⟨by exact Bz BK724⟩, ⟨by repeat (first | (with_reducible first | exact HI0.out | apply IsS101.alloc | apply IsS101.drewN | apply IsS101.drew | apply IsS101.set_1 | apply IsS101.set_2 | refine IsS101.far ?_ NB0_724.out _) | exact HI0.out)⟩, ⟨by repeat (first | (with_reducible first | exact HK.out | apply KeepBut.set_ | apply keep_drewN | apply keep_drew | apply keep_alloc | refine keep_far ?_ GW724.out _) | exact HK.out)⟩, ⟨by repeat (first | (with_reducible first | exact HB.out | apply below_alloc | apply pw_below_drewN | apply below_drew1 | refine below_set ?_ (IsS101.ge HI0.out) | refine below_set ?_ GE724.out) | exact HB.out)⟩⟩
 case round =>
  clear H'
  obtain ⟨x5_1, x6_1, x1001_1, x1002_1, rfl, HA, HK1, HO_5, BK724, HI0, HK, HB⟩ := hrel
  cases gk with
  | zero => exact absurd HA.out (by simp [spec_l04Draw.l0])
  | succ k1 =>
   have H := HA.out
   clear HA
   simp only [spec_l04Draw.l0] at H
   by_cases c6 : x6_1 < a1_0
   ·rw [if_pos c6] at H
    have c6b0 : decide (x6_1 < a1_0) = true := decide_eq_true c6
    clear c6
    replace H := Option.bind_eq_some_iff.mp H
    obtain ⟨⟨t728, t729, t730⟩, A70, H⟩ := H
    replace H : ((spec_l01Pick.f s0_0 t729 t730 (([0, 1, 2, (-1), 3, (-2), t728] : List Int))).bind fun bt734 => (if x5_1.length < 17592186044416 then (spec_l04Draw.l0 k1 (x5_1 ++ [bt734.1]) (wrap64 (x6_1 + 1)) s0_0 bt734.2.1 bt734.2.2 a1_0 l1_1) else (none))) = some (r1, r2, r3) := H
    have A7 := Aside0.mk A70
    clear A70
    obtain ⟨y731, hy731⟩ : ∃ y_ : List Int, y_ = (([0, 1, 2, (-1), 3, (-2), t728] : List Int)) := ⟨_, rfl⟩
    replace H : ((spec_l01Pick.f s0_0 t729 t730 y731).bind fun bt734 => (if x5_1.length < 17592186044416 then (spec_l04Draw.l0 k1 (x5_1 ++ [bt734.1]) (wrap64 (x6_1 + 1)) s0_0 bt734.2.1 bt734.2.2 a1_0 l1_1) else (none))) = some (r1, r2, r3) := by first | (rw [hy731]; with_reducible exact H) | (have H2_ := (Option.bind_some _ _).symm.trans H; rw [hy731]; with_reducible exact H2_) | (have H2_ := (Option.bind_some _ _).symm.trans H; with_reducible exact H2_) | with_reducible exact H | (rw [hy731]; exact H) | exact H
    have Ny731 := Aside0.mk hy731
    clear hy731
    replace H := Option.bind_eq_some_iff.mp H
    obtain ⟨⟨t734, t735, t736⟩, A80, H⟩ := H
    replace H : (if x5_1.length < 17592186044416 then (spec_l04Draw.l0 k1 (x5_1 ++ [t734]) (wrap64 (x6_1 + 1)) s0_0 t735 t736 a1_0 l1_1) else (none)) = some (r1, r2, r3) := H
    have A8 := Aside0.mk A80
    clear A80
    by_cases c9 : x5_1.length < 17592186044416
    ·rw [if_pos c9] at H
     have LMc9 := Aside0.mk c9
     clear c9
     obtain ⟨y737, hy737⟩ : ∃ y_ : List Int, y_ = (x5_1 ++ [t734]) := ⟨_, rfl⟩
     replace H : (spec_l04Draw.l0 k1 y737 (wrap64 (x6_1 + 1)) s0_0 t735 t736 a1_0 l1_1) = some (r1, r2, r3) := by first | (rw [hy737]; with_reducible exact H) | (have H2_ := (Option.bind_some _ _).symm.trans H; rw [hy737]; with_reducible exact H2_) | (have H2_ := (Option.bind_some _ _).symm.trans H; with_reducible exact H2_) | with_reducible exact H | (rw [hy737]; exact H) | exact H
     have Ny737 := Aside0.mk hy737
     clear hy737
     have H' := Aside0.mk H
     clear H
     have hnb10 := NB724_0.out
     have hnc10 := NB0_724.out
     have hcz11_0 : wr.cell? ⟨gb724, 0, none⟩ = some (.int .i64 a1_0) := (blk_cell BK724.out 0).trans rfl
     have hcz11_1 : wr.cell? ⟨gb724, 1, none⟩ = some (.slice A1_1 l1_1.length c1_1) := (blk_cell BK724.out 1).trans rfl
     have hfz11_0 := blk_frozen BK724.out 0
     have hfz11_1 := blk_frozen BK724.out 1
     go_wp2_with (first | ((with_reducible refine gate_callee (f := 75) rfl ?_); refine goesM_ (some 17) rfl rfl Try.func75 (by kernel_rfl) rfl #[.pointer (some ⟨g, 0, none⟩), .int .i64 7] rfl ?_; (with_reducible refine (spec_l01Below.calls g s0_0 x1001_1 x1002_1 7 t728 t729 t730 w0 _ ?side1 ?side2 A7.out).mono ?_); (case side1 => repeat (first | (with_reducible first | exact HI0.out | apply IsS101.alloc | apply IsS101.drewN | apply IsS101.drew | apply IsS101.set_1 | apply IsS101.set_2 | refine IsS101.far ?_ NB0_724.out _) | exact HI0.out)); (case side2 => repeat (first | (with_reducible first | exact HB.out | apply below_alloc | apply pw_below_drewN | apply below_drew1 | refine below_set ?_ (IsS101.ge HI0.out) | refine below_set ?_ GE724.out) | exact HB.out)); rintro e w12 ⟨rfl, hi, hb, hk⟩; refine ⟨_, rfl, ?_⟩; replace HO_5 := Aside0.mk (Kd.R_mono (Kd.R_keep (IsS101.apart (show IsS101 w0 _ g s0_0 x1001_1 x1002_1 from by repeat (first | (with_reducible first | exact HI0.out | apply IsS101.alloc | apply IsS101.drewN | apply IsS101.drew | apply IsS101.set_1 | apply IsS101.set_2 | refine IsS101.far ?_ NB0_724.out _) | exact HI0.out)) (Rz HO_5) (by decide)) hk (fun _ h => h.2)) (fun _ h => h.1)); replace BK724 := Aside0.mk (KeepBut.blk hk (g' := gb724) (o := .cells #[.int .i64 a1_0, .slice A1_1 l1_1.length c1_1] 31 (0, 0)) (Bz BK724) NB724_0.out (by simp)); replace HK := Aside0.mk (KeepBut.trans (by repeat (first | (with_reducible first | exact HK.out | apply KeepBut.set_ | apply keep_drewN | apply keep_drew | apply keep_alloc | refine keep_far ?_ GW724.out _) | exact HK.out)) hk (.inl rfl)); replace HB := Aside0.mk (hb); replace HI0 := Aside0.mk (hi); (try clear hb); (try clear hb2); (try clear hk); (try clear hi)) | ((with_reducible refine gate_dst (N := 18) rfl ?_); refine Kd.R_lit (Kd.int .i64) _ 3 ?hg (N := 18) ?hd (xs := ([0, 1, 2, (-1), 3, (-2), t728] : List Int)) (inner := [.int .i64 0, .int .i64 1, .int .i64 2, .int .i64 (-1), .int .i64 3, .int .i64 (-2), .int .i64 t728]) (ok := fun _ => True) (okp := fun _ => True) ?hr ?hp (fun _ hk => hk) trivial (Below.refl _ _) (Nat.le_refl _) (by simp) ?_; (case hd => rfl); (case hg => rfl); (case hr => first | (go_simp; done) | (go_simp; rfl)); (case hp => exact (Reps.one (show Kd.M (Kd.int .i64) _ _ _ 0 [.int .i64 0] from rfl) (Reps.one (show Kd.M (Kd.int .i64) _ _ _ 1 [.int .i64 1] from rfl) (Reps.one (show Kd.M (Kd.int .i64) _ _ _ 2 [.int .i64 2] from rfl) (Reps.one (show Kd.M (Kd.int .i64) _ _ _ (-1) [.int .i64 (-1)] from rfl) (Reps.one (show Kd.M (Kd.int .i64) _ _ _ 3 [.int .i64 3] from rfl) (Reps.one (show Kd.M (Kd.int .i64) _ _ _ (-2) [.int .i64 (-2)] from rfl) (Reps.one (show Kd.M (Kd.int .i64) _ _ _ t728 [.int .i64 t728] from rfl) (Reps.none _ _))))))))); intro v732 w13 ho14 hb hg_ hnew_; clear hg_ hnew_; (first | rw [← Ny731.out] at ho14 | (simp only [Int.reduceToNat] at ho14; rw [← Ny731.out] at ho14)); have HO733 := Aside0.mk (Kd.R_lower (Kd.R_new' ho14 (Kd.R_lt (Rz HO_5))) (keep_size (w := w) (g := g) (row := none) (by repeat (first | (with_reducible first | exact HK.out | apply KeepBut.set_ | apply keep_drewN | apply keep_drew | apply keep_alloc | refine keep_far ?_ GW724.out _) | exact HK.out)))); replace HO_5 := Aside0.mk (Kd.R_elder' (Rz HO_5) (Kd.R_base ho14) hb); replace BK724 := Aside0.mk (blk_below (g := gb724) (o := .cells #[.int .i64 a1_0, .slice A1_1 l1_1.length c1_1] 31 (0, 0)) (Bz BK724) hb); replace HK := Aside0.mk (KeepBut.trans (by repeat (first | (with_reducible first | exact HK.out | apply KeepBut.set_ | apply keep_drewN | apply keep_drew | apply keep_alloc | refine keep_far ?_ GW724.out _) | exact HK.out)) (KeepBut.of_below hb g none) (.inl rfl)); replace HB := Aside0.mk (below_step (by repeat (first | (with_reducible first | exact HB.out | apply below_alloc | apply pw_below_drewN | apply below_drew1 | refine below_set ?_ (IsS101.ge HI0.out) | refine below_set ?_ GE724.out) | exact HB.out)) hb); replace HI0 := Aside0.mk (IsS101.below (by repeat (first | (with_reducible first | exact HI0.out | apply IsS101.alloc | apply IsS101.drewN | apply IsS101.drew | apply IsS101.set_1 | apply IsS101.set_2 | refine IsS101.far ?_ NB0_724.out _) | exact HI0.out)) hb); clear hb ho14; obtain ⟨Ao15, co15, eo15⟩ := Kd.R_slice HO733.out; subst eo15) | ((with_reducible refine gate_callee (f := 108) rfl ?_); refine goesM_ (some 19) rfl rfl Try.func108 (by kernel_rfl) rfl #[.pointer (some ⟨g, 0, none⟩), .slice Ao15 y731.length co15] rfl ?_; (with_reducible refine (spec_l01Pick.calls g s0_0 t729 t730 _ _ y731 t734 t735 t736 w0 _ ?side1 ?side2 ?side3 ?side4 ?side5 A8.out).mono ?_); (case side1 => repeat (first | (with_reducible first | exact HI0.out | apply IsS101.alloc | apply IsS101.drewN | apply IsS101.drew | apply IsS101.set_1 | apply IsS101.set_2 | refine IsS101.far ?_ NB0_724.out _) | exact HI0.out)); (case side2 => repeat (first | (with_reducible first | exact HB.out | apply below_alloc | apply pw_below_drewN | apply below_drew1 | refine below_set ?_ (IsS101.ge HI0.out) | refine below_set ?_ GE724.out) | exact HB.out)); (case side3 => exact Cz ((Kd.R_reads' HO733.out).2.2)); (case side4 => exact (Kd.R_reads' HO733.out).2.1); (case side5 => exact far_slice (IsS101.own_ne HI0.out HO733.out (by decide))); rintro e w16 ⟨rfl, hi, hb, hk⟩; refine ⟨_, rfl, ?_⟩; replace HO_5 := Aside0.mk (Kd.R_mono (Kd.R_keep (IsS101.apart (show IsS101 w0 _ g s0_0 t729 t730 from by repeat (first | (with_reducible first | exact HI0.out | apply IsS101.alloc | apply IsS101.drewN | apply IsS101.drew | apply IsS101.set_1 | apply IsS101.set_2 | refine IsS101.far ?_ NB0_724.out _) | exact HI0.out)) (Rz HO_5) (by decide)) hk (fun _ h => h.2)) (fun _ h => h.1)); replace BK724 := Aside0.mk (KeepBut.blk hk (g' := gb724) (o := .cells #[.int .i64 a1_0, .slice A1_1 l1_1.length c1_1] 31 (0, 0)) (Bz BK724) NB724_0.out (by simp)); replace HO733 := Aside0.mk (Kd.R_mono (Kd.R_keep (IsS101.apart (show IsS101 w0 _ g s0_0 t729 t730 from by repeat (first | (with_reducible first | exact HI0.out | apply IsS101.alloc | apply IsS101.drewN | apply IsS101.drew | apply IsS101.set_1 | apply IsS101.set_2 | refine IsS101.far ?_ NB0_724.out _) | exact HI0.out)) (Rz HO733) (by decide)) hk (fun _ h => h.2)) (fun _ h => h.1)); replace HK := Aside0.mk (KeepBut.trans (by repeat (first | (with_reducible first | exact HK.out | apply KeepBut.set_ | apply keep_drewN | apply keep_drew | apply keep_alloc | refine keep_far ?_ GW724.out _) | exact HK.out)) hk (.inl rfl)); replace HB := Aside0.mk (hb); replace HI0 := Aside0.mk (hi); (try clear hb); (try clear hb2); (try clear hk); (try clear hi)) | ((with_reducible refine gate_builtin (b := .append) (xs := #[.tmp 14, .tmp 20]) rfl ?_); at_builtin; refine Kd.R_append (Kd.int .i64) w.heap.size rfl (.tmp 14) (.tmp 20) 25 3 (.int .i64 0) 8 rfl Try.underlying25 info3 rfl (by decide) (by omega) u5 x5_1 t734 [.int .i64 t734] (fun k_ => some k_ ≠ (.slice Ao15 y731.length co15 : Value).ownBlock) (fun _ => False) rfl rfl ?aP (fun _ hk => hk.elim) ?aF ?aO (Below.refl _ _) ?aS ?aL ?_; (case aP => exact rfl); (case aF => exact (fun k_ hk => Kd.fresh' (Kd.R_lt (Rz HO733)) k_ hk)); (case aO => exact (by (with_reducible repeat (first | apply Kd.R_alloc | apply Kd.R_drewN | apply Kd.R_drew)); exact Kd.R_mono HO_5.out (fun _ hk => hk.2))); (case aS => exact (keep_size (w := w) (g := g) (row := none) (by repeat (first | (with_reducible first | exact HK.out | apply KeepBut.set_ | apply keep_drewN | apply keep_drew | apply keep_alloc | refine keep_far ?_ GW724.out _) | exact HK.out)))); (case aL => have := LMc9.out; omega); intro v738 w17 ho hb hg hat; rw [← Ny737.out] at ho; replace BK724 := Aside0.mk (blk_grown (g := gb724) (o := .cells #[.int .i64 a1_0, .slice A1_1 l1_1.length c1_1] 31 (0, 0)) (Bz BK724) hg (Kd.R_ne HO_5.out BK724.out (by decide))); replace HO733 := Aside0.mk (Kd.R_after (ok := (fun _ => True)) (Rz HO733) hg hat); replace HB := Aside0.mk (below_weaken (by repeat (first | (with_reducible first | exact HB.out | apply below_alloc | apply pw_below_drewN | apply below_drew1 | refine below_set ?_ (IsS101.ge HI0.out) | refine below_set ?_ GE724.out) | exact HB.out)) HL.out hb); replace HI0 := Aside0.mk (IsS101.grownF HI0.out (by repeat (first | (with_reducible first | exact HI0.out | apply IsS101.alloc | apply IsS101.drewN | apply IsS101.drew | apply IsS101.set_1 | apply IsS101.set_2 | refine IsS101.far ?_ NB0_724.out _) | exact HI0.out)) hg (IsS101.own_ne HI0.out HO_5.out (by decide))); replace HK := Aside0.mk (KeepBut.trans (by repeat (first | (with_reducible first | exact HK.out | apply KeepBut.set_ | apply keep_drewN | apply keep_drew | apply keep_alloc | refine keep_far ?_ GW724.out _) | exact HK.out)) (KeepBut.of_grown hg g) (Kd.R_base2 HO_5.out)); have HO739 := Aside0.mk (ho); clear HO_5; clear ho hb hg hat))
     go_roundg k1
     case measure => have := HK1.out; omega
     case rel => exact ⟨(y737), (wrap64 (x6_1 + 1)), (t735), (t736), eqA, H', ⟨by have := HK1.out; omega⟩, ⟨by (with_reducible repeat (first | apply Kd.R_alloc | apply Kd.R_drewN | apply Kd.R_drew)); exact Kd.R_mono HO739.out (fun _ hk => trivial)⟩, ⟨by exact Bz BK724⟩, ⟨by repeat (first | (with_reducible first | exact HI0.out | apply IsS101.alloc | apply IsS101.drewN | apply IsS101.drew | apply IsS101.set_1 | apply IsS101.set_2 | refine IsS101.far ?_ NB0_724.out _) | exact HI0.out)⟩, ⟨by repeat (first | (with_reducible first | exact HK.out | apply KeepBut.set_ | apply keep_drewN | apply keep_drew | apply keep_alloc | refine keep_far ?_ GW724.out _) | exact HK.out)⟩, ⟨by repeat (first | (with_reducible first | exact HB.out | apply below_alloc | apply pw_below_drewN | apply below_drew1 | refine below_set ?_ (IsS101.ge HI0.out) | refine below_set ?_ GE724.out) | exact HB.out)⟩⟩
    rw [if_neg c9] at H
    exact absurd H (by simp)
   rw [if_neg c6] at H
   have c6b0 : decide (x6_1 < a1_0) = false := decide_eq_false c6
   clear c6
   simp only [Option.some.injEq, Prod.mk.injEq] at H
   obtain ⟨rfl, rfl, rfl⟩ := H
   have hnb18 := NB724_0.out
   have hnc18 := NB0_724.out
   have hcz19_0 : wr.cell? ⟨gb724, 0, none⟩ = some (.int .i64 a1_0) := (blk_cell BK724.out 0).trans rfl
   have hcz19_1 : wr.cell? ⟨gb724, 1, none⟩ = some (.slice A1_1 l1_1.length c1_1) := (blk_cell BK724.out 1).trans rfl
   have hfz19_0 := blk_frozen BK724.out 0
   have hfz19_1 := blk_frozen BK724.out 1
   go_wp2
   go_ret
   exact ⟨_, by first | rfl | (simp [errW_none, errW_some] <;> rfl) | (simp [*, errW_none, errW_some] <;> rfl), by exact Rz HO_5, by repeat (first | (with_reducible first | exact HI0.out | apply IsS101.alloc | apply IsS101.drewN | apply IsS101.drew | apply IsS101.set_1 | apply IsS101.set_2 | refine IsS101.far ?_ NB0_724.out _) | exact HI0.out), by repeat (first | (with_reducible first | exact HB.out | apply below_alloc | apply pw_below_drewN | apply below_drew1 | refine below_set ?_ (IsS101.ge HI0.out) | refine below_set ?_ GE724.out) | exact HB.out), by repeat (first | (with_reducible first | exact HK.out | apply KeepBut.set_ | apply keep_drewN | apply keep_drew | apply keep_alloc | refine keep_far ?_ GW724.out _) | exact HK.out)⟩
def spec_l21New.l0 : Nat → Int → Int → List Int → Int → Int → Option (List Int × Int × Int)
 | 0, _, _, _, _, _ => none
 | k + 1, x1, x6, s0, s1, s2 => if x6 < x1 then ((spec_l01Byte.f s0 s1 s2).bind fun bt => (spec_l21New.l0 k x1 (wrap64 (x6 + 1)) s0 bt.2.1 bt.2.2)) else (some (s0, s1, s2))
def spec_l21New.f (k : Nat) (l0 : List Int) (a1 : Int) : Option (List Int × Int × Int) := (spec_l01New.f k l0).bind fun bt => (spec_l21New.l0 k a1 0 bt.1 bt.2.1 bt.2.2)
theorem spec_l21New.belowK {w0 w W W1 : World} {g : Nat} (h0 : Below w0.heap.size w0 w) (h : Below w.heap.size w W) (h1 : Below w0.heap.size w0 W1) (hk : KeepBut W W1 g none) (hg : w.heap.size ≤ g) : Below w.heap.size w W1 :=
 ⟨h1.os.trans h0.os.symm, h1.tape.trans h0.tape.symm, h1.output.trans h0.output.symm, Nat.le_trans h.size hk.1, fun i hi => (hk.2 i (Nat.lt_of_lt_of_le hi h.size) (by omega) (by simp)).trans (h.block i hi)⟩
set_option maxHeartbeats 8000000 in
set_option maxRecDepth 100000 in
theorem spec_l21New.calls (k : Nat) (A0 : Option Addr) (c0 : Nat) (l0 : List Int) (a1 : Int) (r1 : List Int) (r2 : Int) (r3 : Int) (w0 w : World) (hB : Below w0.heap.size w0 w) (hr0 : Kd.C (Kd.int .u8) w0 A0 l0.length l0) (hc0 : l0.length ≤ c0) (h : spec_l21New.f k l0 a1 = some (r1, r2, r3)) :
  Calls Try.prog 69 #[.slice A0 l0.length c0, .int .i64 a1] w fun e w' => ∃ g_ : Nat, e = .returned (.pointer (some ⟨g_, 0, none⟩)) ∧ IsS101 w0 w' g_ r1 r2 r3 ∧ Below w0.heap.size w0 w' ∧ Below w.heap.size w w' := by
 have hu101 := Try.underlying101
 have HR0 := Aside0.mk hr0
 have HC0 := Aside0.mk hc0
 clear hr0 hc0
 have HBW := Aside0.mk (Below.refl w.heap.size w)
 have HBo := Aside0.mk hB
 have HB := Aside0.mk hB
 clear hB
 have H : ((spec_l01New.f k l0).bind fun bt => (spec_l21New.l0 k a1 0 bt.1 bt.2.1 bt.2.2)) = some (r1, r2, r3) := h
 clear h
 replace H := Option.bind_eq_some_iff.mp H
 obtain ⟨⟨t1, t2, t3⟩, A20, H⟩ := H
 replace H : spec_l21New.l0 k a1 0 t1 t2 t3 = some (r1, r2, r3) := H
 have A2 := Aside0.mk A20
 clear A20
 have H' := Aside0.mk H
 clear H
 go_enter Try.func69, Try.ntmps69
 go_wp2_with (first | ((with_reducible refine gate_callee (f := 67) rfl ?_); refine goesM_ (some 8) rfl rfl Try.func67 (by kernel_rfl) rfl #[.slice A0 l0.length c0] rfl ?_; (with_reducible refine (spec_l01New.callsX k _ _ l0 t1 t2 t3 w0 _ ?side1 ?side2 ?side3 A2.out).mono ?_); (case side1 => exact Lz HB); (case side2 => exact HR0.out); (case side3 => exact HC0.out); rintro e w5 ⟨g1, rfl, hi, hb, hb2, hg⟩; refine ⟨_, rfl, ?_⟩; have GW1 := Aside0.mk (Nat.le_trans (below_size (Lz HBW)) hg : w.heap.size ≤ g1); replace HB := Aside0.mk hb; replace HBW := Aside0.mk (below_step (Lz HBW) hb2); have HI1 := Aside0.mk hi; clear hb hb2 hi hg))
 go_loopg [6] k (fun kq v6 w' => ∃ (x6_1 : Int) (s1_1 : Int) (s2_1 : Int), v6 = .int .i64 x6_1 ∧ Aside0 (spec_l21New.l0 kq a1 x6_1 t1 s1_1 s2_1 = some (r1, r2, r3)) ∧ Aside0 (kq ≤ k) ∧ Aside0 (IsS101 w0 w' g1 t1 s1_1 s2_1) ∧ Aside0 (Below w0.heap.size w0 w') ∧ Aside0 (Below w.heap.size w w'))
 case atStart => exact ⟨(0), t2, t3, eqA, H', ⟨Nat.le_refl _⟩, ⟨by repeat (first | (with_reducible first | exact HI1.out | apply IsS101.alloc | apply IsS101.drewN | apply IsS101.drew) | exact HI1.out)⟩, ⟨by exact Lz HB⟩, ⟨by exact Lz HBW⟩⟩
 case round =>
  clear H' HI1 HB HBW
  obtain ⟨x6_1, s1_1, s2_1, rfl, HA, HK1, HI1, HB, HBW⟩ := hrel
  cases gk with
  | zero => exact absurd HA.out (by simp [spec_l21New.l0])
  | succ k1 =>
   have H := HA.out
   clear HA
   simp only [spec_l21New.l0] at H
   by_cases c2 : x6_1 < a1
   ·rw [if_pos c2] at H
    have c2b0 : decide (x6_1 < a1) = true := decide_eq_true c2
    clear c2
    replace H := Option.bind_eq_some_iff.mp H
    obtain ⟨⟨b1, b2, b3⟩, A30, H⟩ := H
    replace H : spec_l21New.l0 k1 a1 (wrap64 (x6_1 + 1)) t1 b2 b3 = some (r1, r2, r3) := H
    have A3 := Aside0.mk A30
    clear A30
    have H' := Aside0.mk H
    clear H
    go_wp2_with (first | ((with_reducible refine gate_callee (f := 70) rfl ?_); refine goesM_ (some 15) rfl rfl Try.func70 (by kernel_rfl) rfl #[.pointer (some ⟨g1, 0, none⟩)] rfl ?_; (with_reducible refine (spec_l01Byte.calls g1 t1 s1_1 s2_1 b1 b2 b3 w0 _ ?side1 ?side2 A3.out).mono ?_); (case side1 => repeat (first | (with_reducible first | exact HI1.out | apply IsS101.alloc | apply IsS101.drewN | apply IsS101.drew) | exact HI1.out)); (case side2 => exact Lz HB); rintro e w7 ⟨rfl, hi, hb, hk⟩; refine ⟨_, rfl, ?_⟩; replace HBW := Aside0.mk (spec_l21New.belowK HBo.out (Lz HBW) hb hk GW1.out); replace HB := Aside0.mk hb; replace HI1 := Aside0.mk hi; clear hb hi hk))
    go_roundg k1
    case measure => have := HK1.out; omega
    case rel => exact ⟨(wrap64 (x6_1 + 1)), b2, b3, eqA, H', ⟨by have := HK1.out; omega⟩, ⟨by repeat (first | (with_reducible first | exact HI1.out | apply IsS101.alloc | apply IsS101.drewN | apply IsS101.drew) | exact HI1.out)⟩, ⟨by exact Lz HB⟩, ⟨by exact Lz HBW⟩⟩
   rw [if_neg c2] at H
   have c2b0 : decide (x6_1 < a1) = false := decide_eq_false c2
   clear c2
   have H1 := Option.some.inj H
   simp only [Prod.mk.injEq] at H1
   obtain ⟨rfl, rfl, rfl⟩ := H1
   clear H
   go_wp2
   go_ret
   exact ⟨_, rfl, by repeat (first | (with_reducible first | exact HI1.out | apply IsS101.alloc | apply IsS101.drewN | apply IsS101.drew) | exact HI1.out), by exact Lz HB, by exact Lz HBW⟩
def spec_MakeDivisor.f (k : Nat) (l0 : List Int) (a1 : Int) (a2_0 : Int) (l2_1 : List (S67)) : Option (List Int) := (spec_l21New.f k l0 a1).bind fun bt741 => ((spec_l04Draw.f k bt741.1 bt741.2.1 bt741.2.2 a2_0 l2_1).bind fun bt745 => (some bt745.1))
set_option maxHeartbeats 8000000 in
set_option maxRecDepth 100000 in
theorem spec_MakeDivisor.calls (k : Nat) (A0 : Option Addr) (c0 : Nat) (l0 : List Int) (a1 : Int) (a2_0 : Int) (A2_1 : Option Addr) (c2_1 : Nat) (l2_1 : List (S67)) (r : List Int) (w : World) (hr0 : Kd.C (Kd.int .u8) w A0 l0.length l0) (hc0 : l0.length ≤ c0) (hr2_1 : Kd.C k67 w A2_1 l2_1.length l2_1) (hc2_1 : l2_1.length ≤ c2_1) (h : spec_MakeDivisor.f k l0 a1 a2_0 l2_1 = some r) :
  Calls Try.prog 23 #[.slice A0 l0.length c0, .int .i64 a1, .agg #[.int .i64 a2_0, .slice A2_1 l2_1.length c2_1]] w fun e w' => ∃ v0_ : Value, e = .returned (v0_) ∧ Kd.R (Kd.int .i64) 3 w' w.heap.size (fun _ => True) v0_ r ∧ Below w.heap.size w w' := by
 have hu31 := Try.underlying31
 have HR0 := Aside0.mk hr0
 have HC0 := Aside0.mk hc0
 clear hr0 hc0
 have HR2_1 := Aside0.mk hr2_1
 have HC2_1 := Aside0.mk hc2_1
 clear hr2_1 hc2_1
 have HB := Aside0.mk (Below.refl w.heap.size w)
 have H : ((spec_l21New.f k l0 a1).bind fun bt741 => ((spec_l04Draw.f k bt741.1 bt741.2.1 bt741.2.2 a2_0 l2_1).bind fun bt745 => (some bt745.1))) = some r := h
 clear h
 replace H := Option.bind_eq_some_iff.mp H
 obtain ⟨⟨t741, t742, t743⟩, A40, H⟩ := H
 replace H : ((spec_l04Draw.f k t741 t742 t743 a2_0 l2_1).bind fun bt745 => (some bt745.1)) = some r := H
 have A4 := Aside0.mk A40
 clear A40
 replace H := Option.bind_eq_some_iff.mp H
 obtain ⟨⟨t745, t748, t749⟩, A50, H⟩ := H
 replace H : (some t745) = some r := H
 have A5 := Aside0.mk A50
 clear A50
 obtain rfl := Option.some.inj H
 go_enter Try.func23, Try.ntmps23
 try go_wp2_with (first | ((with_reducible refine gate_dst (N := 5) rfl ?_); refine box_event ?hg (N := 5) ?hd (cs := #[.int .i64 a2_0, .slice A2_1 l2_1.length c2_1]) (t := 31) ?hr ?_; (case hd => rfl); (case hg => rfl); (case hr => first | (go_simp; done) | (go_simp; rfl)); intro gb740 hg w6 hbox hb; have BK740 := Aside0.mk (hbox); have GW740 := Aside0.mk ((by rw [hg]; exact (below_size (Lz HB)) : w.heap.size ≤ gb740)); have GE740 := Aside0.mk ((by rw [hg]; exact (below_size (Lz HB)) : w.heap.size ≤ gb740)); replace HB := Aside0.mk (below_step (Lz HB) hb); clear hb hbox hg))
 replace BK740 := Aside0.mk (blk_drew BK740.out)
 replace HB := Aside0.mk (below_drew1 HB.out)
 refine start_ (n := 6) (S := fun w' => w'.cell? ⟨gb740, 0, none⟩ = some (.int .i64 a2_0) ∧ w'.cell? ⟨gb740, 1, none⟩ = some (.slice A2_1 l2_1.length c2_1)) (ds := []) #[false, false, false, false, false, false] (by kernel_rfl) rfl rfl ⟨(blk_cell BK740.out 0).trans rfl, (blk_cell BK740.out 1).trans rfl⟩ (fun hHeld => ?_)
 generalize w6.drew = w7 at BK740 HB hHeld ⊢
 refine pure_ (i := 0) (N := some 7) (v := ?_) (a' := ?_) #[true, false, false, false, false, false] rfl rfl (by kernel_rfl) (fun _ _ _ h => h) (Or.inl ⟨by rfl, ?_⟩) ?_ ?_
 rotate_left
 ·intro w'
  go_simp
  with_reducible rfl
 rotate_left
 ·simp only [Act.put, List.setIfInBounds_toArray, List.set_cons_zero, List.set_cons_succ, i64_w, i32_w]
  rfl
 refine pure_ (i := 1) (N := some 8) (v := ?_) (a' := ?_) #[true, true, false, false, false, false] rfl rfl (by kernel_rfl) (fun _ _ _ h => h) (Or.inl ⟨by rfl, ?_⟩) ?_ ?_
 rotate_left
 ·intro w'
  go_simp
  with_reducible rfl
 rotate_left
 ·simp only [Act.put, List.setIfInBounds_toArray, List.set_cons_zero, List.set_cons_succ, i64_w, i32_w]
  rfl
 refine take_ (i := 3) (N := some 10) (v := ?_) (a' := ?_) #[true, true, false, true, false, false] rfl rfl (by kernel_rfl) (fun _ _ _ h => h) (Or.inl ⟨by rfl, ?_⟩) hHeld ?_ ?_
 rotate_left
 ·rintro w' ⟨s0, s1⟩
  go_simp
  with_reducible rfl
 rotate_left
 ·simp only [Act.put, List.setIfInBounds_toArray, List.set_cons_zero, List.set_cons_succ, i64_w, i32_w]
  rfl
 refine one_ (i := 2) (N := some 9) #[true, true, true, true, false, false] rfl rfl (by kernel_rfl) (by decide) (fun K hK => ?_)
 refine goes_ Try.func69 (by kernel_rfl) rfl #[.slice A0 l0.length c0, .int .i64 a1] (by rfl) rfl rfl (by (try simp only [List.map_toArray, List.map_cons, List.map_nil]); first | done | rfl | (simp only [List.length_drop, List.length_take]; rfl)) ?_
 with_reducible refine (spec_l21New.calls k _ _ l0 a1 t741 t742 t743 w _ ?side1 ?side2 ?side3 A4.out).mono ?_
 (case side1 => exact Lz1 HB GE740)
 (case side2 => exact HR0.out)
 (case side3 => exact HC0.out)
 rintro e w8 ⟨g744, rfl, hi, hb, hb2⟩
 refine ⟨_, rfl, ?_⟩
 replace HB := Aside0.mk (hb)
 have HI744 := Aside0.mk (hi)
 have NB744_740 := Aside0.mk (IsS101.ne_blk hi (blk_below (g := gb740) (o := .cells #[.int .i64 a2_0, .slice A2_1 l2_1.length c2_1] 31 (0, 0)) (Bz BK740) hb2) (by decide))
 have NB740_744 := Aside0.mk (Ne.symm (IsS101.ne_blk hi (blk_below (g := gb740) (o := .cells #[.int .i64 a2_0, .slice A2_1 l2_1.length c2_1] 31 (0, 0)) (Bz BK740) hb2) (by decide)))
 replace BK740 := Aside0.mk (blk_below (g := gb740) (o := .cells #[.int .i64 a2_0, .slice A2_1 l2_1.length c2_1] 31 (0, 0)) (Bz BK740) hb2)
 (try clear hb)
 (try clear hb2)
 (try clear hk)
 (try clear hi)
 refine hK.out _ _ ⟨(blk_cell BK740.out 0).trans rfl, (blk_cell BK740.out 1).trans rfl⟩ (fun hHeld => ?_)
 clear hK K
 refine norm_ (a' := ?_) ?_ ?_
 rotate_left
 ·show Act.put _ (some 9) _ = _
  simp only [Act.put, List.setIfInBounds_toArray, List.set_cons_zero, List.set_cons_succ, i64_w, i32_w]
  rfl
 refine one_ (i := 4) (N := some 11) #[true, true, true, true, true, false] rfl rfl (by kernel_rfl) (by decide) (fun K hK => ?_)
 refine goes_ Try.func68 (by kernel_rfl) rfl #[.pointer (some ⟨g744, 0, none⟩), .agg #[.int .i64 a2_0, .slice A2_1 l2_1.length c2_1]] (by rfl) rfl rfl (by (try simp only [List.map_toArray, List.map_cons, List.map_nil]); first | done | rfl | (simp only [List.length_drop, List.length_take]; rfl)) ?_
 with_reducible refine (spec_l04Draw.calls k g744 t741 t742 t743 a2_0 _ _ l2_1 t745 t748 t749 w _ ?side1 ?side2 ?side3 ?side4 A5.out).mono ?_
 (case side1 => repeat (first | (with_reducible first | exact HI744.out | apply IsS101.alloc | apply IsS101.drewN | apply IsS101.drew | apply IsS101.set_1 | apply IsS101.set_2 | refine IsS101.far ?_ NB744_740.out _) | exact HI744.out))
 (case side2 => repeat (first | (with_reducible first | exact HB.out | apply below_alloc | apply pw_below_drewN | apply below_drew1 | refine below_set ?_ (IsS101.ge HI744.out) | refine below_set ?_ GE740.out) | exact HB.out))
 (case side3 => exact Kd.C_foot_came k67_heap HR2_1.out (by repeat (first | (with_reducible first | exact HB.out | apply below_alloc | apply pw_below_drewN | apply below_drew1 | refine below_set ?_ (IsS101.ge HI744.out) | refine below_set ?_ GE740.out) | exact HB.out)) (IsS101.ge HI744.out))
 (case side4 => exact HC2_1.out)
 rintro e w9 ⟨v746, rfl, ho0, hi, hb, hk⟩
 refine ⟨_, rfl, ?_⟩
 replace BK740 := Aside0.mk (KeepBut.blk hk (g' := gb740) (o := .cells #[.int .i64 a2_0, .slice A2_1 l2_1.length c2_1] 31 (0, 0)) (Bz BK740) NB740_744.out (by simp))
 have HO747 := Aside0.mk (Kd.R_lower ho0 (below_size (by repeat (first | (with_reducible first | exact HB.out | apply below_alloc | apply pw_below_drewN | apply below_drew1 | refine below_set ?_ (IsS101.ge HI744.out) | refine below_set ?_ GE740.out) | exact HB.out))))
 replace HB := Aside0.mk (hb)
 replace HI744 := Aside0.mk (hi)
 (try clear hb)
 (try clear hb2)
 (try clear hk)
 (try clear hi)
 (try clear ho0)
 refine hK.out _ _ ⟨(blk_cell BK740.out 0).trans rfl, (blk_cell BK740.out 1).trans rfl⟩ (fun hHeld => ?_)
 clear hK K
 refine norm_ (a' := ?_) ?_ ?_
 rotate_left
 ·show Act.put _ (some 11) _ = _
  simp only [Act.put, List.setIfInBounds_toArray, List.set_cons_zero, List.set_cons_succ, i64_w, i32_w]
  rfl
 refine pure_ (i := 5) (N := some 6) (v := ?_) (a' := ?_) #[true, true, true, true, true, true] rfl rfl (by kernel_rfl) (fun _ _ _ h => h) (Or.inl ⟨by rfl, ?_⟩) ?_ ?_
 rotate_left
 ·intro w'
  go_simp
  with_reducible rfl
 rotate_left
 ·simp only [Act.put, List.setIfInBounds_toArray, List.set_cons_zero, List.set_cons_succ, i64_w, i32_w]
  rfl
 refine done_ (by kernel_rfl) ?_
 try go_wp2
 go_ret
 exact ⟨_, by first | rfl | (simp [errW_none, errW_some] <;> rfl) | (simp [*, errW_none, errW_some] <;> rfl), by exact Rz HO747, by repeat (first | (with_reducible first | exact HB.out | apply below_alloc | apply pw_below_drewN | apply below_drew1 | refine below_set ?_ (IsS101.ge HI744.out) | refine below_set ?_ GE740.out) | exact HB.out)⟩
def impl_ScriptOk.f (k : Nat) (a0_0 : Int) (l0_1 : List (S67)) (l1 : List Int) : Option (Bool) := (impl_GraphOk.f k a0_0 l0_1).bind fun t770 => (if t770 = true then (if (l1.length : Int) = a0_0 then ((impl_allWithin.f k l1 (-100000) 100000).bind fun t771 => (some t771)) else (some false)) else (some false))
set_option maxHeartbeats 8000000 in
set_option maxRecDepth 100000 in
theorem impl_ScriptOk.calls (k : Nat) (a0_0 : Int) (A0_1 : Option Addr) (c0_1 : Nat) (l0_1 : List (S67)) (A1 : Option Addr) (c1 : Nat) (l1 : List Int) (r : Bool) (w : World) (hr0_1 : Kd.C k67 w A0_1 l0_1.length l0_1) (hc0_1 : l0_1.length ≤ c0_1) (hr1 : Kd.C (Kd.int .i64) w A1 l1.length l1) (hc1 : l1.length ≤ c1) (h : impl_ScriptOk.f k a0_0 l0_1 l1 = some r) :
  Calls Try.prog 40 #[.agg #[.int .i64 a0_0, .slice A0_1 l0_1.length c0_1], .slice A1 l1.length c1] w fun e w' => e = .returned (.bool r) ∧ Below w.heap.size w w' := by
 have hu31 := Try.underlying31
 have HR0_1 := Aside0.mk hr0_1
 have HC0_1 := Aside0.mk hc0_1
 clear hr0_1 hc0_1
 have HR1 := Aside0.mk hr1
 have HC1 := Aside0.mk hc1
 clear hr1 hc1
 have HB := Aside0.mk (Below.refl w.heap.size w)
 have H : ((impl_GraphOk.f k a0_0 l0_1).bind fun t770 => (if t770 = true then (if (l1.length : Int) = a0_0 then ((impl_allWithin.f k l1 (-100000) 100000).bind fun t771 => (some t771)) else (some false)) else (some false))) = some r := h
 clear h
 replace H := Option.bind_eq_some_iff.mp H
 obtain ⟨t770, A30, H⟩ := H
 replace H : (if t770 = true then (if (l1.length : Int) = a0_0 then ((impl_allWithin.f k l1 (-100000) 100000).bind fun t771 => (some t771)) else (some false)) else (some false)) = some r := H
 have A3 := Aside0.mk A30
 clear A30
 by_cases c4 : t770 = true
 ·subst c4
  have H1 : (if (l1.length : Int) = a0_0 then ((impl_allWithin.f k l1 (-100000) 100000).bind fun t771 => (some t771)) else (some false)) = some r := by rw [if_pos rfl] at H; exact H
  clear H
  have H := H1
  clear H1
  by_cases c5 : (l1.length : Int) = a0_0
  ·rw [if_pos c5] at H
   have c5b0 : ((l1.length : Int) == a0_0) = true := beq_iff_eq.mpr c5
   have c5b1 : ((l1.length : Int) != a0_0) = false := bne_eq_false_iff_eq.mpr c5
   clear c5
   replace H := Option.bind_eq_some_iff.mp H
   obtain ⟨t771, A60, H⟩ := H
   replace H : (some t771) = some r := H
   have A6 := Aside0.mk A60
   clear A60
   obtain rfl := Option.some.inj H
   go_enter Try.func40, Try.ntmps40
   go_wp2_with (first | ((with_reducible refine gate_dst (N := 2) rfl ?_); (try (refine gate_guard (by rfl) ?_; dsimp only)); refine box_event ?hg (N := 2) ?hd (cs := #[.int .i64 a0_0, .slice A0_1 l0_1.length c0_1]) (t := 31) ?hr ?_; (case hd => rfl); (case hg => rfl); (case hr => first | (go_simp; done) | (go_simp; rfl)); intro gb769 hg w7 hbox hb; have BK769 := Aside0.mk (hbox); have GW769 := Aside0.mk ((by rw [hg]; exact (below_size (Lz HB)) : w.heap.size ≤ gb769)); have GE769 := Aside0.mk ((by rw [hg]; exact (below_size (Lz HB)) : w.heap.size ≤ gb769)); replace HB := Aside0.mk (below_step (Lz HB) hb); clear hb hbox hg; have hcz8_0 : w7.cell? ⟨gb769, 0, none⟩ = some (.int .i64 a0_0) := (blk_cell BK769.out 0).trans rfl; have hcz8_1 : w7.cell? ⟨gb769, 1, none⟩ = some (.slice A0_1 l0_1.length c0_1) := (blk_cell BK769.out 1).trans rfl; have hfz8_0 := blk_frozen BK769.out 0; have hfz8_1 := blk_frozen BK769.out 1) | ((with_reducible refine gate_callee (f := 50) rfl ?_); refine goesM_ (some 6) rfl rfl Try.func50 (by kernel_rfl) rfl #[.agg #[.int .i64 a0_0, .slice A0_1 l0_1.length c0_1]] rfl ?_; (with_reducible refine (impl_GraphOk.calls k a0_0 _ _ l0_1 true _ ?side1 ?side2 A3.out).mono ?_); (case side1 => exact Cz ((Kd.C_below HR0_1.out HB.out))); (case side2 => exact HC0_1.out); rintro e w9 ⟨rfl, hb⟩; refine ⟨_, rfl, ?_⟩; replace BK769 := Aside0.mk (blk_below (g := gb769) (o := .cells #[.int .i64 a0_0, .slice A0_1 l0_1.length c0_1] 31 (0, 0)) (Bz BK769) hb); replace HB := Aside0.mk (below_step (by exact Lz1 HB GE769) hb); (try clear hb); (try clear hb2); (try clear hk); (try clear hi); have hcz10_0 : w9.cell? ⟨gb769, 0, none⟩ = some (.int .i64 a0_0) := (blk_cell BK769.out 0).trans rfl; have hcz10_1 : w9.cell? ⟨gb769, 1, none⟩ = some (.slice A0_1 l0_1.length c0_1) := (blk_cell BK769.out 1).trans rfl; have hfz10_0 := blk_frozen BK769.out 0; have hfz10_1 := blk_frozen BK769.out 1) | (go_at_call 80; (with_reducible refine (impl_allWithin.calls k _ _ l1 (-100000) 100000 t771 _ ?side1 ?side2 A6.out).mono ?_); (case side1 => exact Cz ((Kd.C_below HR1.out HB.out))); (case side2 => exact HC1.out); rintro e w' ⟨rfl, ⟨nd, rfl⟩⟩))
   go_ret
   exact ⟨by first | rfl | (simp [errW_none, errW_some] <;> rfl) | (simp [*, errW_none, errW_some] <;> rfl), by exact Lz1 HB GE769⟩
  rw [if_neg c5] at H
  have c5b0 : ((l1.length : Int) == a0_0) = false := beq_eq_false_iff_ne.mpr c5
  have c5b1 : ((l1.length : Int) != a0_0) = true := bne_iff_ne.mpr c5
  obtain rfl := Option.some.inj H
  go_enter Try.func40, Try.ntmps40
  go_wp2_with (first | ((with_reducible refine gate_dst (N := 2) rfl ?_); (try (refine gate_guard (by rfl) ?_; dsimp only)); refine box_event ?hg (N := 2) ?hd (cs := #[.int .i64 a0_0, .slice A0_1 l0_1.length c0_1]) (t := 31) ?hr ?_; (case hd => rfl); (case hg => rfl); (case hr => first | (go_simp; done) | (go_simp; rfl)); intro gb769 hg w11 hbox hb; have BK769 := Aside0.mk (hbox); have GW769 := Aside0.mk ((by rw [hg]; exact (below_size (Lz HB)) : w.heap.size ≤ gb769)); have GE769 := Aside0.mk ((by rw [hg]; exact (below_size (Lz HB)) : w.heap.size ≤ gb769)); replace HB := Aside0.mk (below_step (Lz HB) hb); clear hb hbox hg; have hcz12_0 : w11.cell? ⟨gb769, 0, none⟩ = some (.int .i64 a0_0) := (blk_cell BK769.out 0).trans rfl; have hcz12_1 : w11.cell? ⟨gb769, 1, none⟩ = some (.slice A0_1 l0_1.length c0_1) := (blk_cell BK769.out 1).trans rfl; have hfz12_0 := blk_frozen BK769.out 0; have hfz12_1 := blk_frozen BK769.out 1) | ((with_reducible refine gate_callee (f := 50) rfl ?_); refine goesM_ (some 6) rfl rfl Try.func50 (by kernel_rfl) rfl #[.agg #[.int .i64 a0_0, .slice A0_1 l0_1.length c0_1]] rfl ?_; (with_reducible refine (impl_GraphOk.calls k a0_0 _ _ l0_1 true _ ?side1 ?side2 A3.out).mono ?_); (case side1 => exact Cz ((Kd.C_below HR0_1.out HB.out))); (case side2 => exact HC0_1.out); rintro e w13 ⟨rfl, hb⟩; refine ⟨_, rfl, ?_⟩; replace BK769 := Aside0.mk (blk_below (g := gb769) (o := .cells #[.int .i64 a0_0, .slice A0_1 l0_1.length c0_1] 31 (0, 0)) (Bz BK769) hb); replace HB := Aside0.mk (below_step (by exact Lz1 HB GE769) hb); (try clear hb); (try clear hb2); (try clear hk); (try clear hi); have hcz14_0 : w13.cell? ⟨gb769, 0, none⟩ = some (.int .i64 a0_0) := (blk_cell BK769.out 0).trans rfl; have hcz14_1 : w13.cell? ⟨gb769, 1, none⟩ = some (.slice A0_1 l0_1.length c0_1) := (blk_cell BK769.out 1).trans rfl; have hfz14_0 := blk_frozen BK769.out 0; have hfz14_1 := blk_frozen BK769.out 1))
  go_ret
  exact ⟨by first | rfl | (simp [errW_none, errW_some] <;> rfl) | (simp [*, errW_none, errW_some] <;> rfl), by exact Lz1 HB GE769⟩
 replace c4 := Bool.eq_false_iff.mpr c4
 subst c4
 have H1 : (some false) = some r := by rw [if_neg (show ¬ (false = true) by decide)] at H; exact H
 clear H
 have H := H1
 clear H1
 obtain rfl := Option.some.inj H
 go_enter Try.func40, Try.ntmps40
 go_wp2_with (first | ((with_reducible refine gate_dst (N := 2) rfl ?_); (try (refine gate_guard (by rfl) ?_; dsimp only)); refine box_event ?hg (N := 2) ?hd (cs := #[.int .i64 a0_0, .slice A0_1 l0_1.length c0_1]) (t := 31) ?hr ?_; (case hd => rfl); (case hg => rfl); (case hr => first | (go_simp; done) | (go_simp; rfl)); intro gb769 hg w15 hbox hb; have BK769 := Aside0.mk (hbox); have GW769 := Aside0.mk ((by rw [hg]; exact (below_size (Lz HB)) : w.heap.size ≤ gb769)); have GE769 := Aside0.mk ((by rw [hg]; exact (below_size (Lz HB)) : w.heap.size ≤ gb769)); replace HB := Aside0.mk (below_step (Lz HB) hb); clear hb hbox hg; have hcz16_0 : w15.cell? ⟨gb769, 0, none⟩ = some (.int .i64 a0_0) := (blk_cell BK769.out 0).trans rfl; have hcz16_1 : w15.cell? ⟨gb769, 1, none⟩ = some (.slice A0_1 l0_1.length c0_1) := (blk_cell BK769.out 1).trans rfl; have hfz16_0 := blk_frozen BK769.out 0; have hfz16_1 := blk_frozen BK769.out 1) | ((with_reducible refine gate_callee (f := 50) rfl ?_); refine goesM_ (some 6) rfl rfl Try.func50 (by kernel_rfl) rfl #[.agg #[.int .i64 a0_0, .slice A0_1 l0_1.length c0_1]] rfl ?_; (with_reducible refine (impl_GraphOk.calls k a0_0 _ _ l0_1 false _ ?side1 ?side2 A3.out).mono ?_); (case side1 => exact Cz ((Kd.C_below HR0_1.out HB.out))); (case side2 => exact HC0_1.out); rintro e w17 ⟨rfl, hb⟩; refine ⟨_, rfl, ?_⟩; replace BK769 := Aside0.mk (blk_below (g := gb769) (o := .cells #[.int .i64 a0_0, .slice A0_1 l0_1.length c0_1] 31 (0, 0)) (Bz BK769) hb); replace HB := Aside0.mk (below_step (by exact Lz1 HB GE769) hb); (try clear hb); (try clear hb2); (try clear hk); (try clear hi)))
 go_ret
 exact ⟨by first | rfl | (simp [errW_none, errW_some] <;> rfl) | (simp [*, errW_none, errW_some] <;> rfl), by exact Lz1 HB GE769⟩
def impl_fired.l0 : Nat → List Int → List Int → Int → Int → Int → List (S67) → Option (List Int)
 | 0, _, _, _, _, _, _ => none
 | k + 1, x7, x12, x13, x14, x773000, x773001 => if x14 < x13 then (if 0 ≤ x14 then (if x14 < (x12.length : Int) then ((impl_fire.f k x773000 x773001 x7 x14 (rd x12 x14)).bind fun t777 => (impl_fired.l0 k t777 x12 x13 (wrap64 (x14 + 1)) x773000 x773001)) else (none)) else (none)) else (some x7)
def impl_fired.f (k : Nat) (a0_0 : Int) (l0_1 : List (S67)) (l1 : List Int) (l2 : List Int) : Option (List Int) := (impl_copyInts.f l1).bind fun t773 => (impl_fired.l0 k t773 l2 (l2.length : Int) 0 a0_0 l0_1)
set_option maxHeartbeats 8000000 in
set_option maxRecDepth 100000 in
theorem impl_fired.calls (k : Nat) (a0_0 : Int) (A0_1 : Option Addr) (c0_1 : Nat) (l0_1 : List (S67)) (A1 : Option Addr) (c1 : Nat) (l1 : List Int) (A2 : Option Addr) (c2 : Nat) (l2 : List Int) (r : List Int) (w : World) (hr0_1 : Kd.C k67 w A0_1 l0_1.length l0_1) (hc0_1 : l0_1.length ≤ c0_1) (hr1 : Kd.C (Kd.int .i64) w A1 l1.length l1) (hc1 : l1.length ≤ c1) (hr2 : Kd.C (Kd.int .i64) w A2 l2.length l2) (hc2 : l2.length ≤ c2) (h : impl_fired.f k a0_0 l0_1 l1 l2 = some r) :
  Calls Try.prog 73 #[.agg #[.int .i64 a0_0, .slice A0_1 l0_1.length c0_1], .slice A1 l1.length c1, .slice A2 l2.length c2] w fun e w' => ∃ v0_ : Value, e = .returned (v0_) ∧ Kd.R (Kd.int .i64) 3 w' w.heap.size (fun _ => True) v0_ r ∧ Below w.heap.size w w' := by
 have hu31 := Try.underlying31
 have HR0_1 := Aside0.mk hr0_1
 have HC0_1 := Aside0.mk hc0_1
 clear hr0_1 hc0_1
 have HR1 := Aside0.mk hr1
 have HC1 := Aside0.mk hc1
 clear hr1 hc1
 have HR2 := Aside0.mk hr2
 have HC2 := Aside0.mk hc2
 clear hr2 hc2
 have HB := Aside0.mk (Below.refl w.heap.size w)
 have H : ((impl_copyInts.f l1).bind fun t773 => (impl_fired.l0 k t773 l2 (l2.length : Int) 0 a0_0 l0_1)) = some r := h
 clear h
 replace H := Option.bind_eq_some_iff.mp H
 obtain ⟨t773, A40, H⟩ := H
 replace H : (impl_fired.l0 k t773 l2 (l2.length : Int) 0 a0_0 l0_1) = some r := H
 have A4 := Aside0.mk A40
 clear A40
 have H' := Aside0.mk H
 clear H
 go_enter Try.func73, Try.ntmps73
 go_wp2_with (first | ((with_reducible refine gate_dst (N := 3) rfl ?_); refine box_event ?hg (N := 3) ?hd (cs := #[.int .i64 a0_0, .slice A0_1 l0_1.length c0_1]) (t := 31) ?hr ?_; (case hd => rfl); (case hg => rfl); (case hr => first | (go_simp; done) | (go_simp; rfl)); intro gb772 hg w5 hbox hb; have BK772 := Aside0.mk (hbox); have GW772 := Aside0.mk ((by rw [hg]; exact (below_size (Lz HB)) : w.heap.size ≤ gb772)); have GE772 := Aside0.mk ((by rw [hg]; exact (below_size (Lz HB)) : w.heap.size ≤ gb772)); replace HB := Aside0.mk (below_step (Lz HB) hb); clear hb hbox hg) | ((with_reducible refine gate_callee (f := 79) rfl ?_); refine goesM_ (some 11) rfl rfl Try.func79 (by kernel_rfl) rfl #[.slice A1 l1.length c1] rfl ?_; (with_reducible refine (impl_copyInts.calls _ _ l1 t773 _ ?side1 ?side2 A4.out).mono ?_); (case side1 => exact Cz ((Kd.C_below HR1.out HB.out))); (case side2 => exact HC1.out); rintro e w6 ⟨v774, rfl, ho0, hb⟩; refine ⟨_, rfl, ?_⟩; have HO775 := Aside0.mk (Kd.R_lower ho0 (below_size (by exact Lz1 HB GE772))); replace BK772 := Aside0.mk (blk_below (g := gb772) (o := .cells #[.int .i64 a0_0, .slice A0_1 l0_1.length c0_1] 31 (0, 0)) (Bz BK772) hb); replace HB := Aside0.mk (below_step (by exact Lz1 HB GE772) hb); (try clear hb); (try clear ho0)))
 go_loopg [14] k (fun kq v14 w' => ∃ (x7_1 : List Int) (x14_1 : Int), v14 = .int .i64 x14_1 ∧ Aside0 (impl_fired.l0 kq x7_1 l2 (l2.length : Int) x14_1 a0_0 l0_1 = some r) ∧ Aside0 (kq ≤ k) ∧ Aside0 (Kd.R (Kd.int .i64) 3 w' w.heap.size (fun _ => True) v774 x7_1) ∧ Aside0 (w'.heap[gb772]? = some (.cells #[.int .i64 a0_0, (.slice A0_1 l0_1.length c0_1)] 31 (0, 0))) ∧ Aside0 (Below w.heap.size w w'))
 case atStart => exact ⟨(t773), (0), eqA, H', ⟨Nat.le_refl _⟩, ⟨by exact Rz HO775⟩, ⟨by exact Bz BK772⟩, ⟨by exact Lz1 HB GE772⟩⟩
 case round =>
  clear H'
  try clear c1
  try clear c2
  obtain ⟨x7_1, x14_1, rfl, HA, HK1, HO_7, BK772, HB⟩ := hrel
  cases gk with
  | zero => exact absurd HA.out (by simp [impl_fired.l0])
  | succ k1 =>
   have H := HA.out
   clear HA
   simp only [impl_fired.l0] at H
   by_cases c7 : x14_1 < (l2.length : Int)
   ·rw [if_pos c7] at H
    have c7b0 : decide (x14_1 < (l2.length : Int)) = true := decide_eq_true c7
    clear c7
    by_cases c8 : 0 ≤ x14_1
    ·rw [if_pos c8] at H
     have c8b0 : decide (0 ≤ x14_1) = true := decide_eq_true c8
     clear c8
     by_cases c9 : x14_1 < (l2.length : Int)
     ·rw [if_pos c9] at H
      have c9b0 : decide (x14_1 < (l2.length : Int)) = true := decide_eq_true c9
      clear c9
      replace H := Option.bind_eq_some_iff.mp H
      obtain ⟨t777, A100, H⟩ := H
      replace H : (impl_fired.l0 k1 t777 l2 (l2.length : Int) (wrap64 (x14_1 + 1)) a0_0 l0_1) = some r := H
      have A10 := Aside0.mk A100
      clear A100
      have H' := Aside0.mk H
      clear H
      have p776 : 0 ≤ (x14_1 : Int) := ofA
      have q776 : x14_1 < (l2.length : Int) := ofA
      obtain ⟨ad776, e776, hx776_0⟩ := Kd.at_int HR2.out x14_1 p776 q776
      cases e776
      replace hx776_0 := (HB.out.cell (World.block_lt_of_cell? w _ hx776_0)).trans hx776_0
      replace p776 := eq_true p776
      replace q776 := eq_true q776
      have hcz11_0 : wr.cell? ⟨gb772, 0, none⟩ = some (.int .i64 a0_0) := (blk_cell BK772.out 0).trans rfl
      have hcz11_1 : wr.cell? ⟨gb772, 1, none⟩ = some (.slice A0_1 l0_1.length c0_1) := (blk_cell BK772.out 1).trans rfl
      have hfz11_0 := blk_frozen BK772.out 0
      have hfz11_1 := blk_frozen BK772.out 1
      obtain ⟨Ao12, co12, eo12⟩ := Kd.R_slice HO_7.out
      subst eo12
      go_wp2_with (first | ((with_reducible refine gate_callee (f := 101) rfl ?_); refine goesM_ (some 23) rfl rfl Try.func101 (by kernel_rfl) rfl #[.agg #[.int .i64 a0_0, .slice A0_1 l0_1.length c0_1], .slice Ao12 x7_1.length co12, .int .i64 x14_1, .int .i64 (rd l2 x14_1)] rfl ?_; (with_reducible refine (impl_fire.calls k1 a0_0 _ _ l0_1 (fun k_ => some k_ = (.slice Ao12 x7_1.length co12 : Value).ownBlock) (.slice Ao12 x7_1.length co12) x7_1 x14_1 (rd l2 x14_1) t777 w _ ?side1 ?side2 ?side3 ?side4 A10.out).mono ?_); (case side1 => exact Lz1 HB GE772); (case side2 => exact Kd.C_kept_came k67_heap HR0_1.out (by exact Lz1 HB GE772) (fun k_ hs_ => (fun e_ => Kd.R_base HO_7.out k_ e_.symm) hs_)); (case side3 => exact HC0_1.out); (case side4 => exact Kd.R_tight rfl HO_7.out); rintro e w13 ⟨rfl, hy0, hb, hkp⟩; refine ⟨_, rfl, ?_⟩; replace BK772 := Aside0.mk (blk_kept (Bz BK772) hkp (fun hs_ => (fun e_ => (Kd.R_ne HO_7.out BK772.out (by decide)) e_) hs_)); replace HO_7 := Aside0.mk (Kd.R_reok rfl hy0 (fun k_ e_ => HO_7.out.1 k_ e_)); replace HB := Aside0.mk (hb); (try clear hb); (try clear hkp); (try clear hy0)))
      go_roundg k1
      case measure => have := HK1.out; omega
      case rel => exact ⟨(t777), (wrap64 (x14_1 + 1)), eqA, H', ⟨by have := HK1.out; omega⟩, ⟨by exact Rz HO_7⟩, ⟨by exact Bz BK772⟩, ⟨by exact Lz1 HB GE772⟩⟩
     rw [if_neg c9] at H
     exact absurd H (by simp)
    rw [if_neg c8] at H
    exact absurd H (by simp)
   rw [if_neg c7] at H
   have c7b0 : decide (x14_1 < (l2.length : Int)) = false := decide_eq_false c7
   clear c7
   obtain rfl := Option.some.inj H
   go_wp2
   go_ret
   exact ⟨_, by first | rfl | (simp [errW_none, errW_some] <;> rfl) | (simp [*, errW_none, errW_some] <;> rfl), by exact Rz HO_7, by exact Lz1 HB GE772⟩
def impl_FireScript.f (k : Nat) (a0_0 : Int) (l0_1 : List (S67)) (l1 : List Int) (l2 : List Int) : Option (List Int × Bool) := (impl_DivisorOk.f k a0_0 l0_1 l1).bind fun t779 => (if t779 = true then ((impl_ScriptOk.f k a0_0 l0_1 l2).bind fun t780 => (if t780 = true then ((impl_fired.f k a0_0 l0_1 l1 l2).bind fun t781 => (some (t781, true))) else (some (([] : List Int), false)))) else (some (([] : List Int), false)))
set_option maxHeartbeats 8000000 in
set_option maxRecDepth 100000 in
theorem impl_FireScript.calls (k : Nat) (a0_0 : Int) (A0_1 : Option Addr) (c0_1 : Nat) (l0_1 : List (S67)) (A1 : Option Addr) (c1 : Nat) (l1 : List Int) (A2 : Option Addr) (c2 : Nat) (l2 : List Int) (r1 : List Int) (r2 : Bool) (w : World) (hr0_1 : Kd.C k67 w A0_1 l0_1.length l0_1) (hc0_1 : l0_1.length ≤ c0_1) (hr1 : Kd.C (Kd.int .i64) w A1 l1.length l1) (hc1 : l1.length ≤ c1) (hr2 : Kd.C (Kd.int .i64) w A2 l2.length l2) (hc2 : l2.length ≤ c2) (h : impl_FireScript.f k a0_0 l0_1 l1 l2 = some (r1, r2)) :
  Calls Try.prog 27 #[.agg #[.int .i64 a0_0, .slice A0_1 l0_1.length c0_1], .slice A1 l1.length c1, .slice A2 l2.length c2] w fun e w' => ∃ v0_ : Value, e = .returned (.tuple #[v0_, .bool r2]) ∧ Kd.R (Kd.int .i64) 3 w' w.heap.size (fun _ => True) v0_ r1 ∧ Below w.heap.size w w' := by
 have hu31 := Try.underlying31
 have HR0_1 := Aside0.mk hr0_1
 have HC0_1 := Aside0.mk hc0_1
 clear hr0_1 hc0_1
 have HR1 := Aside0.mk hr1
 have HC1 := Aside0.mk hc1
 clear hr1 hc1
 have HR2 := Aside0.mk hr2
 have HC2 := Aside0.mk hc2
 clear hr2 hc2
 have HB := Aside0.mk (Below.refl w.heap.size w)
 have H : ((impl_DivisorOk.f k a0_0 l0_1 l1).bind fun t779 => (if t779 = true then ((impl_ScriptOk.f k a0_0 l0_1 l2).bind fun t780 => (if t780 = true then ((impl_fired.f k a0_0 l0_1 l1 l2).bind fun t781 => (some (t781, true))) else (some (([] : List Int), false)))) else (some (([] : List Int), false)))) = some (r1, r2) := h
 clear h
 replace H := Option.bind_eq_some_iff.mp H
 obtain ⟨t779, A40, H⟩ := H
 replace H : (if t779 = true then ((impl_ScriptOk.f k a0_0 l0_1 l2).bind fun t780 => (if t780 = true then ((impl_fired.f k a0_0 l0_1 l1 l2).bind fun t781 => (some (t781, true))) else (some (([] : List Int), false)))) else (some (([] : List Int), false))) = some (r1, r2) := H
 have A4 := Aside0.mk A40
 clear A40
 by_cases c5 : t779 = true
 ·subst c5
  have H1 : ((impl_ScriptOk.f k a0_0 l0_1 l2).bind fun t780 => (if t780 = true then ((impl_fired.f k a0_0 l0_1 l1 l2).bind fun t781 => (some (t781, true))) else (some (([] : List Int), false)))) = some (r1, r2) := by rw [if_pos rfl] at H; exact H
  clear H
  have H := H1
  clear H1
  replace H := Option.bind_eq_some_iff.mp H
  obtain ⟨t780, A60, H⟩ := H
  replace H : (if t780 = true then ((impl_fired.f k a0_0 l0_1 l1 l2).bind fun t781 => (some (t781, true))) else (some (([] : List Int), false))) = some (r1, r2) := H
  have A6 := Aside0.mk A60
  clear A60
  by_cases c7 : t780 = true
  ·subst c7
   have H1 : ((impl_fired.f k a0_0 l0_1 l1 l2).bind fun t781 => (some (t781, true))) = some (r1, r2) := by rw [if_pos rfl] at H; exact H
   clear H
   have H := H1
   clear H1
   replace H := Option.bind_eq_some_iff.mp H
   obtain ⟨t781, A80, H⟩ := H
   replace H : (some (t781, true)) = some (r1, r2) := H
   have A8 := Aside0.mk A80
   clear A80
   simp only [Option.some.injEq, Prod.mk.injEq] at H
   obtain ⟨rfl, rfl⟩ := H
   go_enter Try.func27, Try.ntmps27
   go_wp2_with (first | ((with_reducible refine gate_dst (N := 3) rfl ?_); refine box_event ?hg (N := 3) ?hd (cs := #[.int .i64 a0_0, .slice A0_1 l0_1.length c0_1]) (t := 31) ?hr ?_; (case hd => rfl); (case hg => rfl); (case hr => first | (go_simp; done) | (go_simp; rfl)); intro gb778 hg w9 hbox hb; have BK778 := Aside0.mk (hbox); have GW778 := Aside0.mk ((by rw [hg]; exact (below_size (Lz HB)) : w.heap.size ≤ gb778)); have GE778 := Aside0.mk ((by rw [hg]; exact (below_size (Lz HB)) : w.heap.size ≤ gb778)); replace HB := Aside0.mk (below_step (Lz HB) hb); clear hb hbox hg; have hcz10_0 : w9.cell? ⟨gb778, 0, none⟩ = some (.int .i64 a0_0) := (blk_cell BK778.out 0).trans rfl; have hcz10_1 : w9.cell? ⟨gb778, 1, none⟩ = some (.slice A0_1 l0_1.length c0_1) := (blk_cell BK778.out 1).trans rfl; have hfz10_0 := blk_frozen BK778.out 0; have hfz10_1 := blk_frozen BK778.out 1) | ((with_reducible refine gate_callee (f := 71) rfl ?_); refine goesM_ (some 10) rfl rfl Try.func71 (by kernel_rfl) rfl #[.agg #[.int .i64 a0_0, .slice A0_1 l0_1.length c0_1], .slice A1 l1.length c1] rfl ?_; (with_reducible refine (impl_DivisorOk.calls k a0_0 _ _ l0_1 _ _ l1 true _ ?side1 ?side2 ?side3 ?side4 A4.out).mono ?_); (case side1 => exact Cz ((Kd.C_below HR0_1.out HB.out))); (case side2 => exact HC0_1.out); (case side3 => exact Cz ((Kd.C_below HR1.out HB.out))); (case side4 => exact HC1.out); rintro e w11 ⟨rfl, hb⟩; refine ⟨_, rfl, ?_⟩; replace BK778 := Aside0.mk (blk_below (g := gb778) (o := .cells #[.int .i64 a0_0, .slice A0_1 l0_1.length c0_1] 31 (0, 0)) (Bz BK778) hb); replace HB := Aside0.mk (below_step (by exact Lz1 HB GE778) hb); (try clear hb); (try clear hb2); (try clear hk); (try clear hi); have hcz12_0 : w11.cell? ⟨gb778, 0, none⟩ = some (.int .i64 a0_0) := (blk_cell BK778.out 0).trans rfl; have hcz12_1 : w11.cell? ⟨gb778, 1, none⟩ = some (.slice A0_1 l0_1.length c0_1) := (blk_cell BK778.out 1).trans rfl; have hfz12_0 := blk_frozen BK778.out 0; have hfz12_1 := blk_frozen BK778.out 1) | (go_at_call 40; (with_reducible refine (impl_ScriptOk.calls k a0_0 _ _ l0_1 _ _ l2 true _ ?side1 ?side2 ?side3 ?side4 A6.out).mono ?_); (case side1 => exact Cz ((Kd.C_below HR0_1.out HB.out))); (case side2 => exact HC0_1.out); (case side3 => exact Cz ((Kd.C_below HR2.out HB.out))); (case side4 => exact HC2.out); rintro e w13 ⟨rfl, hb⟩; replace BK778 := Aside0.mk (blk_below (g := gb778) (o := .cells #[.int .i64 a0_0, .slice A0_1 l0_1.length c0_1] 31 (0, 0)) (Bz BK778) hb); replace HB := Aside0.mk (below_step (by exact Lz1 HB GE778) hb); (try clear hb); (try clear hb2); (try clear hk); (try clear hi); have hcz14_0 : w13.cell? ⟨gb778, 0, none⟩ = some (.int .i64 a0_0) := (blk_cell BK778.out 0).trans rfl; have hcz14_1 : w13.cell? ⟨gb778, 1, none⟩ = some (.slice A0_1 l0_1.length c0_1) := (blk_cell BK778.out 1).trans rfl; have hfz14_0 := blk_frozen BK778.out 0; have hfz14_1 := blk_frozen BK778.out 1) | ((with_reducible refine gate_callee (f := 73) rfl ?_); refine goesM_ (some 21) rfl rfl Try.func73 (by kernel_rfl) rfl #[.agg #[.int .i64 a0_0, .slice A0_1 l0_1.length c0_1], .slice A1 l1.length c1, .slice A2 l2.length c2] rfl ?_; (with_reducible refine (impl_fired.calls k a0_0 _ _ l0_1 _ _ l1 _ _ l2 t781 _ ?side1 ?side2 ?side3 ?side4 ?side5 ?side6 A8.out).mono ?_); (case side1 => exact Cz ((Kd.C_below HR0_1.out HB.out))); (case side2 => exact HC0_1.out); (case side3 => exact Cz ((Kd.C_below HR1.out HB.out))); (case side4 => exact HC1.out); (case side5 => exact Cz ((Kd.C_below HR2.out HB.out))); (case side6 => exact HC2.out); rintro e w15 ⟨v782, rfl, ho0, hb⟩; refine ⟨_, rfl, ?_⟩; have HO783 := Aside0.mk (Kd.R_lower ho0 (below_size (by exact Lz1 HB GE778))); replace BK778 := Aside0.mk (blk_below (g := gb778) (o := .cells #[.int .i64 a0_0, .slice A0_1 l0_1.length c0_1] 31 (0, 0)) (Bz BK778) hb); replace HB := Aside0.mk (below_step (by exact Lz1 HB GE778) hb); (try clear hb); (try clear ho0)))
   go_ret2
   exact ⟨_, by first | rfl | (simp [errW_none, errW_some] <;> rfl) | (simp [*, errW_none, errW_some] <;> rfl), by exact Rz HO783, by exact Lz1 HB GE778⟩
  replace c7 := Bool.eq_false_iff.mpr c7
  subst c7
  have H1 : (some (([] : List Int), false)) = some (r1, r2) := by rw [if_neg (show ¬ (false = true) by decide)] at H; exact H
  clear H
  have H := H1
  clear H1
  simp only [Option.some.injEq, Prod.mk.injEq] at H
  obtain ⟨rfl, rfl⟩ := H
  go_enter Try.func27, Try.ntmps27
  go_wp2_with (first | ((with_reducible refine gate_dst (N := 3) rfl ?_); refine box_event ?hg (N := 3) ?hd (cs := #[.int .i64 a0_0, .slice A0_1 l0_1.length c0_1]) (t := 31) ?hr ?_; (case hd => rfl); (case hg => rfl); (case hr => first | (go_simp; done) | (go_simp; rfl)); intro gb778 hg w16 hbox hb; have BK778 := Aside0.mk (hbox); have GW778 := Aside0.mk ((by rw [hg]; exact (below_size (Lz HB)) : w.heap.size ≤ gb778)); have GE778 := Aside0.mk ((by rw [hg]; exact (below_size (Lz HB)) : w.heap.size ≤ gb778)); replace HB := Aside0.mk (below_step (Lz HB) hb); clear hb hbox hg; have hcz17_0 : w16.cell? ⟨gb778, 0, none⟩ = some (.int .i64 a0_0) := (blk_cell BK778.out 0).trans rfl; have hcz17_1 : w16.cell? ⟨gb778, 1, none⟩ = some (.slice A0_1 l0_1.length c0_1) := (blk_cell BK778.out 1).trans rfl; have hfz17_0 := blk_frozen BK778.out 0; have hfz17_1 := blk_frozen BK778.out 1) | ((with_reducible refine gate_callee (f := 71) rfl ?_); refine goesM_ (some 10) rfl rfl Try.func71 (by kernel_rfl) rfl #[.agg #[.int .i64 a0_0, .slice A0_1 l0_1.length c0_1], .slice A1 l1.length c1] rfl ?_; (with_reducible refine (impl_DivisorOk.calls k a0_0 _ _ l0_1 _ _ l1 true _ ?side1 ?side2 ?side3 ?side4 A4.out).mono ?_); (case side1 => exact Cz ((Kd.C_below HR0_1.out HB.out))); (case side2 => exact HC0_1.out); (case side3 => exact Cz ((Kd.C_below HR1.out HB.out))); (case side4 => exact HC1.out); rintro e w18 ⟨rfl, hb⟩; refine ⟨_, rfl, ?_⟩; replace BK778 := Aside0.mk (blk_below (g := gb778) (o := .cells #[.int .i64 a0_0, .slice A0_1 l0_1.length c0_1] 31 (0, 0)) (Bz BK778) hb); replace HB := Aside0.mk (below_step (by exact Lz1 HB GE778) hb); (try clear hb); (try clear hb2); (try clear hk); (try clear hi); have hcz19_0 : w18.cell? ⟨gb778, 0, none⟩ = some (.int .i64 a0_0) := (blk_cell BK778.out 0).trans rfl; have hcz19_1 : w18.cell? ⟨gb778, 1, none⟩ = some (.slice A0_1 l0_1.length c0_1) := (blk_cell BK778.out 1).trans rfl; have hfz19_0 := blk_frozen BK778.out 0; have hfz19_1 := blk_frozen BK778.out 1) | (go_at_call 40; (with_reducible refine (impl_ScriptOk.calls k a0_0 _ _ l0_1 _ _ l2 false _ ?side1 ?side2 ?side3 ?side4 A6.out).mono ?_); (case side1 => exact Cz ((Kd.C_below HR0_1.out HB.out))); (case side2 => exact HC0_1.out); (case side3 => exact Cz ((Kd.C_below HR2.out HB.out))); (case side4 => exact HC2.out); rintro e w20 ⟨rfl, hb⟩; replace BK778 := Aside0.mk (blk_below (g := gb778) (o := .cells #[.int .i64 a0_0, .slice A0_1 l0_1.length c0_1] 31 (0, 0)) (Bz BK778) hb); replace HB := Aside0.mk (below_step (by exact Lz1 HB GE778) hb); (try clear hb); (try clear hb2); (try clear hk); (try clear hi)))
  go_ret2
  exact ⟨_, by first | rfl | (simp [errW_none, errW_some] <;> rfl) | (simp [*, errW_none, errW_some] <;> rfl), by first | exact Kd.R_nil _ _ _ _ _ | exact Kd.N_nil _ _ _ _ _ | exact Kd.V_nil _ _ _ _ _ | exact Kd.Q_nil _ _ _ _ _ | exact Kd.S_nil _ _ _ _ _, by exact Lz1 HB GE778⟩
 replace c5 := Bool.eq_false_iff.mpr c5
 subst c5
 have H1 : (some (([] : List Int), false)) = some (r1, r2) := by rw [if_neg (show ¬ (false = true) by decide)] at H; exact H
 clear H
 have H := H1
 clear H1
 simp only [Option.some.injEq, Prod.mk.injEq] at H
 obtain ⟨rfl, rfl⟩ := H
 go_enter Try.func27, Try.ntmps27
 go_wp2_with (first | ((with_reducible refine gate_dst (N := 3) rfl ?_); refine box_event ?hg (N := 3) ?hd (cs := #[.int .i64 a0_0, .slice A0_1 l0_1.length c0_1]) (t := 31) ?hr ?_; (case hd => rfl); (case hg => rfl); (case hr => first | (go_simp; done) | (go_simp; rfl)); intro gb778 hg w21 hbox hb; have BK778 := Aside0.mk (hbox); have GW778 := Aside0.mk ((by rw [hg]; exact (below_size (Lz HB)) : w.heap.size ≤ gb778)); have GE778 := Aside0.mk ((by rw [hg]; exact (below_size (Lz HB)) : w.heap.size ≤ gb778)); replace HB := Aside0.mk (below_step (Lz HB) hb); clear hb hbox hg; have hcz22_0 : w21.cell? ⟨gb778, 0, none⟩ = some (.int .i64 a0_0) := (blk_cell BK778.out 0).trans rfl; have hcz22_1 : w21.cell? ⟨gb778, 1, none⟩ = some (.slice A0_1 l0_1.length c0_1) := (blk_cell BK778.out 1).trans rfl; have hfz22_0 := blk_frozen BK778.out 0; have hfz22_1 := blk_frozen BK778.out 1) | ((with_reducible refine gate_callee (f := 71) rfl ?_); refine goesM_ (some 10) rfl rfl Try.func71 (by kernel_rfl) rfl #[.agg #[.int .i64 a0_0, .slice A0_1 l0_1.length c0_1], .slice A1 l1.length c1] rfl ?_; (with_reducible refine (impl_DivisorOk.calls k a0_0 _ _ l0_1 _ _ l1 false _ ?side1 ?side2 ?side3 ?side4 A4.out).mono ?_); (case side1 => exact Cz ((Kd.C_below HR0_1.out HB.out))); (case side2 => exact HC0_1.out); (case side3 => exact Cz ((Kd.C_below HR1.out HB.out))); (case side4 => exact HC1.out); rintro e w23 ⟨rfl, hb⟩; refine ⟨_, rfl, ?_⟩; replace BK778 := Aside0.mk (blk_below (g := gb778) (o := .cells #[.int .i64 a0_0, .slice A0_1 l0_1.length c0_1] 31 (0, 0)) (Bz BK778) hb); replace HB := Aside0.mk (below_step (by exact Lz1 HB GE778) hb); (try clear hb); (try clear hb2); (try clear hk); (try clear hi)))
 go_ret2
 exact ⟨_, by first | rfl | (simp [errW_none, errW_some] <;> rfl) | (simp [*, errW_none, errW_some] <;> rfl), by first | exact Kd.R_nil _ _ _ _ _ | exact Kd.N_nil _ _ _ _ _ | exact Kd.V_nil _ _ _ _ _ | exact Kd.Q_nil _ _ _ _ _ | exact Kd.S_nil _ _ _ _ _, by exact Lz1 HB GE778⟩
def laws_same.l0 : Nat → List Int → List Int → Int → Int → Option (Bool)
 | 0, _, _, _, _ => none
 | k + 1, x1, x12, x13, x14 => if x14 < x13 then (if 0 ≤ x14 then (if x14 < (x12.length : Int) then (if x14 < (x1.length : Int) then (if (rd x12 x14) = (rd x1 x14) then (laws_same.l0 k x1 x12 x13 (wrap64 (x14 + 1))) else (some false)) else (none)) else (none)) else (none)) else (some true)
def laws_same.f (k : Nat) (l0 : List Int) (l1 : List Int) : Option (Bool) := if (l0.length : Int) = (l1.length : Int) then (laws_same.l0 k l1 l0 (l0.length : Int) 0) else (some false)
set_option maxHeartbeats 8000000 in
set_option maxRecDepth 100000 in
theorem laws_same.calls (k : Nat) (A0 : Option Addr) (c0 : Nat) (l0 : List Int) (A1 : Option Addr) (c1 : Nat) (l1 : List Int) (r : Bool) (w : World) (hr0 : Kd.C (Kd.int .i64) w A0 l0.length l0) (hc0 : l0.length ≤ c0) (hr1 : Kd.C (Kd.int .i64) w A1 l1.length l1) (hc1 : l1.length ≤ c1) (h : laws_same.f k l0 l1 = some r) :
  Calls Try.prog 28 #[.slice A0 l0.length c0, .slice A1 l1.length c1] w fun e w' => e = .returned (.bool r) ∧ Drawn0 w w' := by
 have HR0 := Aside0.mk hr0
 have HC0 := Aside0.mk hc0
 clear hr0 hc0
 have HR1 := Aside0.mk hr1
 have HC1 := Aside0.mk hc1
 clear hr1 hc1
 have H : (if (l0.length : Int) = (l1.length : Int) then (laws_same.l0 k l1 l0 (l0.length : Int) 0) else (some false)) = some r := h
 clear h
 by_cases c3 : (l0.length : Int) = (l1.length : Int)
 ·rw [if_pos c3] at H
  have c3b0 : ((l0.length : Int) == (l1.length : Int)) = true := beq_iff_eq.mpr c3
  have c3b1 : ((l0.length : Int) != (l1.length : Int)) = false := bne_eq_false_iff_eq.mpr c3
  have c3b2 : (l0.length == l1.length) = true := by first | simpa using c3 | (simp at c3 ⊢; omega)
  clear c3
  have H' := Aside0.mk H
  clear H
  go_enter Try.func28, Try.ntmps28
  go_wp2
  go_loopg [14] k (fun kq v14 w' => ∃ (x14_1 : Int), v14 = .int .i64 x14_1 ∧ Aside0 (laws_same.l0 kq l1 l0 (l0.length : Int) x14_1 = some r) ∧ Aside0 (kq ≤ k) ∧ Drawn0 w w')
  case atStart => exact ⟨(0), eqA, H', ⟨Nat.le_refl _⟩, by repeat (first | exact Drawn0.refl _ | apply Drawn0.step)⟩
  case round =>
   clear H'
   try clear c1
   try clear c3
   try clear c3b0
   try clear c3b1
   try clear c3b2
   obtain ⟨x14_1, rfl, HA, HK1, ⟨m1, rfl⟩⟩ := hrel
   cases gk with
   | zero => exact absurd HA.out (by simp [laws_same.l0])
   | succ k1 =>
    have H := HA.out
    clear HA
    simp only [laws_same.l0] at H
    by_cases c4 : x14_1 < (l0.length : Int)
    ·rw [if_pos c4] at H
     have c4b0 : decide (x14_1 < (l0.length : Int)) = true := decide_eq_true c4
     clear c4
     by_cases c5 : 0 ≤ x14_1
     ·rw [if_pos c5] at H
      have c5b0 : decide (0 ≤ x14_1) = true := decide_eq_true c5
      clear c5
      by_cases c6 : x14_1 < (l0.length : Int)
      ·rw [if_pos c6] at H
       have c6b0 : decide (x14_1 < (l0.length : Int)) = true := decide_eq_true c6
       clear c6
       by_cases c7 : x14_1 < (l1.length : Int)
       ·rw [if_pos c7] at H
        have c7b0 : decide (x14_1 < (l1.length : Int)) = true := decide_eq_true c7
        clear c7
        by_cases c8 : (rd l0 x14_1) = (rd l1 x14_1)
        ·rw [if_pos c8] at H
         have c8b0 : ((rd l0 x14_1) == (rd l1 x14_1)) = true := beq_iff_eq.mpr c8
         have c8b1 : ((rd l0 x14_1) != (rd l1 x14_1)) = false := bne_eq_false_iff_eq.mpr c8
         clear c8
         have H' := Aside0.mk H
         clear H
         have p784 : 0 ≤ (x14_1 : Int) := ofA
         have q784 : x14_1 < (l0.length : Int) := ofA
         obtain ⟨ad784, e784, hx784_0⟩ := Kd.at_int HR0.out x14_1 p784 q784
         cases e784
         replace p784 := eq_true p784
         replace q784 := eq_true q784
         have p785 : 0 ≤ (x14_1 : Int) := ofA
         have q785 : x14_1 < (l1.length : Int) := ofA
         obtain ⟨ad785, e785, hx785_0⟩ := Kd.at_int HR1.out x14_1 p785 q785
         cases e785
         replace p785 := eq_true p785
         replace q785 := eq_true q785
         go_wp2
         go_roundg k1
         case measure => have := HK1.out; omega
         case rel => exact ⟨(wrap64 (x14_1 + 1)), eqA, H', ⟨by have := HK1.out; omega⟩, by repeat (first | exact Drawn0.refl _ | apply Drawn0.step)⟩
        rw [if_neg c8] at H
        have c8b0 : ((rd l0 x14_1) == (rd l1 x14_1)) = false := beq_eq_false_iff_ne.mpr c8
        have c8b1 : ((rd l0 x14_1) != (rd l1 x14_1)) = true := bne_iff_ne.mpr c8
        obtain rfl := Option.some.inj H
        have p784 : 0 ≤ (x14_1 : Int) := ofA
        have q784 : x14_1 < (l0.length : Int) := ofA
        obtain ⟨ad784, e784, hx784_0⟩ := Kd.at_int HR0.out x14_1 p784 q784
        cases e784
        replace p784 := eq_true p784
        replace q784 := eq_true q784
        have p785 : 0 ≤ (x14_1 : Int) := ofA
        have q785 : x14_1 < (l1.length : Int) := ofA
        obtain ⟨ad785, e785, hx785_0⟩ := Kd.at_int HR1.out x14_1 p785 q785
        cases e785
        replace p785 := eq_true p785
        replace q785 := eq_true q785
        go_wp2
        go_ret
        exact ⟨eqA, by repeat (first | exact Drawn0.refl _ | apply Drawn0.step)⟩
       rw [if_neg c7] at H
       exact absurd H (by simp)
      rw [if_neg c6] at H
      exact absurd H (by simp)
     rw [if_neg c5] at H
     exact absurd H (by simp)
    rw [if_neg c4] at H
    have c4b0 : decide (x14_1 < (l0.length : Int)) = false := decide_eq_false c4
    clear c4
    obtain rfl := Option.some.inj H
    go_wp2
    go_ret
    exact ⟨eqA, by repeat (first | exact Drawn0.refl _ | apply Drawn0.step)⟩
 rw [if_neg c3] at H
 have c3b0 : ((l0.length : Int) == (l1.length : Int)) = false := beq_eq_false_iff_ne.mpr c3
 have c3b1 : ((l0.length : Int) != (l1.length : Int)) = true := bne_iff_ne.mpr c3
 have c3b2 : (l0.length == l1.length) = false := by first | simpa using c3 | (simp at c3 ⊢; omega)
 obtain rfl := Option.some.inj H
 go_enter Try.func28, Try.ntmps28
 go_wp2
 go_ret
 exact ⟨eqA, by repeat (first | exact Drawn0.refl _ | apply Drawn0.step)⟩
def spec_MakeScript.l0 : Nat → List Int → Int → Int → List (S67) → List Int → Int → Int → Option (List Int)
 | 0, _, _, _, _, _, _, _ => none
 | k + 1, x8, x9, x799000, x799001, x803000, x803001, x803002 => if x9 < x799000 then ((spec_l01Below.f x803000 x803001 x803002 7).bind fun bt806 => (if x8.length < 17592186044416 then (spec_MakeScript.l0 k (x8 ++ [wrap64 (bt806.1 - 3)]) (wrap64 (x9 + 1)) x799000 x799001 x803000 bt806.2.1 bt806.2.2) else (none))) else (some x8)
def spec_MakeScript.f (k : Nat) (l0 : List Int) (a1 : Int) (a2_0 : Int) (l2_1 : List (S67)) : Option (List Int) := (spec_l21New.f k l0 a1).bind fun bt799 => (spec_MakeScript.l0 k (([] : List Int)) 0 a2_0 l2_1 bt799.1 bt799.2.1 bt799.2.2)
set_option maxHeartbeats 8000000 in
set_option maxRecDepth 100000 in
theorem spec_MakeScript.calls (k : Nat) (A0 : Option Addr) (c0 : Nat) (l0 : List Int) (a1 : Int) (a2_0 : Int) (A2_1 : Option Addr) (c2_1 : Nat) (l2_1 : List (S67)) (r : List Int) (w : World) (hr0 : Kd.C (Kd.int .u8) w A0 l0.length l0) (hc0 : l0.length ≤ c0) (hr2_1 : Kd.C k67 w A2_1 l2_1.length l2_1) (hc2_1 : l2_1.length ≤ c2_1) (h : spec_MakeScript.f k l0 a1 a2_0 l2_1 = some r) :
  Calls Try.prog 30 #[.slice A0 l0.length c0, .int .i64 a1, .agg #[.int .i64 a2_0, .slice A2_1 l2_1.length c2_1]] w fun e w' => ∃ v0_ : Value, e = .returned (v0_) ∧ Kd.R (Kd.int .i64) 3 w' w.heap.size (fun _ => True) v0_ r ∧ Below w.heap.size w w' := by
 have hu31 := Try.underlying31
 have HR0 := Aside0.mk hr0
 have HC0 := Aside0.mk hc0
 clear hr0 hc0
 have HR2_1 := Aside0.mk hr2_1
 have HC2_1 := Aside0.mk hc2_1
 clear hr2_1 hc2_1
 have HB := Aside0.mk (Below.refl w.heap.size w)
 have H : ((spec_l21New.f k l0 a1).bind fun bt799 => (spec_MakeScript.l0 k (([] : List Int)) 0 a2_0 l2_1 bt799.1 bt799.2.1 bt799.2.2)) = some r := h
 clear h
 replace H := Option.bind_eq_some_iff.mp H
 obtain ⟨⟨t799, t800, t801⟩, A40, H⟩ := H
 replace H : (spec_MakeScript.l0 k (([] : List Int)) 0 a2_0 l2_1 t799 t800 t801) = some r := H
 have A4 := Aside0.mk A40
 clear A40
 obtain ⟨y803, hy803⟩ : ∃ y_ : List Int, y_ = (([] : List Int)) := ⟨_, rfl⟩
 replace H : (spec_MakeScript.l0 k y803 0 a2_0 l2_1 t799 t800 t801) = some r := by first | (rw [hy803]; with_reducible exact H) | (have H2_ := (Option.bind_some _ _).symm.trans H; rw [hy803]; with_reducible exact H2_) | (have H2_ := (Option.bind_some _ _).symm.trans H; with_reducible exact H2_) | with_reducible exact H | (rw [hy803]; exact H) | exact H
 have Ny803 := Aside0.mk hy803
 clear hy803
 have H' := Aside0.mk H
 clear H
 go_enter Try.func30, Try.ntmps30
 go_wp2_with (first | ((with_reducible refine gate_dst (N := 5) rfl ?_); refine box_event ?hg (N := 5) ?hd (cs := #[.int .i64 a2_0, .slice A2_1 l2_1.length c2_1]) (t := 31) ?hr ?_; (case hd => rfl); (case hg => rfl); (case hr => first | (go_simp; done) | (go_simp; rfl)); intro gb798 hg w5 hbox hb; have BK798 := Aside0.mk (hbox); have GW798 := Aside0.mk ((by rw [hg]; exact (below_size (Lz HB)) : w.heap.size ≤ gb798)); have GE798 := Aside0.mk ((by rw [hg]; exact (below_size (Lz HB)) : w.heap.size ≤ gb798)); replace HB := Aside0.mk (below_step (Lz HB) hb); clear hb hbox hg) | ((with_reducible refine gate_callee (f := 69) rfl ?_); refine goesM_ (some 12) rfl rfl Try.func69 (by kernel_rfl) rfl #[.slice A0 l0.length c0, .int .i64 a1] rfl ?_; (with_reducible refine (spec_l21New.calls k _ _ l0 a1 t799 t800 t801 w _ ?side1 ?side2 ?side3 A4.out).mono ?_); (case side1 => exact Lz1 HB GE798); (case side2 => exact HR0.out); (case side3 => exact HC0.out); rintro e w6 ⟨g802, rfl, hi, hb, hb2⟩; refine ⟨_, rfl, ?_⟩; replace HB := Aside0.mk (hb); have HI802 := Aside0.mk (hi); have NB802_798 := Aside0.mk (IsS101.ne_blk hi (blk_below (g := gb798) (o := .cells #[.int .i64 a2_0, .slice A2_1 l2_1.length c2_1] 31 (0, 0)) (Bz BK798) hb2) (by decide)); have NB798_802 := Aside0.mk (Ne.symm (IsS101.ne_blk hi (blk_below (g := gb798) (o := .cells #[.int .i64 a2_0, .slice A2_1 l2_1.length c2_1] 31 (0, 0)) (Bz BK798) hb2) (by decide))); replace BK798 := Aside0.mk (blk_below (g := gb798) (o := .cells #[.int .i64 a2_0, .slice A2_1 l2_1.length c2_1] 31 (0, 0)) (Bz BK798) hb2); (try clear hb); (try clear hb2); (try clear hk); (try clear hi)) | ((with_reducible refine gate_dst (N := 13) rfl ?_); refine Kd.R_lit (Kd.int .i64) _ 3 ?hg (N := 13) ?hd (xs := ([] : List Int)) (inner := []) (ok := fun _ => True) (okp := fun _ => True) ?hr ?hp (fun _ hk => hk) trivial (Below.refl _ _) (Nat.le_refl _) (by simp) ?_; (case hd => rfl); (case hg => rfl); (case hr => first | (go_simp; done) | (go_simp; rfl)); (case hp => exact (Reps.none _ _)); intro v804 w7 ho8 hb hg_ hnew_; clear hg_ hnew_; (first | rw [← Ny803.out] at ho8 | (simp only [Int.reduceToNat] at ho8; rw [← Ny803.out] at ho8)); have HO805 := Aside0.mk (Kd.R_lower ho8 (below_size (by repeat (first | (with_reducible first | exact HB.out | apply below_alloc | apply pw_below_drewN | apply below_drew1 | refine below_set ?_ (IsS101.ge HI802.out) | refine below_set ?_ GE798.out) | exact HB.out)))); replace BK798 := Aside0.mk (blk_below (g := gb798) (o := .cells #[.int .i64 a2_0, .slice A2_1 l2_1.length c2_1] 31 (0, 0)) (Bz BK798) hb); replace HB := Aside0.mk (below_step (by repeat (first | (with_reducible first | exact HB.out | apply below_alloc | apply pw_below_drewN | apply below_drew1 | refine below_set ?_ (IsS101.ge HI802.out) | refine below_set ?_ GE798.out) | exact HB.out)) hb); replace HI802 := Aside0.mk (IsS101.below (by repeat (first | (with_reducible first | exact HI802.out | apply IsS101.alloc | apply IsS101.drewN | apply IsS101.drew | apply IsS101.set_1 | apply IsS101.set_2 | refine IsS101.far ?_ NB802_798.out _) | exact HI802.out)) hb); clear hb ho8))
 go_loopg [8, 9] k (fun kq v8 v9 w' => ∃ (x8_1 : List Int) (x9_1 : Int) (x803001_1 : Int) (x803002_1 : Int), v9 = .int .i64 x9_1 ∧ Aside0 (spec_MakeScript.l0 kq x8_1 x9_1 a2_0 l2_1 t799 x803001_1 x803002_1 = some r) ∧ Aside0 (kq ≤ k) ∧ Aside0 (Kd.R (Kd.int .i64) 3 w' w.heap.size (fun _ => True) v8 x8_1) ∧ Aside0 (w'.heap[gb798]? = some (.cells #[.int .i64 a2_0, (.slice A2_1 l2_1.length c2_1)] 31 (0, 0))) ∧ Aside0 (IsS101 w w' g802 t799 x803001_1 x803002_1) ∧ Aside0 (Below w.heap.size w w'))
 case atStart => exact ⟨(y803), (0), (t800), (t801), eqA, H', ⟨Nat.le_refl _⟩, ⟨by exact Rz HO805⟩, ⟨by exact Bz BK798⟩, ⟨by repeat (first | (with_reducible first | exact HI802.out | apply IsS101.alloc | apply IsS101.drewN | apply IsS101.drew | apply IsS101.set_1 | apply IsS101.set_2 | refine IsS101.far ?_ NB802_798.out _) | exact HI802.out)⟩, ⟨by repeat (first | (with_reducible first | exact HB.out | apply below_alloc | apply pw_below_drewN | apply below_drew1 | refine below_set ?_ (IsS101.ge HI802.out) | refine below_set ?_ GE798.out) | exact HB.out)⟩⟩
 case round =>
  clear H'
  obtain ⟨x8_1, x9_1, x803001_1, x803002_1, rfl, HA, HK1, HO_8, BK798, HI802, HB⟩ := hrel
  cases gk with
  | zero => exact absurd HA.out (by simp [spec_MakeScript.l0])
  | succ k1 =>
   have H := HA.out
   clear HA
   simp only [spec_MakeScript.l0] at H
   by_cases c9 : x9_1 < a2_0
   ·rw [if_pos c9] at H
    have c9b0 : decide (x9_1 < a2_0) = true := decide_eq_true c9
    clear c9
    replace H := Option.bind_eq_some_iff.mp H
    obtain ⟨⟨t806, t807, t808⟩, A100, H⟩ := H
    replace H : (if x8_1.length < 17592186044416 then (spec_MakeScript.l0 k1 (x8_1 ++ [wrap64 (t806 - 3)]) (wrap64 (x9_1 + 1)) a2_0 l2_1 t799 t807 t808) else (none)) = some r := H
    have A10 := Aside0.mk A100
    clear A100
    by_cases c11 : x8_1.length < 17592186044416
    ·rw [if_pos c11] at H
     have LMc11 := Aside0.mk c11
     clear c11
     obtain ⟨y809, hy809⟩ : ∃ y_ : List Int, y_ = (x8_1 ++ [wrap64 (t806 - 3)]) := ⟨_, rfl⟩
     replace H : (spec_MakeScript.l0 k1 y809 (wrap64 (x9_1 + 1)) a2_0 l2_1 t799 t807 t808) = some r := by first | (rw [hy809]; with_reducible exact H) | (have H2_ := (Option.bind_some _ _).symm.trans H; rw [hy809]; with_reducible exact H2_) | (have H2_ := (Option.bind_some _ _).symm.trans H; with_reducible exact H2_) | with_reducible exact H | (rw [hy809]; exact H) | exact H
     have Ny809 := Aside0.mk hy809
     clear hy809
     have H' := Aside0.mk H
     clear H
     have hnb12 := NB798_802.out
     have hnc12 := NB802_798.out
     have hcz13_0 : wr.cell? ⟨gb798, 0, none⟩ = some (.int .i64 a2_0) := (blk_cell BK798.out 0).trans rfl
     have hcz13_1 : wr.cell? ⟨gb798, 1, none⟩ = some (.slice A2_1 l2_1.length c2_1) := (blk_cell BK798.out 1).trans rfl
     have hfz13_0 := blk_frozen BK798.out 0
     have hfz13_1 := blk_frozen BK798.out 1
     go_wp2_with (first | ((with_reducible refine gate_callee (f := 75) rfl ?_); refine goesM_ (some 22) rfl rfl Try.func75 (by kernel_rfl) rfl #[.pointer (some ⟨g802, 0, none⟩), .int .i64 7] rfl ?_; (with_reducible refine (spec_l01Below.calls g802 t799 x803001_1 x803002_1 7 t806 t807 t808 w _ ?side1 ?side2 A10.out).mono ?_); (case side1 => repeat (first | (with_reducible first | exact HI802.out | apply IsS101.alloc | apply IsS101.drewN | apply IsS101.drew | apply IsS101.set_1 | apply IsS101.set_2 | refine IsS101.far ?_ NB802_798.out _) | exact HI802.out)); (case side2 => repeat (first | (with_reducible first | exact HB.out | apply below_alloc | apply pw_below_drewN | apply below_drew1 | refine below_set ?_ (IsS101.ge HI802.out) | refine below_set ?_ GE798.out) | exact HB.out)); rintro e w14 ⟨rfl, hi, hb, hk⟩; refine ⟨_, rfl, ?_⟩; replace HO_8 := Aside0.mk (Kd.R_mono (Kd.R_keep (IsS101.apart (show IsS101 w _ g802 t799 x803001_1 x803002_1 from by repeat (first | (with_reducible first | exact HI802.out | apply IsS101.alloc | apply IsS101.drewN | apply IsS101.drew | apply IsS101.set_1 | apply IsS101.set_2 | refine IsS101.far ?_ NB802_798.out _) | exact HI802.out)) (Rz HO_8) (by decide)) hk (fun _ h => h.2)) (fun _ h => h.1)); replace BK798 := Aside0.mk (KeepBut.blk hk (g' := gb798) (o := .cells #[.int .i64 a2_0, .slice A2_1 l2_1.length c2_1] 31 (0, 0)) (Bz BK798) NB798_802.out (by simp)); replace HB := Aside0.mk (hb); replace HI802 := Aside0.mk (hi); (try clear hb); (try clear hb2); (try clear hk); (try clear hi)) | ((with_reducible refine gate_builtin (b := .append) (xs := #[.tmp 20, .tmp 24]) rfl ?_); at_builtin; refine Kd.R_append (Kd.int .i64) (w0 := w) w.heap.size rfl (.tmp 20) (.tmp 24) 25 3 (.int .i64 0) 8 rfl Try.underlying25 info3 rfl (by decide) (by omega) u8 x8_1 (wrap64 (t806 - 3)) [.int .i64 (wrap64 (t806 - 3))] (fun _ => True) (fun _ => False) rfl rfl ?aP (fun _ hk => hk.elim) ?aF ?aO ?aB ?aS ?aL ?_; (case aP => exact rfl); (case aB => exact (by repeat (first | (with_reducible first | exact HB.out | apply below_alloc | apply pw_below_drewN | apply below_drew1 | refine below_set ?_ (IsS101.ge HI802.out) | refine below_set ?_ GE798.out) | exact HB.out))); (case aF => exact (fun _ _ => trivial)); (case aO => exact (Rz HO_8)); (case aS => exact (below_size (by repeat (first | (with_reducible first | exact HB.out | apply below_alloc | apply pw_below_drewN | apply below_drew1 | refine below_set ?_ (IsS101.ge HI802.out) | refine below_set ?_ GE798.out) | exact HB.out)))); (case aL => have := LMc11.out; omega); intro v810 w15 ho hb hg hat; rw [← Ny809.out] at ho; replace BK798 := Aside0.mk (blk_grown (g := gb798) (o := .cells #[.int .i64 a2_0, .slice A2_1 l2_1.length c2_1] 31 (0, 0)) (Bz BK798) hg (Kd.R_ne HO_8.out BK798.out (by decide))); replace HI802 := Aside0.mk (IsS101.grownF HI802.out (by repeat (first | (with_reducible first | exact HI802.out | apply IsS101.alloc | apply IsS101.drewN | apply IsS101.drew | apply IsS101.set_1 | apply IsS101.set_2 | refine IsS101.far ?_ NB802_798.out _) | exact HI802.out)) hg (IsS101.own_ne HI802.out HO_8.out (by decide))); replace HB := Aside0.mk (hb); have HO811 := Aside0.mk (ho); clear HO_8; clear ho hb hg hat))
     go_roundg k1
     case measure => have := HK1.out; omega
     case rel => exact ⟨(y809), (wrap64 (x9_1 + 1)), (t807), (t808), eqA, H', ⟨by have := HK1.out; omega⟩, ⟨by exact Rz HO811⟩, ⟨by exact Bz BK798⟩, ⟨by repeat (first | (with_reducible first | exact HI802.out | apply IsS101.alloc | apply IsS101.drewN | apply IsS101.drew | apply IsS101.set_1 | apply IsS101.set_2 | refine IsS101.far ?_ NB802_798.out _) | exact HI802.out)⟩, ⟨by repeat (first | (with_reducible first | exact HB.out | apply below_alloc | apply pw_below_drewN | apply below_drew1 | refine below_set ?_ (IsS101.ge HI802.out) | refine below_set ?_ GE798.out) | exact HB.out)⟩⟩
    rw [if_neg c11] at H
    exact absurd H (by simp)
   rw [if_neg c9] at H
   have c9b0 : decide (x9_1 < a2_0) = false := decide_eq_false c9
   clear c9
   obtain rfl := Option.some.inj H
   have hnb16 := NB798_802.out
   have hnc16 := NB802_798.out
   have hcz17_0 : wr.cell? ⟨gb798, 0, none⟩ = some (.int .i64 a2_0) := (blk_cell BK798.out 0).trans rfl
   have hcz17_1 : wr.cell? ⟨gb798, 1, none⟩ = some (.slice A2_1 l2_1.length c2_1) := (blk_cell BK798.out 1).trans rfl
   have hfz17_0 := blk_frozen BK798.out 0
   have hfz17_1 := blk_frozen BK798.out 1
   go_wp2
   go_ret
   exact ⟨_, by first | rfl | (simp [errW_none, errW_some] <;> rfl) | (simp [*, errW_none, errW_some] <;> rfl), by exact Rz HO_8, by repeat (first | (with_reducible first | exact HB.out | apply below_alloc | apply pw_below_drewN | apply below_drew1 | refine below_set ?_ (IsS101.ge HI802.out) | refine below_set ?_ GE798.out) | exact HB.out)⟩
def impl_AddDivisors.f (k : Nat) (l0 : List Int) (l1 : List Int) : Option (List Int × Bool) := if (l0.length : Int) = (l1.length : Int) then ((impl_plus.f k l0 l1).bind fun t939 => (some (t939, true))) else (some (([] : List Int), false))
set_option maxHeartbeats 8000000 in
set_option maxRecDepth 100000 in
theorem impl_AddDivisors.calls (k : Nat) (A0 : Option Addr) (c0 : Nat) (l0 : List Int) (A1 : Option Addr) (c1 : Nat) (l1 : List Int) (r1 : List Int) (r2 : Bool) (w : World) (hr0 : Kd.C (Kd.int .i64) w A0 l0.length l0) (hc0 : l0.length ≤ c0) (hr1 : Kd.C (Kd.int .i64) w A1 l1.length l1) (hc1 : l1.length ≤ c1) (h : impl_AddDivisors.f k l0 l1 = some (r1, r2)) :
  Calls Try.prog 37 #[.slice A0 l0.length c0, .slice A1 l1.length c1] w fun e w' => ∃ v0_ : Value, e = .returned (.tuple #[v0_, .bool r2]) ∧ Kd.R (Kd.int .i64) 3 w' w.heap.size (fun _ => True) v0_ r1 ∧ Below w.heap.size w w' := by
 have HR0 := Aside0.mk hr0
 have HC0 := Aside0.mk hc0
 clear hr0 hc0
 have HR1 := Aside0.mk hr1
 have HC1 := Aside0.mk hc1
 clear hr1 hc1
 have HB := Aside0.mk (Below.refl w.heap.size w)
 have H : (if (l0.length : Int) = (l1.length : Int) then ((impl_plus.f k l0 l1).bind fun t939 => (some (t939, true))) else (some (([] : List Int), false))) = some (r1, r2) := h
 clear h
 by_cases c3 : (l0.length : Int) = (l1.length : Int)
 ·rw [if_pos c3] at H
  have c3b0 : ((l0.length : Int) == (l1.length : Int)) = true := beq_iff_eq.mpr c3
  have c3b1 : ((l0.length : Int) != (l1.length : Int)) = false := bne_eq_false_iff_eq.mpr c3
  have c3b2 : (l0.length == l1.length) = true := by first | simpa using c3 | (simp at c3 ⊢; omega)
  clear c3
  replace H := Option.bind_eq_some_iff.mp H
  obtain ⟨t939, A40, H⟩ := H
  replace H : (some (t939, true)) = some (r1, r2) := H
  have A4 := Aside0.mk A40
  clear A40
  simp only [Option.some.injEq, Prod.mk.injEq] at H
  obtain ⟨rfl, rfl⟩ := H
  go_enter Try.func37, Try.ntmps37
  go_wp2_with (first | ((with_reducible refine gate_callee (f := 65) rfl ?_); refine goesM_ (some 13) rfl rfl Try.func65 (by kernel_rfl) rfl #[.slice A0 l0.length c0, .slice A1 l1.length c1] rfl ?_; (with_reducible refine (impl_plus.calls k _ _ l0 _ _ l1 t939 _ ?side1 ?side2 ?side3 ?side4 A4.out).mono ?_); (case side1 => exact Cz (HR0.out)); (case side2 => exact HC0.out); (case side3 => exact Cz (HR1.out)); (case side4 => exact HC1.out); rintro e w5 ⟨v940, rfl, ho0, hb⟩; refine ⟨_, rfl, ?_⟩; have HO941 := Aside0.mk (Kd.R_lower ho0 (below_size (Lz HB))); replace HB := Aside0.mk (below_step (Lz HB) hb); (try clear hb); (try clear ho0)))
  go_ret2
  exact ⟨_, by first | rfl | (simp [errW_none, errW_some] <;> rfl) | (simp [*, errW_none, errW_some] <;> rfl), by exact Rz HO941, by exact Lz HB⟩
 rw [if_neg c3] at H
 have c3b0 : ((l0.length : Int) == (l1.length : Int)) = false := beq_eq_false_iff_ne.mpr c3
 have c3b1 : ((l0.length : Int) != (l1.length : Int)) = true := bne_iff_ne.mpr c3
 have c3b2 : (l0.length == l1.length) = false := by first | simpa using c3 | (simp at c3 ⊢; omega)
 simp only [Option.some.injEq, Prod.mk.injEq] at H
 obtain ⟨rfl, rfl⟩ := H
 go_enter Try.func37, Try.ntmps37
 go_wp2
 go_ret2
 exact ⟨_, by first | rfl | (simp [errW_none, errW_some] <;> rfl) | (simp [*, errW_none, errW_some] <;> rfl), by first | exact Kd.R_nil _ _ _ _ _ | exact Kd.N_nil _ _ _ _ _ | exact Kd.V_nil _ _ _ _ _ | exact Kd.Q_nil _ _ _ _ _ | exact Kd.S_nil _ _ _ _ _, by exact Lz HB⟩
def impl_IsPrincipal.f (k : Nat) (a0_0 : Int) (l0_1 : List (S67)) (l1 : List Int) : Option (Bool) := (impl_DivisorOk.f k a0_0 l0_1 l1).bind fun t943 => (if t943 = true then (if 0 ≤ a0_0 then (if (a0_0 : Int).toNat ≤ 35184372088832 then ((impl_AreEquivalent.f k a0_0 l0_1 l1 (List.replicate (a0_0 : Int).toNat 0)).bind fun t947 => (some t947)) else (none)) else (none)) else (some false))
def impl_IsPrincipal.T1 : Bool × List (List Nat × List Nat) := (true, [([], []), ([], []), ([0, 1], [0, 1]), ([2, 2], [2]), ([3], [3]), ([3], [3]), ([3], [3]), ([6, 3], [3, 6]), ([7, 7, 3], [3, 7]), ([4, 5, 8, 3, 3], [3, 4, 5, 8]), ([3, 9], [3, 9]), ([10, 9, 0, 1, 2, 3, 4, 5, 6, 7, 8, 9, 10], [10])])
def impl_IsPrincipal.B1 : List Nat := [0, 0, 3, 7, 15, 15, 15, 79, 207, 511, 1023, 2047]
theorem impl_IsPrincipal.tab1 : rtab .any (opsOf Try.f39 1) = impl_IsPrincipal.T1 := by kernel_rfl
theorem impl_IsPrincipal.bits1 : waitsOk impl_IsPrincipal.T1.2 impl_IsPrincipal.B1 = true := by kernel_rfl
set_option maxHeartbeats 8000000 in
set_option maxRecDepth 100000 in
theorem impl_IsPrincipal.calls (k : Nat) (a0_0 : Int) (A0_1 : Option Addr) (c0_1 : Nat) (l0_1 : List (S67)) (A1 : Option Addr) (c1 : Nat) (l1 : List Int) (r : Bool) (w : World) (hr0_1 : Kd.C k67 w A0_1 l0_1.length l0_1) (hc0_1 : l0_1.length ≤ c0_1) (hr1 : Kd.C (Kd.int .i64) w A1 l1.length l1) (hc1 : l1.length ≤ c1) (h : impl_IsPrincipal.f k a0_0 l0_1 l1 = some r) :
  Calls Try.prog 39 #[.agg #[.int .i64 a0_0, .slice A0_1 l0_1.length c0_1], .slice A1 l1.length c1] w fun e w' => e = .returned (.bool r) ∧ Below w.heap.size w w' := by
 have hu31 := Try.underlying31
 have HR0_1 := Aside0.mk hr0_1
 have HC0_1 := Aside0.mk hc0_1
 clear hr0_1 hc0_1
 have HR1 := Aside0.mk hr1
 have HC1 := Aside0.mk hc1
 clear hr1 hc1
 have HB := Aside0.mk (Below.refl w.heap.size w)
 have H : ((impl_DivisorOk.f k a0_0 l0_1 l1).bind fun t943 => (if t943 = true then (if 0 ≤ a0_0 then (if (a0_0 : Int).toNat ≤ 35184372088832 then ((impl_AreEquivalent.f k a0_0 l0_1 l1 (List.replicate (a0_0 : Int).toNat 0)).bind fun t947 => (some t947)) else (none)) else (none)) else (some false))) = some r := h
 clear h
 replace H := Option.bind_eq_some_iff.mp H
 obtain ⟨t943, A30, H⟩ := H
 replace H : (if t943 = true then (if 0 ≤ a0_0 then (if (a0_0 : Int).toNat ≤ 35184372088832 then ((impl_AreEquivalent.f k a0_0 l0_1 l1 (List.replicate (a0_0 : Int).toNat 0)).bind fun t947 => (some t947)) else (none)) else (none)) else (some false)) = some r := H
 have A3 := Aside0.mk A30
 clear A30
 by_cases c4 : t943 = true
 ·subst c4
  have H1 : (if 0 ≤ a0_0 then (if (a0_0 : Int).toNat ≤ 35184372088832 then ((impl_AreEquivalent.f k a0_0 l0_1 l1 (List.replicate (a0_0 : Int).toNat 0)).bind fun t947 => (some t947)) else (none)) else (none)) = some r := by rw [if_pos rfl] at H; exact H
  clear H
  have H := H1
  clear H1
  by_cases c5 : 0 ≤ a0_0
  ·rw [if_pos c5] at H
   have c5b0 := eq_true c5
   have c5b1 : decide (0 ≤ a0_0) = true := decide_eq_true c5
   clear c5
   by_cases c6 : (a0_0 : Int).toNat ≤ 35184372088832
   ·rw [if_pos c6] at H
    have c6b0 := eq_true c6
    have c6b1 : decide ((a0_0 : Int).toNat ≤ 35184372088832) = true := decide_eq_true c6
    clear c6
    obtain ⟨y944, hy944⟩ : ∃ y_ : List Int, y_ = (List.replicate (a0_0 : Int).toNat 0) := ⟨_, rfl⟩
    replace H : ((impl_AreEquivalent.f k a0_0 l0_1 l1 y944).bind fun t947 => (some t947)) = some r := by first | (rw [hy944]; with_reducible exact H) | (have H2_ := (Option.bind_some _ _).symm.trans H; rw [hy944]; with_reducible exact H2_) | (have H2_ := (Option.bind_some _ _).symm.trans H; with_reducible exact H2_) | with_reducible exact H | (rw [hy944]; exact H) | exact H
    have Ny944 := Aside0.mk hy944
    clear hy944
    replace H := Option.bind_eq_some_iff.mp H
    obtain ⟨t947, A70, H⟩ := H
    replace H : (some t947) = some r := H
    have A7 := Aside0.mk A70
    clear A70
    obtain rfl := Option.some.inj H
    go_enter Try.func39, Try.ntmps39
    try go_wp2_with (first | ((with_reducible refine gate_dst (N := 2) rfl ?_); (try (refine gate_guard (by rfl) ?_; dsimp only)); refine box_event ?hg (N := 2) ?hd (cs := #[.int .i64 a0_0, .slice A0_1 l0_1.length c0_1]) (t := 31) ?hr ?_; (case hd => rfl); (case hg => rfl); (case hr => first | (go_simp; done) | (go_simp; rfl)); intro gb942 hg w8 hbox hb; have BK942 := Aside0.mk (hbox); have GW942 := Aside0.mk ((by rw [hg]; exact (below_size (Lz HB)) : w.heap.size ≤ gb942)); have GE942 := Aside0.mk ((by rw [hg]; exact (below_size (Lz HB)) : w.heap.size ≤ gb942)); replace HB := Aside0.mk (below_step (Lz HB) hb); clear hb hbox hg))
    replace BK942 := Aside0.mk (blk_drew BK942.out)
    replace HB := Aside0.mk (below_drew1 HB.out)
    refine start_ (n := 12) (S := fun w' => w'.cell? ⟨gb942, 0, none⟩ = some (.int .i64 a0_0) ∧ w'.cell? ⟨gb942, 1, none⟩ = some (.slice A0_1 l0_1.length c0_1)) (ds := []) #[false, false, false, false, false, false, false, false, false, false, false, false] (by kernel_rfl) rfl rfl ⟨(blk_cell BK942.out 0).trans rfl, (blk_cell BK942.out 1).trans rfl⟩ (fun hHeld => ?_); refine with_tabW impl_IsPrincipal.tab1 impl_IsPrincipal.bits1 (fun HT_ HW_ => ?_)
    generalize w8.drew = w9 at BK942 HB hHeld ⊢
    refine pureT_ 1 6 HT_ ?_
    refine takeT_ 0 5 HT_ HW_ hHeld rfl (by rintro w' ⟨s0, s1⟩; go_simp; with_reducible rfl) ?_
    refine one_ (i := 2) (N := some 7) #[true, true, true, false, false, false, false, false, false, false, false, false] rfl rfl (one_of HT_.out (by kernel_rfl)) (by decide) (fun K hK => ?_)
    refine goes_ Try.func71 (by kernel_rfl) rfl #[.agg #[.int .i64 a0_0, .slice A0_1 l0_1.length c0_1], .slice A1 l1.length c1] (by rfl) rfl rfl (by (try simp only [List.map_toArray, List.map_cons, List.map_nil]); first | done | rfl | (simp only [List.length_drop, List.length_take]; rfl)) ?_
    with_reducible refine (impl_DivisorOk.calls k a0_0 _ _ l0_1 _ _ l1 true _ ?side1 ?side2 ?side3 ?side4 A3.out).mono ?_
    (case side1 => exact Cz ((Kd.C_below HR0_1.out HB.out)))
    (case side2 => exact HC0_1.out)
    (case side3 => exact Cz ((Kd.C_below HR1.out HB.out)))
    (case side4 => exact HC1.out)
    rintro e w10 ⟨rfl, hb⟩
    refine ⟨_, rfl, ?_⟩
    replace BK942 := Aside0.mk (blk_below (g := gb942) (o := .cells #[.int .i64 a0_0, .slice A0_1 l0_1.length c0_1] 31 (0, 0)) (Bz BK942) hb)
    replace HB := Aside0.mk (below_step (by exact Lz1 HB GE942) hb)
    (try clear hb)
    (try clear hb2)
    (try clear hk)
    (try clear hi)
    refine hK.out _ _ ⟨(blk_cell BK942.out 0).trans rfl, (blk_cell BK942.out 1).trans rfl⟩ (fun hHeld => ?_)
    clear hK K
    refine norm_ (a' := ?_) ?_ ?_
    rotate_left
    ·show Act.put _ (some 7) _ = _
     simp only [Act.put, List.setIfInBounds_toArray, List.set_cons_zero, List.set_cons_succ, i64_w, i32_w]
     rfl
    refine pureT_ 3 8 HT_ ?_
    refine pureT_ 5 10 HT_ ?_
    refine pureT_ 6 11 HT_ ?_
    refine takeT_ 4 9 HT_ HW_ hHeld rfl (by rintro w' ⟨s0, s1⟩; go_simp; with_reducible rfl) ?_
    refine takeT_ 7 12 HT_ HW_ hHeld rfl (by rintro w' ⟨s0, s1⟩; go_simp; with_reducible rfl) ?_
    refine one_ (i := 8) (N := some 13) #[true, true, true, true, true, true, true, true, true, false, false, false] rfl rfl (one_of HT_.out (by kernel_rfl)) (by decide) (fun K hK => ?_)
    refine Kd.R_make_step (Kd.int .i64) _ 3 (by rfl) (N := 13) rfl 25 _ _ rfl a0_0 rfl rfl Try.underlying25 (.int .i64 0) 8 info3 rfl (by decide) (by omega) 0 (ok := fun _ => True) (okp := fun _ => True) rfl (fun _ hk => hk) trivial (ofA) (Nat.le_trans (Nat.mul_le_mul_right _ (ofA : a0_0.toNat ≤ 35184372088832)) (by omega)) (Below.refl _ _) (Nat.le_refl _) ?_
    intro v945 w11 ho12 hb hg_ hnew_
    clear hg_ hnew_
    (first | rw [← Ny944.out] at ho12 | (simp only [Int.reduceToNat] at ho12; rw [← Ny944.out] at ho12))
    have HO946 := Aside0.mk (Kd.R_lower ho12 (below_size (by exact Lz1 HB GE942)))
    replace BK942 := Aside0.mk (blk_below (g := gb942) (o := .cells #[.int .i64 a0_0, .slice A0_1 l0_1.length c0_1] 31 (0, 0)) (Bz BK942) hb)
    replace HB := Aside0.mk (below_step (by exact Lz1 HB GE942) hb)
    clear hb ho12
    obtain ⟨Ao13, co13, eo13⟩ := Kd.R_slice HO946.out
    (first | subst eo13 | (injection eo13 with f1_ f2_ f3_; have f4_ := f1_.symm; have f5_ := f3_.symm; clear f1_ f2_ f3_; subst f4_; subst f5_))
    refine hK.out _ _ ⟨(blk_cell BK942.out 0).trans rfl, (blk_cell BK942.out 1).trans rfl⟩ (fun hHeld => ?_)
    clear hK K
    refine norm_ (a' := ?_) ?_ ?_
    rotate_left
    ·show Act.put _ (some 13) _ = _
     simp only [Act.put, List.setIfInBounds_toArray, List.set_cons_zero, List.set_cons_succ, i64_w, i32_w]
     rfl
    refine one_ (i := 9) (N := some 14) #[true, true, true, true, true, true, true, true, true, true, false, false] rfl rfl (one_of HT_.out (by kernel_rfl)) (by decide) (fun K hK => ?_)
    refine goes_ Try.func45 (by kernel_rfl) rfl #[.agg #[.int .i64 a0_0, .slice A0_1 l0_1.length c0_1], .slice A1 l1.length c1, .slice Ao13 y944.length co13] (by rfl) rfl rfl (by (try simp only [List.map_toArray, List.map_cons, List.map_nil]); first | done | rfl | (simp only [List.length_drop, List.length_take]; rfl)) ?_
    with_reducible refine (impl_AreEquivalent.calls k a0_0 _ _ l0_1 _ _ l1 _ _ y944 t947 _ ?side1 ?side2 ?side3 ?side4 ?side5 ?side6 A7.out).mono ?_
    (case side1 => exact Cz ((Kd.C_below HR0_1.out HB.out)))
    (case side2 => exact HC0_1.out)
    (case side3 => exact Cz ((Kd.C_below HR1.out HB.out)))
    (case side4 => exact HC1.out)
    (case side5 => exact Cz ((Kd.R_reads' HO946.out).2.2))
    (case side6 => exact (Kd.R_reads' HO946.out).2.1)
    rintro e w14 ⟨rfl, hb⟩
    refine ⟨_, rfl, ?_⟩
    replace HO946 := Aside0.mk (Kd.R_below (Rz HO946) hb)
    replace BK942 := Aside0.mk (blk_below (g := gb942) (o := .cells #[.int .i64 a0_0, .slice A0_1 l0_1.length c0_1] 31 (0, 0)) (Bz BK942) hb)
    replace HB := Aside0.mk (below_step (by exact Lz1 HB GE942) hb)
    (try clear hb)
    (try clear hb2)
    (try clear hk)
    (try clear hi)
    refine hK.out _ _ ⟨(blk_cell BK942.out 0).trans rfl, (blk_cell BK942.out 1).trans rfl⟩ (fun hHeld => ?_)
    clear hK K
    refine norm_ (a' := ?_) ?_ ?_
    rotate_left
    ·show Act.put _ (some 14) _ = _
     simp only [Act.put, List.setIfInBounds_toArray, List.set_cons_zero, List.set_cons_succ, i64_w, i32_w]
     rfl
    refine pureT_ 10 15 HT_ ?_
    refine pureT_ 11 4 HT_ ?_
    refine done_ (done_of HT_.out (by kernel_rfl)) ?_
    try go_wp2
    go_ret
    exact ⟨by first | rfl | (simp [errW_none, errW_some] <;> rfl) | (simp [*, errW_none, errW_some] <;> rfl), by exact Lz1 HB GE942⟩
   rw [if_neg c6] at H
   exact absurd H (by simp)
  rw [if_neg c5] at H
  exact absurd H (by simp)
 replace c4 := Bool.eq_false_iff.mpr c4
 subst c4
 have H1 : (some false) = some r := by rw [if_neg (show ¬ (false = true) by decide)] at H; exact H
 clear H
 have H := H1
 clear H1
 obtain rfl := Option.some.inj H
 go_enter Try.func39, Try.ntmps39
 try go_wp2_with (first | ((with_reducible refine gate_dst (N := 2) rfl ?_); (try (refine gate_guard (by rfl) ?_; dsimp only)); refine box_event ?hg (N := 2) ?hd (cs := #[.int .i64 a0_0, .slice A0_1 l0_1.length c0_1]) (t := 31) ?hr ?_; (case hd => rfl); (case hg => rfl); (case hr => first | (go_simp; done) | (go_simp; rfl)); intro gb942 hg w15 hbox hb; have BK942 := Aside0.mk (hbox); have GW942 := Aside0.mk ((by rw [hg]; exact (below_size (Lz HB)) : w.heap.size ≤ gb942)); have GE942 := Aside0.mk ((by rw [hg]; exact (below_size (Lz HB)) : w.heap.size ≤ gb942)); replace HB := Aside0.mk (below_step (Lz HB) hb); clear hb hbox hg))
 replace BK942 := Aside0.mk (blk_drew BK942.out)
 replace HB := Aside0.mk (below_drew1 HB.out)
 refine start_ (n := 12) (S := fun w' => w'.cell? ⟨gb942, 0, none⟩ = some (.int .i64 a0_0) ∧ w'.cell? ⟨gb942, 1, none⟩ = some (.slice A0_1 l0_1.length c0_1)) (ds := []) #[false, false, false, false, false, false, false, false, false, false, false, false] (by kernel_rfl) rfl rfl ⟨(blk_cell BK942.out 0).trans rfl, (blk_cell BK942.out 1).trans rfl⟩ (fun hHeld => ?_); refine with_tabW impl_IsPrincipal.tab1 impl_IsPrincipal.bits1 (fun HT_ HW_ => ?_)
 generalize w15.drew = w16 at BK942 HB hHeld ⊢
 refine pureT_ 1 6 HT_ ?_
 refine takeT_ 0 5 HT_ HW_ hHeld rfl (by rintro w' ⟨s0, s1⟩; go_simp; with_reducible rfl) ?_
 refine one_ (i := 2) (N := some 7) #[true, true, true, false, false, false, false, false, false, false, false, false] rfl rfl (one_of HT_.out (by kernel_rfl)) (by decide) (fun K hK => ?_)
 refine goes_ Try.func71 (by kernel_rfl) rfl #[.agg #[.int .i64 a0_0, .slice A0_1 l0_1.length c0_1], .slice A1 l1.length c1] (by rfl) rfl rfl (by (try simp only [List.map_toArray, List.map_cons, List.map_nil]); first | done | rfl | (simp only [List.length_drop, List.length_take]; rfl)) ?_
 with_reducible refine (impl_DivisorOk.calls k a0_0 _ _ l0_1 _ _ l1 false _ ?side1 ?side2 ?side3 ?side4 A3.out).mono ?_
 (case side1 => exact Cz ((Kd.C_below HR0_1.out HB.out)))
 (case side2 => exact HC0_1.out)
 (case side3 => exact Cz ((Kd.C_below HR1.out HB.out)))
 (case side4 => exact HC1.out)
 rintro e w17 ⟨rfl, hb⟩
 refine ⟨_, rfl, ?_⟩
 replace BK942 := Aside0.mk (blk_below (g := gb942) (o := .cells #[.int .i64 a0_0, .slice A0_1 l0_1.length c0_1] 31 (0, 0)) (Bz BK942) hb)
 replace HB := Aside0.mk (below_step (by exact Lz1 HB GE942) hb)
 (try clear hb)
 (try clear hb2)
 (try clear hk)
 (try clear hi)
 refine hK.out _ _ ⟨(blk_cell BK942.out 0).trans rfl, (blk_cell BK942.out 1).trans rfl⟩ (fun hHeld => ?_)
 clear hK K
 refine norm_ (a' := ?_) ?_ ?_
 rotate_left
 ·show Act.put _ (some 7) _ = _
  simp only [Act.put, List.setIfInBounds_toArray, List.set_cons_zero, List.set_cons_succ, i64_w, i32_w]
  rfl
 refine pureT_ 3 8 HT_ ?_
 refine pureU_ 4 9 HT_ ?_
 refine pureU_ 5 10 HT_ ?_
 refine pureU_ 6 11 HT_ ?_
 refine pureU_ 7 12 HT_ ?_
 refine pureU_ 8 13 HT_ ?_
 refine pureU_ 9 14 HT_ ?_
 refine pureT_ 10 15 HT_ ?_
 refine pureT_ 11 4 HT_ ?_
 refine done_ (done_of HT_.out (by kernel_rfl)) ?_
 try go_wp2
 go_ret
 exact ⟨by first | rfl | (simp [errW_none, errW_some] <;> rfl) | (simp [*, errW_none, errW_some] <;> rfl), by exact Lz1 HB GE942⟩
mutual
def laws_FnScripts.j0 : Nat → List Int → Option (Bool)
 | 0, _ => none
 | k + 1, x0 => (spec_MakeGraph.f k x0).bind fun bt948 => ((spec_MakeDivisor.f k x0 20 bt948.1 bt948.2).bind fun t953 => ((spec_MakeScript.f k x0 40 bt948.1 bt948.2).bind fun t956 => ((impl_FireScript.f k bt948.1 bt948.2 t953 t956).bind fun bt959 => ((impl_ScriptBetween.f k bt948.1 bt948.2 t953 bt959.1).bind fun bt963 => ((impl_ScriptBetween.f k bt948.1 bt948.2 bt959.1 t953).bind fun bt967 => ((impl_FireScript.f k bt948.1 bt948.2 t953 bt963.1).bind fun bt971 => (if bt959.2 = true then (if bt963.2 = true then (if bt967.2 = true then (if bt971.2 = true then (if (bt963.1.length : Int) = bt948.1 then (if (bt967.1.length : Int) = bt948.1 then ((laws_same.f k bt971.1 bt959.1).bind fun t975 => (laws_FnScripts.j1 k t953 bt959.1 bt963.1 bt967.1 (!t975) bt948.1 bt948.2)) else (laws_FnScripts.j1 k t953 bt959.1 bt963.1 bt967.1 true bt948.1 bt948.2)) else (laws_FnScripts.j1 k t953 bt959.1 bt963.1 bt967.1 true bt948.1 bt948.2)) else (laws_FnScripts.j1 k t953 bt959.1 bt963.1 bt967.1 true bt948.1 bt948.2)) else (laws_FnScripts.j1 k t953 bt959.1 bt963.1 bt967.1 true bt948.1 bt948.2)) else (laws_FnScripts.j1 k t953 bt959.1 bt963.1 bt967.1 true bt948.1 bt948.2)) else (laws_FnScripts.j1 k t953 bt959.1 bt963.1 bt967.1 true bt948.1 bt948.2))))))))
def laws_FnScripts.j1 : Nat → List Int → List Int → List Int → List Int → Bool → Int → List (S67) → Option (Bool)
 | 0, _, _, _, _, _, _, _ => none
 | k + 1, x4, x5, x7, x9, x88, x953000, x953001 => if x88 = true then (some false) else (laws_FnScripts.j2 k x4 x5 x7 x9 x953000 x953001)
def laws_FnScripts.j2 : Nat → List Int → List Int → List Int → List Int → Int → List (S67) → Option (Bool)
 | 0, _, _, _, _, _, _ => none
 | k + 1, x4, x5, x7, x9, x953000, x953001 => if 0 < (x7.length : Int) then (laws_FnScripts.l0 k x4 x5 x7 x9 (rd x7 0) (x7.length : Int) 0 x953000 x953001) else (none)
def laws_FnScripts.l0 : Nat → List Int → List Int → List Int → List Int → Int → Int → Int → Int → List (S67) → Option (Bool)
 | 0, _, _, _, _, _, _, _, _, _ => none
 | k + 1, x4, x5, x7, x9, x13, x93, x94, x953000, x953001 => if x94 < x93 then (laws_FnScripts.j4 k x4 x5 x7 x9 x13 x93 x94 x953000 x953001) else ((impl_NegateDivisor.f k x5).bind fun t982 => ((impl_AddDivisors.f k x4 t982).bind fun bt985 => (if x13 = 0 then (if bt985.2 = true then ((impl_IsPrincipal.f k x953000 x953001 bt985.1).bind fun t989 => (some t989)) else (some false)) else (some false))))
def laws_FnScripts.j4 : Nat → List Int → List Int → List Int → List Int → Int → Int → Int → Int → List (S67) → Option (Bool)
 | 0, _, _, _, _, _, _, _, _, _ => none
 | k + 1, x4, x5, x7, x9, x13, x93, x94, x953000, x953001 => if 0 ≤ x94 then (if x94 < (x7.length : Int) then (if x94 < (x9.length : Int) then (if 0 < (x7.length : Int) then (if 0 < (x9.length : Int) then (if (wrap64 ((rd x7 x94) + (rd x9 x94))) = (wrap64 ((rd x7 0) + (rd x9 0))) then (laws_FnScripts.l0 k x4 x5 x7 x9 (mn x13 (rd x7 x94)) x93 (wrap64 (x94 + 1)) x953000 x953001) else (some false)) else (none)) else (none)) else (none)) else (none)) else (none)
end
def laws_FnScripts.f (k : Nat) (l0 : List Int) : Option (Bool) := if (l0.length : Int) > 1048576 then (some true) else (laws_FnScripts.j0 k l0)
def laws_FnScripts.T5 : Bool × List (List Nat × List Nat) := (true, [([], []), ([], []), ([], []), ([], []), ([2, 3], [2, 3]), ([0, 1, 4, 4], [0, 1, 4]), ([5], [5]), ([6], [6]), ([6], [6]), ([7, 5, 0, 1, 2, 3, 4, 5, 6, 7], [7]), ([8, 9, 0, 1, 2, 3, 4, 5, 6, 7, 8, 9], [8])])
def laws_FnScripts.B5 : List Nat := [0, 0, 0, 0, 12, 31, 63, 127, 127, 255, 1023]
theorem laws_FnScripts.tab5 : rtab .any (opsOf Try.f7 5) = laws_FnScripts.T5 := by kernel_rfl
theorem laws_FnScripts.bits5 : waitsOk laws_FnScripts.T5.2 laws_FnScripts.B5 = true := by kernel_rfl
def laws_FnScripts.T16 : Bool × List (List Nat × List Nat) := (true, [([], []), ([], []), ([0, 1], [0, 1]), ([2], [2]), ([], []), ([], []), ([4, 5], [4, 5]), ([6], [6]), ([3, 7], [3, 7]), ([], []), ([9], [9]), ([10], [10]), ([], []), ([12], [12]), ([13], [13]), ([11, 14], [11, 14]), ([8, 15], [8, 15])])
def laws_FnScripts.B16 : List Nat := [0, 0, 3, 7, 0, 0, 48, 112, 255, 0, 512, 1536, 0, 4096, 12288, 32256, 65535]
theorem laws_FnScripts.tab16 : rtab .any (opsOf Try.f7 16) = laws_FnScripts.T16 := by kernel_rfl
theorem laws_FnScripts.bits16 : waitsOk laws_FnScripts.T16.2 laws_FnScripts.B16 = true := by kernel_rfl
set_option maxHeartbeats 8000000 in
set_option maxRecDepth 100000 in
theorem laws_FnScripts.calls (k : Nat) (A0 : Option Addr) (c0 : Nat) (l0 : List Int) (r : Bool) (w : World) (hr0 : Kd.C (Kd.int .u8) w A0 l0.length l0) (hc0 : l0.length ≤ c0) (h : laws_FnScripts.f k l0 = some r) (hR_ : r = true := by rfl) :
  Calls Try.prog 7 #[.slice A0 l0.length c0] w fun e w' => e = .returned (.bool r) ∧ Below w.heap.size w w' := by
 have HR_ := Aside0.mk hR_
 clear hR_
 have hu31 := Try.underlying31
 have HR0 := Aside0.mk hr0
 have HC0 := Aside0.mk hc0
 clear hr0 hc0
 have HB := Aside0.mk (Below.refl w.heap.size w)
 have H : (if (l0.length : Int) > 1048576 then (some true) else (laws_FnScripts.j0 k l0)) = some r := h
 clear h
 have HC2 := Aside0.mk H
 clear H
 go_enter Try.func7, Try.ntmps7
 go_upto_if 19 with (fail)
 go_cut [] (fun wc => ∃ (kq : Nat), Aside0 (laws_FnScripts.j0 kq l0 = some r) ∧ Aside0 (kq ≤ k) ∧ Aside0 (Below w.heap.size w wc))
 case first =>
  have H := HC2.out
  clear HC2
  by_cases c3 : (l0.length : Int) > 1048576
  ·rw [if_pos c3] at H
   have c3b0 : decide (1048576 < (l0.length : Int)) = true := decide_eq_true c3
   have c3b1 : decide (1048576 < l0.length) = true := decide_eq_true (by omega)
   clear c3
   (first | rw [c3b0] | (simp only [i64_w, i32_w]; rw [c3b0]) | skip)
   obtain rfl := Option.some.inj H
   go_wp2
   go_ret
   exact ⟨by first | rfl | (simp [errW_none, errW_some] <;> rfl) | (simp [*, errW_none, errW_some] <;> rfl), by exact Lz HB⟩
  rw [if_neg c3] at H
  have c3b0 : decide (1048576 < (l0.length : Int)) = false := decide_eq_false c3
  have c3b1 : decide (1048576 < l0.length) = false := decide_eq_false (by omega)
  clear c3
  (first | rw [c3b0] | (simp only [i64_w, i32_w]; rw [c3b0]) | skip)
  have H' := Aside0.mk H
  clear H
  go_wp2
  go_meet
  case rel => exact ⟨_, H', ⟨by first | omega | exact Nat.le_refl _⟩, ⟨by exact Lz HB⟩⟩
 case rest =>
  clear HC2
  try clear c3
  try clear c3b0
  try clear c3b1
  obtain ⟨kq, HA, HJ1, HB⟩ := hcut
  cases kq with
  | zero => exact absurd HA.out (by simp [laws_FnScripts.j0])
  | succ kj1 =>
   have H := HA.out
   clear HA
   simp only [laws_FnScripts.j0] at H
   replace H := Option.bind_eq_some_iff.mp H
   obtain ⟨⟨t948, t949⟩, A40, H⟩ := H
   replace H : ((spec_MakeDivisor.f kj1 l0 20 t948 t949).bind fun t953 => ((spec_MakeScript.f kj1 l0 40 t948 t949).bind fun t956 => ((impl_FireScript.f kj1 t948 t949 t953 t956).bind fun bt959 => ((impl_ScriptBetween.f kj1 t948 t949 t953 bt959.1).bind fun bt963 => ((impl_ScriptBetween.f kj1 t948 t949 bt959.1 t953).bind fun bt967 => ((impl_FireScript.f kj1 t948 t949 t953 bt963.1).bind fun bt971 => (if bt959.2 = true then (if bt963.2 = true then (if bt967.2 = true then (if bt971.2 = true then (if (bt963.1.length : Int) = t948 then (if (bt967.1.length : Int) = t948 then ((laws_same.f kj1 bt971.1 bt959.1).bind fun t975 => (laws_FnScripts.j1 kj1 t953 bt959.1 bt963.1 bt967.1 (!t975) t948 t949)) else (laws_FnScripts.j1 kj1 t953 bt959.1 bt963.1 bt967.1 true t948 t949)) else (laws_FnScripts.j1 kj1 t953 bt959.1 bt963.1 bt967.1 true t948 t949)) else (laws_FnScripts.j1 kj1 t953 bt959.1 bt963.1 bt967.1 true t948 t949)) else (laws_FnScripts.j1 kj1 t953 bt959.1 bt963.1 bt967.1 true t948 t949)) else (laws_FnScripts.j1 kj1 t953 bt959.1 bt963.1 bt967.1 true t948 t949)) else (laws_FnScripts.j1 kj1 t953 bt959.1 bt963.1 bt967.1 true t948 t949)))))))) = some r := H
   have A4 := Aside0.mk A40
   clear A40
   replace H := Option.bind_eq_some_iff.mp H
   obtain ⟨t953, A50, H⟩ := H
   replace H : ((spec_MakeScript.f kj1 l0 40 t948 t949).bind fun t956 => ((impl_FireScript.f kj1 t948 t949 t953 t956).bind fun bt959 => ((impl_ScriptBetween.f kj1 t948 t949 t953 bt959.1).bind fun bt963 => ((impl_ScriptBetween.f kj1 t948 t949 bt959.1 t953).bind fun bt967 => ((impl_FireScript.f kj1 t948 t949 t953 bt963.1).bind fun bt971 => (if bt959.2 = true then (if bt963.2 = true then (if bt967.2 = true then (if bt971.2 = true then (if (bt963.1.length : Int) = t948 then (if (bt967.1.length : Int) = t948 then ((laws_same.f kj1 bt971.1 bt959.1).bind fun t975 => (laws_FnScripts.j1 kj1 t953 bt959.1 bt963.1 bt967.1 (!t975) t948 t949)) else (laws_FnScripts.j1 kj1 t953 bt959.1 bt963.1 bt967.1 true t948 t949)) else (laws_FnScripts.j1 kj1 t953 bt959.1 bt963.1 bt967.1 true t948 t949)) else (laws_FnScripts.j1 kj1 t953 bt959.1 bt963.1 bt967.1 true t948 t949)) else (laws_FnScripts.j1 kj1 t953 bt959.1 bt963.1 bt967.1 true t948 t949)) else (laws_FnScripts.j1 kj1 t953 bt959.1 bt963.1 bt967.1 true t948 t949)) else (laws_FnScripts.j1 kj1 t953 bt959.1 bt963.1 bt967.1 true t948 t949))))))) = some r := H
   have A5 := Aside0.mk A50
   clear A50
   replace H := Option.bind_eq_some_iff.mp H
   obtain ⟨t956, A60, H⟩ := H
   replace H : ((impl_FireScript.f kj1 t948 t949 t953 t956).bind fun bt959 => ((impl_ScriptBetween.f kj1 t948 t949 t953 bt959.1).bind fun bt963 => ((impl_ScriptBetween.f kj1 t948 t949 bt959.1 t953).bind fun bt967 => ((impl_FireScript.f kj1 t948 t949 t953 bt963.1).bind fun bt971 => (if bt959.2 = true then (if bt963.2 = true then (if bt967.2 = true then (if bt971.2 = true then (if (bt963.1.length : Int) = t948 then (if (bt967.1.length : Int) = t948 then ((laws_same.f kj1 bt971.1 bt959.1).bind fun t975 => (laws_FnScripts.j1 kj1 t953 bt959.1 bt963.1 bt967.1 (!t975) t948 t949)) else (laws_FnScripts.j1 kj1 t953 bt959.1 bt963.1 bt967.1 true t948 t949)) else (laws_FnScripts.j1 kj1 t953 bt959.1 bt963.1 bt967.1 true t948 t949)) else (laws_FnScripts.j1 kj1 t953 bt959.1 bt963.1 bt967.1 true t948 t949)) else (laws_FnScripts.j1 kj1 t953 bt959.1 bt963.1 bt967.1 true t948 t949)) else (laws_FnScripts.j1 kj1 t953 bt959.1 bt963.1 bt967.1 true t948 t949)) else (laws_FnScripts.j1 kj1 t953 bt959.1 bt963.1 bt967.1 true t948 t949)))))) = some r := H
   have A6 := Aside0.mk A60
   clear A60
   replace H := Option.bind_eq_some_iff.mp H
   obtain ⟨⟨t959, t962⟩, A70, H⟩ := H
   replace H : ((impl_ScriptBetween.f kj1 t948 t949 t953 t959).bind fun bt963 => ((impl_ScriptBetween.f kj1 t948 t949 t959 t953).bind fun bt967 => ((impl_FireScript.f kj1 t948 t949 t953 bt963.1).bind fun bt971 => (if t962 = true then (if bt963.2 = true then (if bt967.2 = true then (if bt971.2 = true then (if (bt963.1.length : Int) = t948 then (if (bt967.1.length : Int) = t948 then ((laws_same.f kj1 bt971.1 t959).bind fun t975 => (laws_FnScripts.j1 kj1 t953 t959 bt963.1 bt967.1 (!t975) t948 t949)) else (laws_FnScripts.j1 kj1 t953 t959 bt963.1 bt967.1 true t948 t949)) else (laws_FnScripts.j1 kj1 t953 t959 bt963.1 bt967.1 true t948 t949)) else (laws_FnScripts.j1 kj1 t953 t959 bt963.1 bt967.1 true t948 t949)) else (laws_FnScripts.j1 kj1 t953 t959 bt963.1 bt967.1 true t948 t949)) else (laws_FnScripts.j1 kj1 t953 t959 bt963.1 bt967.1 true t948 t949)) else (laws_FnScripts.j1 kj1 t953 t959 bt963.1 bt967.1 true t948 t949))))) = some r := H
   have A7 := Aside0.mk A70
   clear A70
   replace H := Option.bind_eq_some_iff.mp H
   obtain ⟨⟨t963, t966⟩, A80, H⟩ := H
   replace H : ((impl_ScriptBetween.f kj1 t948 t949 t959 t953).bind fun bt967 => ((impl_FireScript.f kj1 t948 t949 t953 t963).bind fun bt971 => (if t962 = true then (if t966 = true then (if bt967.2 = true then (if bt971.2 = true then (if (t963.length : Int) = t948 then (if (bt967.1.length : Int) = t948 then ((laws_same.f kj1 bt971.1 t959).bind fun t975 => (laws_FnScripts.j1 kj1 t953 t959 t963 bt967.1 (!t975) t948 t949)) else (laws_FnScripts.j1 kj1 t953 t959 t963 bt967.1 true t948 t949)) else (laws_FnScripts.j1 kj1 t953 t959 t963 bt967.1 true t948 t949)) else (laws_FnScripts.j1 kj1 t953 t959 t963 bt967.1 true t948 t949)) else (laws_FnScripts.j1 kj1 t953 t959 t963 bt967.1 true t948 t949)) else (laws_FnScripts.j1 kj1 t953 t959 t963 bt967.1 true t948 t949)) else (laws_FnScripts.j1 kj1 t953 t959 t963 bt967.1 true t948 t949)))) = some r := H
   have A8 := Aside0.mk A80
   clear A80
   replace H := Option.bind_eq_some_iff.mp H
   obtain ⟨⟨t967, t970⟩, A90, H⟩ := H
   replace H : ((impl_FireScript.f kj1 t948 t949 t953 t963).bind fun bt971 => (if t962 = true then (if t966 = true then (if t970 = true then (if bt971.2 = true then (if (t963.length : Int) = t948 then (if (t967.length : Int) = t948 then ((laws_same.f kj1 bt971.1 t959).bind fun t975 => (laws_FnScripts.j1 kj1 t953 t959 t963 t967 (!t975) t948 t949)) else (laws_FnScripts.j1 kj1 t953 t959 t963 t967 true t948 t949)) else (laws_FnScripts.j1 kj1 t953 t959 t963 t967 true t948 t949)) else (laws_FnScripts.j1 kj1 t953 t959 t963 t967 true t948 t949)) else (laws_FnScripts.j1 kj1 t953 t959 t963 t967 true t948 t949)) else (laws_FnScripts.j1 kj1 t953 t959 t963 t967 true t948 t949)) else (laws_FnScripts.j1 kj1 t953 t959 t963 t967 true t948 t949))) = some r := H
   have A9 := Aside0.mk A90
   clear A90
   replace H := Option.bind_eq_some_iff.mp H
   obtain ⟨⟨t971, t974⟩, A100, H⟩ := H
   replace H : (if t962 = true then (if t966 = true then (if t970 = true then (if t974 = true then (if (t963.length : Int) = t948 then (if (t967.length : Int) = t948 then ((laws_same.f kj1 t971 t959).bind fun t975 => (laws_FnScripts.j1 kj1 t953 t959 t963 t967 (!t975) t948 t949)) else (laws_FnScripts.j1 kj1 t953 t959 t963 t967 true t948 t949)) else (laws_FnScripts.j1 kj1 t953 t959 t963 t967 true t948 t949)) else (laws_FnScripts.j1 kj1 t953 t959 t963 t967 true t948 t949)) else (laws_FnScripts.j1 kj1 t953 t959 t963 t967 true t948 t949)) else (laws_FnScripts.j1 kj1 t953 t959 t963 t967 true t948 t949)) else (laws_FnScripts.j1 kj1 t953 t959 t963 t967 true t948 t949)) = some r := H
   have A10 := Aside0.mk A100
   clear A100
   have HC11 := Aside0.mk H
   clear H
   try go_wp2_with (first | ((with_reducible refine gate_callee (f := 22) rfl ?_); refine goesM_ (some 21) rfl rfl Try.func22 (by kernel_rfl) rfl #[.slice A0 l0.length c0] rfl ?_; (with_reducible refine (spec_MakeGraph.calls kj1 _ _ l0 t948 t949 _ ?side1 ?side2 A4.out).mono ?_); (case side1 => exact Cz ((Kd.C_below HR0.out HB.out))); (case side2 => exact HC0.out); rintro e w12 ⟨v950, rfl, ho0, hb⟩; refine ⟨_, rfl, ?_⟩; have HO951 := Aside0.mk (Kd.R_lower ho0 (below_size (Lz HB))); replace HB := Aside0.mk (below_step (Lz HB) hb); (try clear hb); (try clear ho0)) | ((with_reducible refine gate_dst (N := 3) rfl ?_); (try (refine gate_guard (by rfl) ?_; dsimp only)); refine box_event ?hg (N := 3) ?hd (cs := #[.int .i64 0, .slice none 0 0]) (t := 31) ?hr ?_; (case hd => rfl); (case hg => rfl); (case hr => first | (go_simp; done) | (go_simp; rfl)); intro gb952 hg w13 hbox hb; replace HO951 := Aside0.mk (Kd.R_below (Rz HO951) hb); have BK952 := Aside0.mk (hbox); have GW952 := Aside0.mk ((by rw [hg]; exact (below_size (Lz HB)) : w.heap.size ≤ gb952)); have GE952 := Aside0.mk ((by rw [hg]; exact (below_size (Lz HB)) : w.heap.size ≤ gb952)); replace HB := Aside0.mk (below_step (Lz HB) hb); clear hb hbox hg; have hcz14_0 : w13.cell? ⟨gb952, 0, none⟩ = some (.int .i64 0) := (blk_cell BK952.out 0).trans rfl; have hcz14_1 : w13.cell? ⟨gb952, 1, none⟩ = some (.slice none 0 0) := (blk_cell BK952.out 1).trans rfl; have hfz14_0 := blk_frozen BK952.out 0; have hfz14_1 := blk_frozen BK952.out 1; obtain ⟨Ao15, co15, eo15⟩ := Kd.R_slice HO951.out; subst eo15) | ((with_reducible refine gate_callee (f := 23) rfl ?_); refine goesM_ (some 24) rfl rfl Try.func23 (by kernel_rfl) rfl #[.slice A0 l0.length c0, .int .i64 20, .agg #[.int .i64 t948, .slice Ao15 t949.length co15]] rfl ?_; (with_reducible refine (spec_MakeDivisor.calls kj1 _ _ l0 20 t948 _ _ t949 t953 _ ?side1 ?side2 ?side3 ?side4 A5.out).mono ?_); (case side1 => exact Kd.C_below HR0.out (by exact Lz1 HB GE952)); (case side2 => exact HC0.out); (case side3 => refine (Kd.R_reads' (e := 67) (base := w.heap.size) (ok := fun k_ => True) (n := t949.length) (c := co15) ?_).2.2; exact (by (with_reducible repeat (first | apply Kd.R_alloc | apply Kd.R_drewN | apply Kd.R_drew)); exact (Kd.R_mono (Kd.R_far (p := ⟨gb952, 1, none⟩) (Kd.R_far (p := ⟨gb952, 0, none⟩) (Kd.R_types HO951.out BK952.out (by decide)) (fun _ hk => hk.2) (.int .i64 t948)) (fun _ hk => hk.2) (.slice Ao15 t949.length co15)) (fun _ h_ => h_.1)))); (case side4 => exact (Kd.R_reads' HO951.out).2.1); rintro e w16 ⟨v954, rfl, ho0, hb⟩; refine ⟨_, rfl, ?_⟩; replace HO951 := Aside0.mk (Kd.R_below (by (with_reducible repeat (first | apply Kd.R_alloc | apply Kd.R_drewN | apply Kd.R_drew)); exact (Kd.R_mono (Kd.R_far (p := ⟨gb952, 1, none⟩) (Kd.R_far (p := ⟨gb952, 0, none⟩) (Kd.R_types HO951.out BK952.out (by decide)) (fun _ hk => hk.2) (.int .i64 t948)) (fun _ hk => hk.2) (.slice Ao15 t949.length co15)) (fun _ h_ => h_.1))) hb); have HO955 := Aside0.mk (Kd.R_lower ho0 (below_size (by exact Lz1 HB GE952))); replace BK952 := Aside0.mk (blk_below (g := gb952) (o := .cells #[.int .i64 t948, .slice Ao15 t949.length co15] 31 (0, 0)) (by (with_reducible repeat (first | refine blk_drewN ?_ _ | refine blk_drew ?_ | refine blk_alloc ?_ _)); refine blk_put (cs := #[.int .i64 t948, .slice none 0 0]) ?_ 1 _ rfl; (with_reducible repeat (first | refine blk_drewN ?_ _ | refine blk_drew ?_ | refine blk_alloc ?_ _)); refine blk_put (cs := #[.int .i64 0, .slice none 0 0]) ?_ 0 _ rfl; exact Bz BK952) hb); replace HB := Aside0.mk (below_step (by exact Lz1 HB GE952) hb); (try clear hb); (try clear ho0)))
   replace HO951 := Aside0.mk (Kd.R_drew HO951.out)
   replace HO955 := Aside0.mk (Kd.R_drew HO955.out)
   replace BK952 := Aside0.mk (blk_drew BK952.out)
   replace HB := Aside0.mk (below_drew1 HB.out)
   refine start_ (n := 11) (S := fun w' => w'.cell? ⟨gb952, 0, none⟩ = some (.int .i64 t948) ∧ w'.cell? ⟨gb952, 1, none⟩ = some (.slice Ao15 t949.length co15)) (ds := []) #[false, false, false, false, false, false, false, false, false, false, false] (by kernel_rfl) rfl rfl ⟨(blk_cell BK952.out 0).trans rfl, (blk_cell BK952.out 1).trans rfl⟩ (fun hHeld => ?_); refine with_tabW laws_FnScripts.tab5 laws_FnScripts.bits5 (fun HT_ HW_ => ?_)
   generalize w16.drew = w17 at HO951 HO955 BK952 HB hHeld ⊢
   refine pureT_ 1 27 HT_ ?_
   refine pureT_ 2 28 HT_ ?_
   refine takeT_ 0 26 HT_ HW_ hHeld rfl (by rintro w' ⟨s0, s1⟩; go_simp; with_reducible rfl) ?_
   refine takeT_ 3 29 HT_ HW_ hHeld rfl (by rintro w' ⟨s0, s1⟩; go_simp; with_reducible rfl) ?_
   refine one_ (i := 4) (N := some 30) #[true, true, true, true, true, false, false, false, false, false, false] rfl rfl (one_of HT_.out (by kernel_rfl)) (by decide) (fun K hK => ?_)
   refine goes_ Try.func30 (by kernel_rfl) rfl #[.slice A0 l0.length c0, .int .i64 40, .agg #[.int .i64 t948, .slice Ao15 t949.length co15]] (by rfl) rfl rfl (by (try simp only [List.map_toArray, List.map_cons, List.map_nil]); first | done | rfl | (simp only [List.length_drop, List.length_take]; rfl)) ?_
   with_reducible refine (spec_MakeScript.calls kj1 _ _ l0 40 t948 _ _ t949 t956 _ ?side1 ?side2 ?side3 ?side4 A6.out).mono ?_
   (case side1 => exact Cz ((Kd.C_below HR0.out HB.out)))
   (case side2 => exact HC0.out)
   (case side3 => exact Cz ((Kd.R_reads' HO951.out).2.2))
   (case side4 => exact (Kd.R_reads' HO951.out).2.1)
   rintro e w18 ⟨v957, rfl, ho0, hb⟩
   refine ⟨_, rfl, ?_⟩
   replace HO951 := Aside0.mk (Kd.R_below (Rz HO951) hb)
   have HO958 := Aside0.mk (Kd.R_lower (Kd.R_new' ho0 (Kd.R_lt (Rz HO955))) (below_size (by exact Lz1 HB GE952)))
   replace HO955 := Aside0.mk (Kd.R_elder' (Rz HO955) (Kd.R_base ho0) hb)
   replace BK952 := Aside0.mk (blk_below (g := gb952) (o := .cells #[.int .i64 t948, .slice Ao15 t949.length co15] 31 (0, 0)) (Bz BK952) hb)
   replace HB := Aside0.mk (below_step (by exact Lz1 HB GE952) hb)
   (try clear hb)
   (try clear hb2)
   (try clear hk)
   (try clear hi)
   (try clear ho0)
   obtain ⟨Ao19, co19, eo19⟩ := Kd.R_slice HO955.out
   (first | subst eo19 | (injection eo19 with f1_ f2_ f3_; have f4_ := f1_.symm; have f5_ := f3_.symm; clear f1_ f2_ f3_; subst f4_; subst f5_))
   obtain ⟨Ao20, co20, eo20⟩ := Kd.R_slice HO958.out
   (first | subst eo20 | (injection eo20 with f1_ f2_ f3_; have f4_ := f1_.symm; have f5_ := f3_.symm; clear f1_ f2_ f3_; subst f4_; subst f5_))
   refine hK.out _ _ ⟨(blk_cell BK952.out 0).trans rfl, (blk_cell BK952.out 1).trans rfl⟩ (fun hHeld => ?_)
   clear hK K
   refine norm_ (a' := ?_) ?_ ?_
   rotate_left
   ·show Act.put _ (some 30) _ = _
    simp only [Act.put, List.setIfInBounds_toArray, List.set_cons_zero, List.set_cons_succ, i64_w, i32_w]
    rfl
   refine one_ (i := 5) (N := some 31) #[true, true, true, true, true, true, false, false, false, false, false] rfl rfl (one_of HT_.out (by kernel_rfl)) (by decide) (fun K hK => ?_)
   refine goes_ Try.func27 (by kernel_rfl) rfl #[.agg #[.int .i64 t948, .slice Ao15 t949.length co15], .slice Ao19 t953.length co19, .slice Ao20 t956.length co20] (by rfl) rfl rfl (by (try simp only [List.map_toArray, List.map_cons, List.map_nil]); first | done | rfl | (simp only [List.length_drop, List.length_take]; rfl)) ?_
   with_reducible refine (impl_FireScript.calls kj1 t948 _ _ t949 _ _ t953 _ _ t956 t959 t962 _ ?side1 ?side2 ?side3 ?side4 ?side5 ?side6 A7.out).mono ?_
   (case side1 => exact Cz ((Kd.R_reads' HO951.out).2.2))
   (case side2 => exact (Kd.R_reads' HO951.out).2.1)
   (case side3 => exact Cz ((Kd.R_reads' HO955.out).2.2))
   (case side4 => exact (Kd.R_reads' HO955.out).2.1)
   (case side5 => exact Cz ((Kd.R_reads' HO958.out).2.2))
   (case side6 => exact (Kd.R_reads' HO958.out).2.1)
   rintro e w21 ⟨v960, rfl, ho0, hb⟩
   refine ⟨_, rfl, ?_⟩
   replace HO951 := Aside0.mk (Kd.R_below (Rz HO951) hb)
   have HO961 := Aside0.mk (Kd.R_lower (Kd.R_new' (Kd.R_new' ho0 (Kd.R_lt (Rz HO955))) (Kd.R_lt (Rz HO958))) (below_size (by exact Lz1 HB GE952)))
   replace HO955 := Aside0.mk (Kd.R_elder' (Rz HO955) (Kd.R_base ho0) hb)
   replace HO958 := Aside0.mk (Kd.R_elder' (Rz HO958) (Kd.R_base ho0) hb)
   replace BK952 := Aside0.mk (blk_below (g := gb952) (o := .cells #[.int .i64 t948, .slice Ao15 t949.length co15] 31 (0, 0)) (Bz BK952) hb)
   replace HB := Aside0.mk (below_step (by exact Lz1 HB GE952) hb)
   (try clear hb)
   (try clear hb2)
   (try clear hk)
   (try clear hi)
   (try clear ho0)
   refine hK.out _ _ ⟨(blk_cell BK952.out 0).trans rfl, (blk_cell BK952.out 1).trans rfl⟩ (fun hHeld => ?_)
   clear hK K
   refine norm_ (a' := ?_) ?_ ?_
   rotate_left
   ·show Act.put _ (some 31) _ = _
    simp only [Act.put, List.setIfInBounds_toArray, List.set_cons_zero, List.set_cons_succ, i64_w, i32_w]
    rfl
   refine pureT_ 6 25 HT_ ?_
   refine pureT_ 7 32 HT_ ?_
   refine pureT_ 8 33 HT_ ?_
   refine pureT_ 9 5 HT_ ?_
   refine pureT_ 10 6 HT_ ?_
   refine done_ (done_of HT_.out (by kernel_rfl)) ?_
   have hcz22_0 : w21.cell? ⟨gb952, 0, none⟩ = some (.int .i64 t948) := (blk_cell BK952.out 0).trans rfl
   have hcz22_1 : w21.cell? ⟨gb952, 1, none⟩ = some (.slice Ao15 t949.length co15) := (blk_cell BK952.out 1).trans rfl
   have hfz22_0 := blk_frozen BK952.out 0
   have hfz22_1 := blk_frozen BK952.out 1
   obtain ⟨Ao23, co23, eo23⟩ := Kd.R_slice HO961.out
   subst eo23
   go_upto_region 9 with (first | ((with_reducible refine gate_callee (f := 21) rfl ?_); refine goesM_ (some 38) rfl rfl Try.func21 (by kernel_rfl) rfl #[.agg #[.int .i64 t948, .slice Ao15 t949.length co15], .slice Ao19 t953.length co19, .slice Ao23 t959.length co23] rfl ?_; (with_reducible refine (impl_ScriptBetween.calls kj1 t948 _ _ t949 _ _ t953 _ _ t959 t963 t966 _ ?side1 ?side2 ?side3 ?side4 ?side5 ?side6 A8.out).mono ?_); (case side1 => exact Cz ((Kd.R_reads' HO951.out).2.2)); (case side2 => exact (Kd.R_reads' HO951.out).2.1); (case side3 => exact Cz ((Kd.R_reads' HO955.out).2.2)); (case side4 => exact (Kd.R_reads' HO955.out).2.1); (case side5 => exact Cz ((Kd.R_reads' HO961.out).2.2)); (case side6 => exact (Kd.R_reads' HO961.out).2.1); rintro e w24 ⟨v964, rfl, ho0, hb⟩; refine ⟨_, rfl, ?_⟩; replace HO951 := Aside0.mk (Kd.R_below (Rz HO951) hb); have HO965 := Aside0.mk (Kd.R_lower (Kd.R_new' (Kd.R_new' (Kd.R_new' ho0 (Kd.R_lt (Rz HO955))) (Kd.R_lt (Rz HO958))) (Kd.R_lt (Rz HO961))) (below_size (by exact Lz1 HB GE952))); replace HO955 := Aside0.mk (Kd.R_elder' (Rz HO955) (Kd.R_base ho0) hb); replace HO958 := Aside0.mk (Kd.R_elder' (Rz HO958) (Kd.R_base ho0) hb); replace HO961 := Aside0.mk (Kd.R_elder' (Rz HO961) (Kd.R_base ho0) hb); replace BK952 := Aside0.mk (blk_below (g := gb952) (o := .cells #[.int .i64 t948, .slice Ao15 t949.length co15] 31 (0, 0)) (Bz BK952) hb); replace HB := Aside0.mk (below_step (by exact Lz1 HB GE952) hb); (try clear hb); (try clear ho0); have hcz25_0 : w24.cell? ⟨gb952, 0, none⟩ = some (.int .i64 t948) := (blk_cell BK952.out 0).trans rfl; have hcz25_1 : w24.cell? ⟨gb952, 1, none⟩ = some (.slice Ao15 t949.length co15) := (blk_cell BK952.out 1).trans rfl; have hfz25_0 := blk_frozen BK952.out 0; have hfz25_1 := blk_frozen BK952.out 1) | ((with_reducible refine gate_callee (f := 21) rfl ?_); refine goesM_ (some 45) rfl rfl Try.func21 (by kernel_rfl) rfl #[.agg #[.int .i64 t948, .slice Ao15 t949.length co15], .slice Ao23 t959.length co23, .slice Ao19 t953.length co19] rfl ?_; (with_reducible refine (impl_ScriptBetween.calls kj1 t948 _ _ t949 _ _ t959 _ _ t953 t967 t970 _ ?side1 ?side2 ?side3 ?side4 ?side5 ?side6 A9.out).mono ?_); (case side1 => exact Cz ((Kd.R_reads' HO951.out).2.2)); (case side2 => exact (Kd.R_reads' HO951.out).2.1); (case side3 => exact Cz ((Kd.R_reads' HO961.out).2.2)); (case side4 => exact (Kd.R_reads' HO961.out).2.1); (case side5 => exact Cz ((Kd.R_reads' HO955.out).2.2)); (case side6 => exact (Kd.R_reads' HO955.out).2.1); rintro e w26 ⟨v968, rfl, ho0, hb⟩; refine ⟨_, rfl, ?_⟩; replace HO951 := Aside0.mk (Kd.R_below (Rz HO951) hb); have HO969 := Aside0.mk (Kd.R_lower (Kd.R_new' (Kd.R_new' (Kd.R_new' (Kd.R_new' ho0 (Kd.R_lt (Rz HO955))) (Kd.R_lt (Rz HO958))) (Kd.R_lt (Rz HO961))) (Kd.R_lt (Rz HO965))) (below_size (by exact Lz1 HB GE952))); replace HO955 := Aside0.mk (Kd.R_elder' (Rz HO955) (Kd.R_base ho0) hb); replace HO958 := Aside0.mk (Kd.R_elder' (Rz HO958) (Kd.R_base ho0) hb); replace HO961 := Aside0.mk (Kd.R_elder' (Rz HO961) (Kd.R_base ho0) hb); replace HO965 := Aside0.mk (Kd.R_elder' (Rz HO965) (Kd.R_base ho0) hb); replace BK952 := Aside0.mk (blk_below (g := gb952) (o := .cells #[.int .i64 t948, .slice Ao15 t949.length co15] 31 (0, 0)) (Bz BK952) hb); replace HB := Aside0.mk (below_step (by exact Lz1 HB GE952) hb); (try clear hb); (try clear ho0); have hcz27_0 : w26.cell? ⟨gb952, 0, none⟩ = some (.int .i64 t948) := (blk_cell BK952.out 0).trans rfl; have hcz27_1 : w26.cell? ⟨gb952, 1, none⟩ = some (.slice Ao15 t949.length co15) := (blk_cell BK952.out 1).trans rfl; have hfz27_0 := blk_frozen BK952.out 0; have hfz27_1 := blk_frozen BK952.out 1; obtain ⟨Ao28, co28, eo28⟩ := Kd.R_slice HO965.out; subst eo28) | ((with_reducible refine gate_callee (f := 27) rfl ?_); refine goesM_ (some 52) rfl rfl Try.func27 (by kernel_rfl) rfl #[.agg #[.int .i64 t948, .slice Ao15 t949.length co15], .slice Ao19 t953.length co19, .slice Ao28 t963.length co28] rfl ?_; (with_reducible refine (impl_FireScript.calls kj1 t948 _ _ t949 _ _ t953 _ _ t963 t971 t974 _ ?side1 ?side2 ?side3 ?side4 ?side5 ?side6 A10.out).mono ?_); (case side1 => exact Cz ((Kd.R_reads' HO951.out).2.2)); (case side2 => exact (Kd.R_reads' HO951.out).2.1); (case side3 => exact Cz ((Kd.R_reads' HO955.out).2.2)); (case side4 => exact (Kd.R_reads' HO955.out).2.1); (case side5 => exact Cz ((Kd.R_reads' HO965.out).2.2)); (case side6 => exact (Kd.R_reads' HO965.out).2.1); rintro e w29 ⟨v972, rfl, ho0, hb⟩; refine ⟨_, rfl, ?_⟩; replace HO951 := Aside0.mk (Kd.R_below (Rz HO951) hb); have HO973 := Aside0.mk (Kd.R_lower (Kd.R_new' (Kd.R_new' (Kd.R_new' (Kd.R_new' (Kd.R_new' ho0 (Kd.R_lt (Rz HO955))) (Kd.R_lt (Rz HO958))) (Kd.R_lt (Rz HO961))) (Kd.R_lt (Rz HO965))) (Kd.R_lt (Rz HO969))) (below_size (by exact Lz1 HB GE952))); replace HO955 := Aside0.mk (Kd.R_elder' (Rz HO955) (Kd.R_base ho0) hb); replace HO958 := Aside0.mk (Kd.R_elder' (Rz HO958) (Kd.R_base ho0) hb); replace HO961 := Aside0.mk (Kd.R_elder' (Rz HO961) (Kd.R_base ho0) hb); replace HO965 := Aside0.mk (Kd.R_elder' (Rz HO965) (Kd.R_base ho0) hb); replace HO969 := Aside0.mk (Kd.R_elder' (Rz HO969) (Kd.R_base ho0) hb); replace BK952 := Aside0.mk (blk_below (g := gb952) (o := .cells #[.int .i64 t948, .slice Ao15 t949.length co15] 31 (0, 0)) (Bz BK952) hb); replace HB := Aside0.mk (below_step (by exact Lz1 HB GE952) hb); (try clear hb); (try clear ho0)))
   (try simp only [Act.put, List.setIfInBounds_toArray, List.set_cons_zero, List.set_cons_succ])
   go_cut [88] (fun v88 wc => ∃ (kq : Nat) (x88_10 : Bool), v88 = .bool x88_10 ∧ Aside0 (laws_FnScripts.j1 kq t953 t959 t963 t967 x88_10 t948 t949 = some r) ∧ Aside0 (kq ≤ kj1) ∧ Aside0 (Kd.R (Kd.int .i64) 3 wc w.heap.size (fun k_ => some k_ ≠ ((.slice Ao23 t959.length co23) : Value).ownBlock ∧ some k_ ≠ ((.slice Ao28 t963.length co28) : Value).ownBlock ∧ some k_ ≠ (v968 : Value).ownBlock) (.slice Ao19 t953.length co19) t953) ∧ Aside0 (Kd.R (Kd.int .i64) 3 wc w.heap.size (fun k_ => some k_ ≠ ((.slice Ao19 t953.length co19) : Value).ownBlock ∧ some k_ ≠ ((.slice Ao28 t963.length co28) : Value).ownBlock ∧ some k_ ≠ (v968 : Value).ownBlock) (.slice Ao23 t959.length co23) t959) ∧ Aside0 (Kd.R (Kd.int .i64) 3 wc w.heap.size (fun k_ => some k_ ≠ ((.slice Ao19 t953.length co19) : Value).ownBlock ∧ some k_ ≠ ((.slice Ao23 t959.length co23) : Value).ownBlock ∧ some k_ ≠ (v968 : Value).ownBlock) (.slice Ao28 t963.length co28) t963) ∧ Aside0 (Kd.R (Kd.int .i64) 3 wc w.heap.size (fun k_ => some k_ ≠ ((.slice Ao19 t953.length co19) : Value).ownBlock ∧ some k_ ≠ ((.slice Ao23 t959.length co23) : Value).ownBlock ∧ some k_ ≠ ((.slice Ao28 t963.length co28) : Value).ownBlock) v968 t967) ∧ Aside0 (Kd.R k67 67 wc w.heap.size (fun _ => True) (.slice Ao15 t949.length co15) t949) ∧ Aside0 (wc.heap[gb952]? = some (.cells #[.int .i64 t948, (.slice Ao15 t949.length co15)] 31 (0, 0))) ∧ Aside0 (Below w.heap.size w wc))
   case first =>
    have H := HC11.out
    clear HC11
    by_cases c30 : t962 = true
    ·subst c30
     have H1 : (if t966 = true then (if t970 = true then (if t974 = true then (if (t963.length : Int) = t948 then (if (t967.length : Int) = t948 then ((laws_same.f kj1 t971 t959).bind fun t975 => (laws_FnScripts.j1 kj1 t953 t959 t963 t967 (!t975) t948 t949)) else (laws_FnScripts.j1 kj1 t953 t959 t963 t967 true t948 t949)) else (laws_FnScripts.j1 kj1 t953 t959 t963 t967 true t948 t949)) else (laws_FnScripts.j1 kj1 t953 t959 t963 t967 true t948 t949)) else (laws_FnScripts.j1 kj1 t953 t959 t963 t967 true t948 t949)) else (laws_FnScripts.j1 kj1 t953 t959 t963 t967 true t948 t949)) = some r := by rw [if_pos rfl] at H; exact H
     clear H
     have H := H1
     clear H1
     by_cases c31 : t966 = true
     ·subst c31
      have H1 : (if t970 = true then (if t974 = true then (if (t963.length : Int) = t948 then (if (t967.length : Int) = t948 then ((laws_same.f kj1 t971 t959).bind fun t975 => (laws_FnScripts.j1 kj1 t953 t959 t963 t967 (!t975) t948 t949)) else (laws_FnScripts.j1 kj1 t953 t959 t963 t967 true t948 t949)) else (laws_FnScripts.j1 kj1 t953 t959 t963 t967 true t948 t949)) else (laws_FnScripts.j1 kj1 t953 t959 t963 t967 true t948 t949)) else (laws_FnScripts.j1 kj1 t953 t959 t963 t967 true t948 t949)) = some r := by rw [if_pos rfl] at H; exact H
      clear H
      have H := H1
      clear H1
      by_cases c32 : t970 = true
      ·subst c32
       have H1 : (if t974 = true then (if (t963.length : Int) = t948 then (if (t967.length : Int) = t948 then ((laws_same.f kj1 t971 t959).bind fun t975 => (laws_FnScripts.j1 kj1 t953 t959 t963 t967 (!t975) t948 t949)) else (laws_FnScripts.j1 kj1 t953 t959 t963 t967 true t948 t949)) else (laws_FnScripts.j1 kj1 t953 t959 t963 t967 true t948 t949)) else (laws_FnScripts.j1 kj1 t953 t959 t963 t967 true t948 t949)) = some r := by rw [if_pos rfl] at H; exact H
       clear H
       have H := H1
       clear H1
       by_cases c33 : t974 = true
       ·subst c33
        have H1 : (if (t963.length : Int) = t948 then (if (t967.length : Int) = t948 then ((laws_same.f kj1 t971 t959).bind fun t975 => (laws_FnScripts.j1 kj1 t953 t959 t963 t967 (!t975) t948 t949)) else (laws_FnScripts.j1 kj1 t953 t959 t963 t967 true t948 t949)) else (laws_FnScripts.j1 kj1 t953 t959 t963 t967 true t948 t949)) = some r := by rw [if_pos rfl] at H; exact H
        clear H
        have H := H1
        clear H1
        by_cases c34 : (t963.length : Int) = t948
        ·rw [if_pos c34] at H
         have c34b0 : ((t963.length : Int) == t948) = true := beq_iff_eq.mpr c34
         have c34b1 : ((t963.length : Int) != t948) = false := bne_eq_false_iff_eq.mpr c34
         clear c34
         (first | rw [c34b0] | (simp only [i64_w, i32_w]; rw [c34b0]) | skip)
         by_cases c35 : (t967.length : Int) = t948
         ·rw [if_pos c35] at H
          have c35b0 : ((t967.length : Int) == t948) = true := beq_iff_eq.mpr c35
          have c35b1 : ((t967.length : Int) != t948) = false := bne_eq_false_iff_eq.mpr c35
          clear c35
          replace H := Option.bind_eq_some_iff.mp H
          obtain ⟨t975, A360, H⟩ := H
          replace H : (laws_FnScripts.j1 kj1 t953 t959 t963 t967 (!t975) t948 t949) = some r := H
          have A36 := Aside0.mk A360
          clear A360
          have H' := Aside0.mk H
          clear H
          have hcz37_0 : w29.cell? ⟨gb952, 0, none⟩ = some (.int .i64 t948) := (blk_cell BK952.out 0).trans rfl
          have hcz37_1 : w29.cell? ⟨gb952, 1, none⟩ = some (.slice Ao15 t949.length co15) := (blk_cell BK952.out 1).trans rfl
          have hfz37_0 := blk_frozen BK952.out 0
          have hfz37_1 := blk_frozen BK952.out 1
          obtain ⟨Ao38, co38, eo38⟩ := Kd.R_slice HO969.out
          subst eo38
          obtain ⟨Ao39, co39, eo39⟩ := Kd.R_slice HO973.out
          subst eo39
          go_wp2_with (first | (go_at_call 28; (with_reducible refine (laws_same.calls kj1 _ _ t971 _ _ t959 t975 _ ?side1 ?side2 ?side3 ?side4 A36.out).mono ?_); (case side1 => exact Cz ((Kd.R_reads' HO973.out).2.2)); (case side2 => exact (Kd.R_reads' HO973.out).2.1); (case side3 => exact Cz ((Kd.R_reads' HO961.out).2.2)); (case side4 => exact (Kd.R_reads' HO961.out).2.1); rintro e w' ⟨rfl, ⟨nd, rfl⟩⟩))
          go_meet
          case rel => exact ⟨_, (!t975), eqA, H', ⟨by have := HJ1.out; first | omega | exact Nat.le_refl _⟩, ⟨by (with_reducible repeat (first | apply Kd.R_alloc | apply Kd.R_drewN | apply Kd.R_drew)); exact Kd.R_mono HO955.out (fun _ hk => ⟨hk.1.1.1.2, ⟨hk.1.1.2, hk.1.2⟩⟩)⟩, ⟨by (with_reducible repeat (first | apply Kd.R_alloc | apply Kd.R_drewN | apply Kd.R_drew)); exact Kd.R_mono HO961.out (fun _ hk => ⟨hk.1.1.1.1.2, ⟨hk.1.1.2, hk.1.2⟩⟩)⟩, ⟨by (with_reducible repeat (first | apply Kd.R_alloc | apply Kd.R_drewN | apply Kd.R_drew)); exact Kd.R_mono HO965.out (fun _ hk => ⟨hk.1.1.1.1.2, ⟨hk.1.1.2, hk.1.2⟩⟩)⟩, ⟨by (with_reducible repeat (first | apply Kd.R_alloc | apply Kd.R_drewN | apply Kd.R_drew)); exact Kd.R_mono HO969.out (fun _ hk => ⟨hk.1.1.1.1.2, ⟨hk.1.1.2, hk.1.2⟩⟩)⟩, ⟨by exact Rz HO951⟩, ⟨by exact Bz BK952⟩, ⟨by exact Lz1 HB GE952⟩⟩
         rw [if_neg c35] at H
         have c35b0 : ((t967.length : Int) == t948) = false := beq_eq_false_iff_ne.mpr c35
         have c35b1 : ((t967.length : Int) != t948) = true := bne_iff_ne.mpr c35
         have H' := Aside0.mk H
         clear H
         have hcz40_0 : w29.cell? ⟨gb952, 0, none⟩ = some (.int .i64 t948) := (blk_cell BK952.out 0).trans rfl
         have hcz40_1 : w29.cell? ⟨gb952, 1, none⟩ = some (.slice Ao15 t949.length co15) := (blk_cell BK952.out 1).trans rfl
         have hfz40_0 := blk_frozen BK952.out 0
         have hfz40_1 := blk_frozen BK952.out 1
         obtain ⟨Ao41, co41, eo41⟩ := Kd.R_slice HO969.out
         subst eo41
         go_wp2
         go_meet
         case rel => exact ⟨_, (true), eqA, H', ⟨by have := HJ1.out; first | omega | exact Nat.le_refl _⟩, ⟨by (with_reducible repeat (first | apply Kd.R_alloc | apply Kd.R_drewN | apply Kd.R_drew)); exact Kd.R_mono HO955.out (fun _ hk => ⟨hk.1.1.1.2, ⟨hk.1.1.2, hk.1.2⟩⟩)⟩, ⟨by (with_reducible repeat (first | apply Kd.R_alloc | apply Kd.R_drewN | apply Kd.R_drew)); exact Kd.R_mono HO961.out (fun _ hk => ⟨hk.1.1.1.1.2, ⟨hk.1.1.2, hk.1.2⟩⟩)⟩, ⟨by (with_reducible repeat (first | apply Kd.R_alloc | apply Kd.R_drewN | apply Kd.R_drew)); exact Kd.R_mono HO965.out (fun _ hk => ⟨hk.1.1.1.1.2, ⟨hk.1.1.2, hk.1.2⟩⟩)⟩, ⟨by (with_reducible repeat (first | apply Kd.R_alloc | apply Kd.R_drewN | apply Kd.R_drew)); exact Kd.R_mono HO969.out (fun _ hk => ⟨hk.1.1.1.1.2, ⟨hk.1.1.2, hk.1.2⟩⟩)⟩, ⟨by exact Rz HO951⟩, ⟨by exact Bz BK952⟩, ⟨by exact Lz1 HB GE952⟩⟩
        rw [if_neg c34] at H
        have c34b0 : ((t963.length : Int) == t948) = false := beq_eq_false_iff_ne.mpr c34
        have c34b1 : ((t963.length : Int) != t948) = true := bne_iff_ne.mpr c34
        (first | rw [c34b0] | (simp only [i64_w, i32_w]; rw [c34b0]) | skip)
        have H' := Aside0.mk H
        clear H
        have hcz42_0 : w29.cell? ⟨gb952, 0, none⟩ = some (.int .i64 t948) := (blk_cell BK952.out 0).trans rfl
        have hcz42_1 : w29.cell? ⟨gb952, 1, none⟩ = some (.slice Ao15 t949.length co15) := (blk_cell BK952.out 1).trans rfl
        have hfz42_0 := blk_frozen BK952.out 0
        have hfz42_1 := blk_frozen BK952.out 1
        go_wp2
        go_meet
        case rel => exact ⟨_, (true), eqA, H', ⟨by have := HJ1.out; first | omega | exact Nat.le_refl _⟩, ⟨by (with_reducible repeat (first | apply Kd.R_alloc | apply Kd.R_drewN | apply Kd.R_drew)); exact Kd.R_mono HO955.out (fun _ hk => ⟨hk.1.1.1.2, ⟨hk.1.1.2, hk.1.2⟩⟩)⟩, ⟨by (with_reducible repeat (first | apply Kd.R_alloc | apply Kd.R_drewN | apply Kd.R_drew)); exact Kd.R_mono HO961.out (fun _ hk => ⟨hk.1.1.1.1.2, ⟨hk.1.1.2, hk.1.2⟩⟩)⟩, ⟨by (with_reducible repeat (first | apply Kd.R_alloc | apply Kd.R_drewN | apply Kd.R_drew)); exact Kd.R_mono HO965.out (fun _ hk => ⟨hk.1.1.1.1.2, ⟨hk.1.1.2, hk.1.2⟩⟩)⟩, ⟨by (with_reducible repeat (first | apply Kd.R_alloc | apply Kd.R_drewN | apply Kd.R_drew)); exact Kd.R_mono HO969.out (fun _ hk => ⟨hk.1.1.1.1.2, ⟨hk.1.1.2, hk.1.2⟩⟩)⟩, ⟨by exact Rz HO951⟩, ⟨by exact Bz BK952⟩, ⟨by exact Lz1 HB GE952⟩⟩
       replace c33 := Bool.eq_false_iff.mpr c33
       subst c33
       have H1 : (laws_FnScripts.j1 kj1 t953 t959 t963 t967 true t948 t949) = some r := by rw [if_neg (show ¬ (false = true) by decide)] at H; exact H
       clear H
       have H := H1
       clear H1
       have H' := Aside0.mk H
       clear H
       go_wp2
       go_meet
       case rel => exact ⟨_, (true), eqA, H', ⟨by have := HJ1.out; first | omega | exact Nat.le_refl _⟩, ⟨by (with_reducible repeat (first | apply Kd.R_alloc | apply Kd.R_drewN | apply Kd.R_drew)); exact Kd.R_mono HO955.out (fun _ hk => ⟨hk.1.1.1.2, ⟨hk.1.1.2, hk.1.2⟩⟩)⟩, ⟨by (with_reducible repeat (first | apply Kd.R_alloc | apply Kd.R_drewN | apply Kd.R_drew)); exact Kd.R_mono HO961.out (fun _ hk => ⟨hk.1.1.1.1.2, ⟨hk.1.1.2, hk.1.2⟩⟩)⟩, ⟨by (with_reducible repeat (first | apply Kd.R_alloc | apply Kd.R_drewN | apply Kd.R_drew)); exact Kd.R_mono HO965.out (fun _ hk => ⟨hk.1.1.1.1.2, ⟨hk.1.1.2, hk.1.2⟩⟩)⟩, ⟨by (with_reducible repeat (first | apply Kd.R_alloc | apply Kd.R_drewN | apply Kd.R_drew)); exact Kd.R_mono HO969.out (fun _ hk => ⟨hk.1.1.1.1.2, ⟨hk.1.1.2, hk.1.2⟩⟩)⟩, ⟨by exact Rz HO951⟩, ⟨by exact Bz BK952⟩, ⟨by exact Lz1 HB GE952⟩⟩
      replace c32 := Bool.eq_false_iff.mpr c32
      subst c32
      have H1 : (laws_FnScripts.j1 kj1 t953 t959 t963 t967 true t948 t949) = some r := by rw [if_neg (show ¬ (false = true) by decide)] at H; exact H
      clear H
      have H := H1
      clear H1
      have H' := Aside0.mk H
      clear H
      go_wp2
      go_meet
      case rel => exact ⟨_, (true), eqA, H', ⟨by have := HJ1.out; first | omega | exact Nat.le_refl _⟩, ⟨by (with_reducible repeat (first | apply Kd.R_alloc | apply Kd.R_drewN | apply Kd.R_drew)); exact Kd.R_mono HO955.out (fun _ hk => ⟨hk.1.1.1.2, ⟨hk.1.1.2, hk.1.2⟩⟩)⟩, ⟨by (with_reducible repeat (first | apply Kd.R_alloc | apply Kd.R_drewN | apply Kd.R_drew)); exact Kd.R_mono HO961.out (fun _ hk => ⟨hk.1.1.1.1.2, ⟨hk.1.1.2, hk.1.2⟩⟩)⟩, ⟨by (with_reducible repeat (first | apply Kd.R_alloc | apply Kd.R_drewN | apply Kd.R_drew)); exact Kd.R_mono HO965.out (fun _ hk => ⟨hk.1.1.1.1.2, ⟨hk.1.1.2, hk.1.2⟩⟩)⟩, ⟨by (with_reducible repeat (first | apply Kd.R_alloc | apply Kd.R_drewN | apply Kd.R_drew)); exact Kd.R_mono HO969.out (fun _ hk => ⟨hk.1.1.1.1.2, ⟨hk.1.1.2, hk.1.2⟩⟩)⟩, ⟨by exact Rz HO951⟩, ⟨by exact Bz BK952⟩, ⟨by exact Lz1 HB GE952⟩⟩
     replace c31 := Bool.eq_false_iff.mpr c31
     subst c31
     have H1 : (laws_FnScripts.j1 kj1 t953 t959 t963 t967 true t948 t949) = some r := by rw [if_neg (show ¬ (false = true) by decide)] at H; exact H
     clear H
     have H := H1
     clear H1
     have H' := Aside0.mk H
     clear H
     go_wp2
     go_meet
     case rel => exact ⟨_, (true), eqA, H', ⟨by have := HJ1.out; first | omega | exact Nat.le_refl _⟩, ⟨by (with_reducible repeat (first | apply Kd.R_alloc | apply Kd.R_drewN | apply Kd.R_drew)); exact Kd.R_mono HO955.out (fun _ hk => ⟨hk.1.1.1.2, ⟨hk.1.1.2, hk.1.2⟩⟩)⟩, ⟨by (with_reducible repeat (first | apply Kd.R_alloc | apply Kd.R_drewN | apply Kd.R_drew)); exact Kd.R_mono HO961.out (fun _ hk => ⟨hk.1.1.1.1.2, ⟨hk.1.1.2, hk.1.2⟩⟩)⟩, ⟨by (with_reducible repeat (first | apply Kd.R_alloc | apply Kd.R_drewN | apply Kd.R_drew)); exact Kd.R_mono HO965.out (fun _ hk => ⟨hk.1.1.1.1.2, ⟨hk.1.1.2, hk.1.2⟩⟩)⟩, ⟨by (with_reducible repeat (first | apply Kd.R_alloc | apply Kd.R_drewN | apply Kd.R_drew)); exact Kd.R_mono HO969.out (fun _ hk => ⟨hk.1.1.1.1.2, ⟨hk.1.1.2, hk.1.2⟩⟩)⟩, ⟨by exact Rz HO951⟩, ⟨by exact Bz BK952⟩, ⟨by exact Lz1 HB GE952⟩⟩
    replace c30 := Bool.eq_false_iff.mpr c30
    subst c30
    have H1 : (laws_FnScripts.j1 kj1 t953 t959 t963 t967 true t948 t949) = some r := by rw [if_neg (show ¬ (false = true) by decide)] at H; exact H
    clear H
    have H := H1
    clear H1
    have H' := Aside0.mk H
    clear H
    go_wp2
    go_meet
    case rel => exact ⟨_, (true), eqA, H', ⟨by have := HJ1.out; first | omega | exact Nat.le_refl _⟩, ⟨by (with_reducible repeat (first | apply Kd.R_alloc | apply Kd.R_drewN | apply Kd.R_drew)); exact Kd.R_mono HO955.out (fun _ hk => ⟨hk.1.1.1.2, ⟨hk.1.1.2, hk.1.2⟩⟩)⟩, ⟨by (with_reducible repeat (first | apply Kd.R_alloc | apply Kd.R_drewN | apply Kd.R_drew)); exact Kd.R_mono HO961.out (fun _ hk => ⟨hk.1.1.1.1.2, ⟨hk.1.1.2, hk.1.2⟩⟩)⟩, ⟨by (with_reducible repeat (first | apply Kd.R_alloc | apply Kd.R_drewN | apply Kd.R_drew)); exact Kd.R_mono HO965.out (fun _ hk => ⟨hk.1.1.1.1.2, ⟨hk.1.1.2, hk.1.2⟩⟩)⟩, ⟨by (with_reducible repeat (first | apply Kd.R_alloc | apply Kd.R_drewN | apply Kd.R_drew)); exact Kd.R_mono HO969.out (fun _ hk => ⟨hk.1.1.1.1.2, ⟨hk.1.1.2, hk.1.2⟩⟩)⟩, ⟨by exact Rz HO951⟩, ⟨by exact Bz BK952⟩, ⟨by exact Lz1 HB GE952⟩⟩
   case rest =>
    clear HC11
    try clear c3
    try clear c3b0
    try clear c3b1
    try clear c30
    try clear c31
    try clear c32
    try clear c33
    try clear c34
    try clear c34b0
    try clear c34b1
    try clear c35
    try clear c35b0
    try clear c35b1
    obtain ⟨kq, x88_10, rfl, HA, HJ10, HO_4, HO_5, HO_7, HO_9, HO_953001, BK952, HB⟩ := hcut
    cases kq with
    | zero => exact absurd HA.out (by simp [laws_FnScripts.j1])
    | succ kj10 =>
     have H := HA.out
     clear HA
     simp only [laws_FnScripts.j1] at H
     have HC43 := Aside0.mk H
     clear H
     go_upto_if 88 with (fail)
     go_cut [] (fun wc => ∃ (kq : Nat), Aside0 (laws_FnScripts.j2 kq t953 t959 t963 t967 t948 t949 = some r) ∧ Aside0 (kq ≤ kj10) ∧ Aside0 (Kd.R (Kd.int .i64) 3 wc w.heap.size (fun k_ => some k_ ≠ ((.slice Ao23 t959.length co23) : Value).ownBlock ∧ some k_ ≠ ((.slice Ao28 t963.length co28) : Value).ownBlock ∧ some k_ ≠ (v968 : Value).ownBlock) (.slice Ao19 t953.length co19) t953) ∧ Aside0 (Kd.R (Kd.int .i64) 3 wc w.heap.size (fun k_ => some k_ ≠ ((.slice Ao19 t953.length co19) : Value).ownBlock ∧ some k_ ≠ ((.slice Ao28 t963.length co28) : Value).ownBlock ∧ some k_ ≠ (v968 : Value).ownBlock) (.slice Ao23 t959.length co23) t959) ∧ Aside0 (Kd.R (Kd.int .i64) 3 wc w.heap.size (fun k_ => some k_ ≠ ((.slice Ao19 t953.length co19) : Value).ownBlock ∧ some k_ ≠ ((.slice Ao23 t959.length co23) : Value).ownBlock ∧ some k_ ≠ (v968 : Value).ownBlock) (.slice Ao28 t963.length co28) t963) ∧ Aside0 (Kd.R (Kd.int .i64) 3 wc w.heap.size (fun k_ => some k_ ≠ ((.slice Ao19 t953.length co19) : Value).ownBlock ∧ some k_ ≠ ((.slice Ao23 t959.length co23) : Value).ownBlock ∧ some k_ ≠ ((.slice Ao28 t963.length co28) : Value).ownBlock) v968 t967) ∧ Aside0 (Kd.R k67 67 wc w.heap.size (fun _ => True) (.slice Ao15 t949.length co15) t949) ∧ Aside0 (wc.heap[gb952]? = some (.cells #[.int .i64 t948, (.slice Ao15 t949.length co15)] 31 (0, 0))) ∧ Aside0 (Below w.heap.size w wc))
     case first =>
      have H := HC43.out
      clear HC43
      by_cases c44 : x88_10 = true
      ·subst c44
       have H1 : (some false) = some r := by rw [if_pos rfl] at H; exact H
       clear H
       have H := H1
       clear H1
       exact absurd (Option.some.inj H) (by rw [HR_.out]; decide)
      replace c44 := Bool.eq_false_iff.mpr c44
      subst c44
      have H1 : (laws_FnScripts.j2 kj10 t953 t959 t963 t967 t948 t949) = some r := by rw [if_neg (show ¬ (false = true) by decide)] at H; exact H
      clear H
      have H := H1
      clear H1
      have H' := Aside0.mk H
      clear H
      go_wp2
      go_meet
      case rel => exact ⟨_, H', ⟨by have := HJ1.out; have := HJ10.out; first | omega | exact Nat.le_refl _⟩, ⟨by exact Rz HO_4⟩, ⟨by exact Rz HO_5⟩, ⟨by exact Rz HO_7⟩, ⟨by exact Rz HO_9⟩, ⟨by exact Rz HO_953001⟩, ⟨by exact Bz BK952⟩, ⟨by exact Lz1 HB GE952⟩⟩
     case rest =>
      clear HC43
      try clear c3
      try clear c3b0
      try clear c3b1
      try clear c30
      try clear c31
      try clear c32
      try clear c33
      try clear c34
      try clear c34b0
      try clear c34b1
      try clear c35
      try clear c35b0
      try clear c35b1
      try clear c44
      obtain ⟨kq, HA, HJ42, HO_4, HO_5, HO_7, HO_9, HO_953001, BK952, HB⟩ := hcut
      cases kq with
      | zero => exact absurd HA.out (by simp [laws_FnScripts.j2])
      | succ kj42 =>
       have H := HA.out
       clear HA
       simp only [laws_FnScripts.j2] at H
       by_cases c45 : 0 < (t963.length : Int)
       ·rw [if_pos c45] at H
        have c45b0 : decide (0 < (t963.length : Int)) = true := decide_eq_true c45
        have c45b1 : decide (0 < t963.length) = true := decide_eq_true (by omega)
        clear c45
        have H' := Aside0.mk H
        clear H
        have p976 : 0 ≤ (0 : Int) := (by omega)
        have q976 : 0 < (t963.length : Int) := ofA
        obtain ⟨ad976, e976, hx976_0⟩ := Kd.at_int (Kd.R_reads' HO_7.out).2.2 0 p976 q976
        cases e976
        have qi976 : (0 < t963.length) = True := eq_true (by omega)
        (try rw [show ((0 : Int)).toNat = 0 from rfl] at hx976_0)
        (try rw [Addr.add_zero'] at hx976_0)
        replace p976 := eq_true p976
        replace q976 := eq_true q976
        go_wp2
        go_loopg [13, 94] kj42 (fun kq v13 v94 w' => ∃ (x13_4 : Int) (x94_4 : Int), v13 = .int .i64 x13_4 ∧ v94 = .int .i64 x94_4 ∧ Aside0 (laws_FnScripts.l0 kq t953 t959 t963 t967 x13_4 (t963.length : Int) x94_4 t948 t949 = some r) ∧ Aside0 (kq ≤ kj42) ∧ Aside0 (Kd.R (Kd.int .i64) 3 w' w.heap.size (fun k_ => some k_ ≠ ((.slice Ao23 t959.length co23) : Value).ownBlock ∧ some k_ ≠ ((.slice (some ad976) t963.length co28) : Value).ownBlock ∧ some k_ ≠ (v968 : Value).ownBlock) (.slice Ao19 t953.length co19) t953) ∧ Aside0 (Kd.R (Kd.int .i64) 3 w' w.heap.size (fun k_ => some k_ ≠ ((.slice Ao19 t953.length co19) : Value).ownBlock ∧ some k_ ≠ ((.slice (some ad976) t963.length co28) : Value).ownBlock ∧ some k_ ≠ (v968 : Value).ownBlock) (.slice Ao23 t959.length co23) t959) ∧ Aside0 (Kd.R (Kd.int .i64) 3 w' w.heap.size (fun k_ => some k_ ≠ ((.slice Ao19 t953.length co19) : Value).ownBlock ∧ some k_ ≠ ((.slice Ao23 t959.length co23) : Value).ownBlock ∧ some k_ ≠ (v968 : Value).ownBlock) (.slice (some ad976) t963.length co28) t963) ∧ Aside0 (Kd.R (Kd.int .i64) 3 w' w.heap.size (fun k_ => some k_ ≠ ((.slice Ao19 t953.length co19) : Value).ownBlock ∧ some k_ ≠ ((.slice Ao23 t959.length co23) : Value).ownBlock ∧ some k_ ≠ ((.slice (some ad976) t963.length co28) : Value).ownBlock) v968 t967) ∧ Aside0 (Kd.R k67 67 w' w.heap.size (fun _ => True) (.slice Ao15 t949.length co15) t949) ∧ Aside0 (w'.heap[gb952]? = some (.cells #[.int .i64 t948, (.slice Ao15 t949.length co15)] 31 (0, 0))) ∧ Aside0 (Below w.heap.size w w'))
        case atStart => exact ⟨(rd t963 0), (0), eqA, eqA, H', ⟨Nat.le_refl _⟩, ⟨by exact Rz HO_4⟩, ⟨by exact Rz HO_5⟩, ⟨by exact Rz HO_7⟩, ⟨by exact Rz HO_9⟩, ⟨by exact Rz HO_953001⟩, ⟨by exact Bz BK952⟩, ⟨by exact Lz1 HB GE952⟩⟩
        case round =>
         clear H'
         try clear c3
         try clear c3b0
         try clear c3b1
         try clear c30
         try clear c31
         try clear c32
         try clear c33
         try clear c34
         try clear c34b0
         try clear c34b1
         try clear c35
         try clear c35b0
         try clear c35b1
         try clear c44
         try clear c45
         try clear c45b0
         try clear c45b1
         try clear p976
         try clear q976
         obtain ⟨x13_4, x94_4, rfl, rfl, HA, HK4, HO_4, HO_5, HO_7, HO_9, HO_953001, BK952, HB⟩ := hrel
         cases gk with
         | zero => exact absurd HA.out (by simp [laws_FnScripts.l0])
         | succ k4 =>
          have H := HA.out
          clear HA
          simp only [laws_FnScripts.l0] at H
          have HC46 := Aside0.mk H
          clear H
          go_upto_if 95 with (fail)
          go_cut [] (fun wc => ∃ (kq : Nat), Aside0 (laws_FnScripts.j4 kq t953 t959 t963 t967 x13_4 (t963.length : Int) x94_4 t948 t949 = some r) ∧ Aside0 (kq ≤ k4) ∧ Aside0 (Kd.R (Kd.int .i64) 3 wc w.heap.size (fun k_ => some k_ ≠ ((.slice Ao23 t959.length co23) : Value).ownBlock ∧ some k_ ≠ ((.slice (some ad976) t963.length co28) : Value).ownBlock ∧ some k_ ≠ (v968 : Value).ownBlock) (.slice Ao19 t953.length co19) t953) ∧ Aside0 (Kd.R (Kd.int .i64) 3 wc w.heap.size (fun k_ => some k_ ≠ ((.slice Ao19 t953.length co19) : Value).ownBlock ∧ some k_ ≠ ((.slice (some ad976) t963.length co28) : Value).ownBlock ∧ some k_ ≠ (v968 : Value).ownBlock) (.slice Ao23 t959.length co23) t959) ∧ Aside0 (Kd.R (Kd.int .i64) 3 wc w.heap.size (fun k_ => some k_ ≠ ((.slice Ao19 t953.length co19) : Value).ownBlock ∧ some k_ ≠ ((.slice Ao23 t959.length co23) : Value).ownBlock ∧ some k_ ≠ (v968 : Value).ownBlock) (.slice (some ad976) t963.length co28) t963) ∧ Aside0 (Kd.R (Kd.int .i64) 3 wc w.heap.size (fun k_ => some k_ ≠ ((.slice Ao19 t953.length co19) : Value).ownBlock ∧ some k_ ≠ ((.slice Ao23 t959.length co23) : Value).ownBlock ∧ some k_ ≠ ((.slice (some ad976) t963.length co28) : Value).ownBlock) v968 t967) ∧ Aside0 (Kd.R k67 67 wc w.heap.size (fun _ => True) (.slice Ao15 t949.length co15) t949) ∧ Aside0 (wc.heap[gb952]? = some (.cells #[.int .i64 t948, (.slice Ao15 t949.length co15)] 31 (0, 0))) ∧ Aside0 (Below w.heap.size w wc))
          case first =>
           have H := HC46.out
           clear HC46
           by_cases c47 : x94_4 < (t963.length : Int)
           ·rw [if_pos c47] at H
            have c47b0 : decide (x94_4 < (t963.length : Int)) = true := decide_eq_true c47
            clear c47
            (first | rw [c47b0] | (simp only [i64_w, i32_w]; rw [c47b0]) | skip)
            have H' := Aside0.mk H
            clear H
            go_wp2
            go_meet
            case rel => exact ⟨_, H', ⟨by have := HJ1.out; have := HJ10.out; have := HJ42.out; have := HK4.out; first | omega | exact Nat.le_refl _⟩, ⟨by exact Rz HO_4⟩, ⟨by exact Rz HO_5⟩, ⟨by exact Rz HO_7⟩, ⟨by exact Rz HO_9⟩, ⟨by exact Rz HO_953001⟩, ⟨by exact Bz BK952⟩, ⟨by exact Lz1 HB GE952⟩⟩
           rw [if_neg c47] at H
           have c47b0 : decide (x94_4 < (t963.length : Int)) = false := decide_eq_false c47
           clear c47
           (first | rw [c47b0] | (simp only [i64_w, i32_w]; rw [c47b0]) | skip)
           replace H := Option.bind_eq_some_iff.mp H
           obtain ⟨t982, A480, H⟩ := H
           replace H : ((impl_AddDivisors.f k4 t953 t982).bind fun bt985 => (if x13_4 = 0 then (if bt985.2 = true then ((impl_IsPrincipal.f k4 t948 t949 bt985.1).bind fun t989 => (some t989)) else (some false)) else (some false))) = some r := H
           have A48 := Aside0.mk A480
           clear A480
           replace H := Option.bind_eq_some_iff.mp H
           obtain ⟨⟨t985, t986⟩, A490, H⟩ := H
           replace H : (if x13_4 = 0 then (if t986 = true then ((impl_IsPrincipal.f k4 t948 t949 t985).bind fun t989 => (some t989)) else (some false)) else (some false)) = some r := H
           have A49 := Aside0.mk A490
           clear A490
           by_cases c50 : x13_4 = 0
           ·rw [if_pos c50] at H
            have c50b0 : (x13_4 == 0) = true := beq_iff_eq.mpr c50
            have c50b1 : (x13_4 != 0) = false := bne_eq_false_iff_eq.mpr c50
            clear c50
            by_cases c51 : t986 = true
            ·subst c51
             have H1 : ((impl_IsPrincipal.f k4 t948 t949 t985).bind fun t989 => (some t989)) = some r := by rw [if_pos rfl] at H; exact H
             clear H
             have H := H1
             clear H1
             replace H := Option.bind_eq_some_iff.mp H
             obtain ⟨t989, A520, H⟩ := H
             replace H : (some t989) = some r := H
             have A52 := Aside0.mk A520
             clear A520
             obtain rfl := Option.some.inj H
             go_wp2_with (first | ((with_reducible refine gate_callee (f := 38) rfl ?_); refine goesM_ (some 124) rfl rfl Try.func38 (by kernel_rfl) rfl #[.slice Ao23 t959.length co23] rfl ?_; (with_reducible refine (impl_NegateDivisor.calls k4 _ _ t959 t982 _ ?side1 ?side2 A48.out).mono ?_); (case side1 => exact Cz ((Kd.R_reads' HO_5.out).2.2)); (case side2 => exact (Kd.R_reads' HO_5.out).2.1); rintro e w53 ⟨v983, rfl, ho0, hb⟩; refine ⟨_, rfl, ?_⟩; replace HO_953001 := Aside0.mk (Kd.R_below (Rz HO_953001) hb); have HO984 := Aside0.mk (Kd.R_lower (Kd.R_new' (Kd.R_new' (Kd.R_new' (Kd.R_new' ho0 (Kd.R_lt (Rz HO_4))) (Kd.R_lt (Rz HO_5))) (Kd.R_lt (Rz HO_7))) (Kd.R_lt (Rz HO_9))) (below_size (by exact Lz1 HB GE952))); replace HO_4 := Aside0.mk (Kd.R_elder' (Rz HO_4) (Kd.R_base ho0) hb); replace HO_5 := Aside0.mk (Kd.R_elder' (Rz HO_5) (Kd.R_base ho0) hb); replace HO_7 := Aside0.mk (Kd.R_elder' (Rz HO_7) (Kd.R_base ho0) hb); replace HO_9 := Aside0.mk (Kd.R_elder' (Rz HO_9) (Kd.R_base ho0) hb); replace BK952 := Aside0.mk (blk_below (g := gb952) (o := .cells #[.int .i64 t948, .slice Ao15 t949.length co15] 31 (0, 0)) (Bz BK952) hb); replace HB := Aside0.mk (below_step (by exact Lz1 HB GE952) hb); (try clear hb); (try clear ho0); obtain ⟨Ao54, co54, eo54⟩ := Kd.R_slice HO984.out; subst eo54) | ((with_reducible refine gate_callee (f := 37) rfl ?_); refine goesM_ (some 125) rfl rfl Try.func37 (by kernel_rfl) rfl #[.slice Ao19 t953.length co19, .slice Ao54 t982.length co54] rfl ?_; (with_reducible refine (impl_AddDivisors.calls k4 _ _ t953 _ _ t982 t985 true _ ?side1 ?side2 ?side3 ?side4 A49.out).mono ?_); (case side1 => exact Cz ((Kd.R_reads' HO_4.out).2.2)); (case side2 => exact (Kd.R_reads' HO_4.out).2.1); (case side3 => exact Cz ((Kd.R_reads' HO984.out).2.2)); (case side4 => exact (Kd.R_reads' HO984.out).2.1); rintro e w55 ⟨v987, rfl, ho0, hb⟩; refine ⟨_, rfl, ?_⟩; replace HO_953001 := Aside0.mk (Kd.R_below (Rz HO_953001) hb); have HO988 := Aside0.mk (Kd.R_lower (Kd.R_new' (Kd.R_new' (Kd.R_new' (Kd.R_new' (Kd.R_new' ho0 (Kd.R_lt (Rz HO_4))) (Kd.R_lt (Rz HO_5))) (Kd.R_lt (Rz HO_7))) (Kd.R_lt (Rz HO_9))) (Kd.R_lt (Rz HO984))) (below_size (by exact Lz1 HB GE952))); replace HO_4 := Aside0.mk (Kd.R_elder' (Rz HO_4) (Kd.R_base ho0) hb); replace HO_5 := Aside0.mk (Kd.R_elder' (Rz HO_5) (Kd.R_base ho0) hb); replace HO_7 := Aside0.mk (Kd.R_elder' (Rz HO_7) (Kd.R_base ho0) hb); replace HO_9 := Aside0.mk (Kd.R_elder' (Rz HO_9) (Kd.R_base ho0) hb); replace HO984 := Aside0.mk (Kd.R_elder' (Rz HO984) (Kd.R_base ho0) hb); replace BK952 := Aside0.mk (blk_below (g := gb952) (o := .cells #[.int .i64 t948, .slice Ao15 t949.length co15] 31 (0, 0)) (Bz BK952) hb); replace HB := Aside0.mk (below_step (by exact Lz1 HB GE952) hb); (try clear hb); (try clear ho0); have hcz56_0 : w55.cell? ⟨gb952, 0, none⟩ = some (.int .i64 t948) := (blk_cell BK952.out 0).trans rfl; have hcz56_1 : w55.cell? ⟨gb952, 1, none⟩ = some (.slice Ao15 t949.length co15) := (blk_cell BK952.out 1).trans rfl; have hfz56_0 := blk_frozen BK952.out 0; have hfz56_1 := blk_frozen BK952.out 1; obtain ⟨Ao57, co57, eo57⟩ := Kd.R_slice HO988.out; subst eo57) | (go_at_call 39; (with_reducible refine (impl_IsPrincipal.calls k4 t948 _ _ t949 _ _ t985 t989 _ ?side1 ?side2 ?side3 ?side4 A52.out).mono ?_); (case side1 => exact Cz ((Kd.R_reads' HO_953001.out).2.2)); (case side2 => exact (Kd.R_reads' HO_953001.out).2.1); (case side3 => exact Cz ((Kd.R_reads' HO988.out).2.2)); (case side4 => exact (Kd.R_reads' HO988.out).2.1); rintro e w58 ⟨rfl, hb⟩; replace HO_4 := Aside0.mk (Kd.R_below (Rz HO_4) hb); replace HO_5 := Aside0.mk (Kd.R_below (Rz HO_5) hb); replace HO_7 := Aside0.mk (Kd.R_below (Rz HO_7) hb); replace HO_9 := Aside0.mk (Kd.R_below (Rz HO_9) hb); replace HO_953001 := Aside0.mk (Kd.R_below (Rz HO_953001) hb); replace HO984 := Aside0.mk (Kd.R_below (Rz HO984) hb); replace HO988 := Aside0.mk (Kd.R_below (Rz HO988) hb); replace BK952 := Aside0.mk (blk_below (g := gb952) (o := .cells #[.int .i64 t948, .slice Ao15 t949.length co15] 31 (0, 0)) (Bz BK952) hb); replace HB := Aside0.mk (below_step (by exact Lz1 HB GE952) hb); (try clear hb); (try clear hb2); (try clear hk); (try clear hi)))
             go_ret
             exact ⟨by first | rfl | (simp [errW_none, errW_some] <;> rfl) | (simp [*, errW_none, errW_some] <;> rfl), by exact Lz1 HB GE952⟩
            replace c51 := Bool.eq_false_iff.mpr c51
            subst c51
            have H1 : (some false) = some r := by rw [if_neg (show ¬ (false = true) by decide)] at H; exact H
            clear H
            have H := H1
            clear H1
            exact absurd (Option.some.inj H) (by rw [HR_.out]; decide)
           rw [if_neg c50] at H
           have c50b0 : (x13_4 == 0) = false := beq_eq_false_iff_ne.mpr c50
           have c50b1 : (x13_4 != 0) = true := bne_iff_ne.mpr c50
           exact absurd (Option.some.inj H) (by rw [HR_.out]; decide)
          case rest =>
           clear HC46
           try clear c3
           try clear c3b0
           try clear c3b1
           try clear c30
           try clear c31
           try clear c32
           try clear c33
           try clear c34
           try clear c34b0
           try clear c34b1
           try clear c35
           try clear c35b0
           try clear c35b1
           try clear c44
           try clear c45
           try clear c45b0
           try clear c45b1
           try clear c47
           try clear c47b0
           try clear c50
           try clear c50b0
           try clear c50b1
           try clear c51
           try clear p976
           try clear q976
           obtain ⟨kq, HA, HJ45, HO_4, HO_5, HO_7, HO_9, HO_953001, BK952, HB⟩ := hcut
           cases kq with
           | zero => exact absurd HA.out (by simp [laws_FnScripts.j4])
           | succ kj45 =>
            have H := HA.out
            clear HA
            simp only [laws_FnScripts.j4] at H
            by_cases c65 : 0 ≤ x94_4
            ·rw [if_pos c65] at H
             have c65b0 : decide (0 ≤ x94_4) = true := decide_eq_true c65
             clear c65
             by_cases c66 : x94_4 < (t963.length : Int)
             ·rw [if_pos c66] at H
              have c66b0 : decide (x94_4 < (t963.length : Int)) = true := decide_eq_true c66
              clear c66
              obtain ⟨ji67, hji67⟩ : ∃ j_ : Int, (mn x13_4 (rd t963 x94_4)) = j_ := ⟨_, rfl⟩
              replace H : (if x94_4 < (t967.length : Int) then (if 0 < (t963.length : Int) then (if 0 < (t967.length : Int) then (if (wrap64 ((rd t963 x94_4) + (rd t967 x94_4))) = (wrap64 ((rd t963 0) + (rd t967 0))) then (laws_FnScripts.l0 kj45 t953 t959 t963 t967 ji67 (t963.length : Int) (wrap64 (x94_4 + 1)) t948 t949) else (some false)) else (none)) else (none)) else (none)) = some r := by first | (rw [hji67] at H; exact H) | (simp only [hji67] at H ⊢; exact H)
              have hji67_ : (if (rd t963 x94_4) < x13_4 then (rd t963 x94_4) else x13_4) = ji67 := hji67
              by_cases c68 : x94_4 < (t967.length : Int)
              ·rw [if_pos c68] at H
               have c68b0 : decide (x94_4 < (t967.length : Int)) = true := decide_eq_true c68
               clear c68
               by_cases c69 : 0 < (t963.length : Int)
               ·rw [if_pos c69] at H
                have c69b0 : decide (0 < (t963.length : Int)) = true := decide_eq_true c69
                have c69b1 : decide (0 < t963.length) = true := decide_eq_true (by omega)
                clear c69
                by_cases c70 : 0 < (t967.length : Int)
                ·rw [if_pos c70] at H
                 have c70b0 : decide (0 < (t967.length : Int)) = true := decide_eq_true c70
                 have c70b1 : decide (0 < t967.length) = true := decide_eq_true (by omega)
                 clear c70
                 by_cases c71 : (wrap64 ((rd t963 x94_4) + (rd t967 x94_4))) = (wrap64 ((rd t963 0) + (rd t967 0)))
                 ·rw [if_pos c71] at H
                  have c71b0 : ((wrap64 ((rd t963 x94_4) + (rd t967 x94_4))) == (wrap64 ((rd t963 0) + (rd t967 0)))) = true := beq_iff_eq.mpr c71
                  have c71b1 : ((wrap64 ((rd t963 x94_4) + (rd t967 x94_4))) != (wrap64 ((rd t963 0) + (rd t967 0)))) = false := bne_eq_false_iff_eq.mpr c71
                  clear c71
                  have H' := Aside0.mk H
                  clear H
                  have p977 : 0 ≤ (x94_4 : Int) := ofA
                  have q977 : x94_4 < (t963.length : Int) := ofA
                  obtain ⟨ad977, e977, hx977_0⟩ := Kd.at_int (Kd.R_reads' HO_7.out).2.2 x94_4 p977 q977
                  obtain rfl : ad976 = ad977 := (by injection e977)
                  replace p977 := eq_true p977
                  replace q977 := eq_true q977
                  try go_wp2
                  replace HO_4 := Aside0.mk (Kd.R_drew HO_4.out)
                  replace HO_5 := Aside0.mk (Kd.R_drew HO_5.out)
                  replace HO_7 := Aside0.mk (Kd.R_drew HO_7.out)
                  replace HO_9 := Aside0.mk (Kd.R_drew HO_9.out)
                  replace HO_953001 := Aside0.mk (Kd.R_drew HO_953001.out)
                  replace BK952 := Aside0.mk (blk_drew BK952.out)
                  replace HB := Aside0.mk (below_drew1 HB.out)
                  have p978 : 0 ≤ (x94_4 : Int) := ofA
                  have q978 : x94_4 < (t963.length : Int) := ofA
                  obtain ⟨ad978, e978, hx978_0⟩ := Kd.at_int (Kd.R_reads' HO_7.out).2.2 x94_4 p978 q978
                  obtain rfl : ad976 = ad978 := (by injection e978)
                  replace p978 := eq_true p978
                  replace q978 := eq_true q978
                  obtain ⟨Ao73, co73, eo73⟩ := Kd.R_slice HO_9.out
                  (first | subst eo73 | (injection eo73 with f1_ f2_ f3_; have f4_ := f1_.symm; have f5_ := f3_.symm; clear f1_ f2_ f3_; subst f4_; subst f5_))
                  have p979 : 0 ≤ (x94_4 : Int) := ofA
                  have q979 : x94_4 < (t967.length : Int) := ofA
                  obtain ⟨ad979, e979, hx979_0⟩ := Kd.at_int (Kd.R_reads' HO_9.out).2.2 x94_4 p979 q979
                  cases e979
                  replace p979 := eq_true p979
                  replace q979 := eq_true q979
                  have p980 : 0 ≤ (0 : Int) := (by omega)
                  have q980 : 0 < (t963.length : Int) := ofA
                  obtain ⟨ad980, e980, hx980_0⟩ := Kd.at_int (Kd.R_reads' HO_7.out).2.2 0 p980 q980
                  obtain rfl : ad976 = ad980 := (by injection e980)
                  have qi980 : (0 < t963.length) = True := eq_true (by omega)
                  (try rw [show ((0 : Int)).toNat = 0 from rfl] at hx980_0)
                  (try rw [Addr.add_zero'] at hx980_0)
                  replace p980 := eq_true p980
                  replace q980 := eq_true q980
                  have p981 : 0 ≤ (0 : Int) := (by omega)
                  have q981 : 0 < (t967.length : Int) := ofA
                  obtain ⟨ad981, e981, hx981_0⟩ := Kd.at_int (Kd.R_reads' HO_9.out).2.2 0 p981 q981
                  obtain rfl : ad979 = ad981 := (by injection e981)
                  have qi981 : (0 < t967.length) = True := eq_true (by omega)
                  (try rw [show ((0 : Int)).toNat = 0 from rfl] at hx981_0)
                  (try rw [Addr.add_zero'] at hx981_0)
                  replace p981 := eq_true p981
                  replace q981 := eq_true q981
                  refine start_ (n := 17) (S := fun w' => w'.cell? (ad976.add (x94_4).toNat) = some (.int .i64 (rd t963 x94_4)) ∧ w'.cell? (ad979.add (x94_4).toNat) = some (.int .i64 (rd t967 x94_4)) ∧ w'.cell? ad976 = some (.int .i64 (rd t963 0)) ∧ w'.cell? ad979 = some (.int .i64 (rd t967 0))) (ds := []) #[false, false, false, false, false, false, false, false, false, false, false, false, false, false, false, false, false] (by kernel_rfl) rfl rfl ⟨hx978_0, hx979_0, hx980_0, hx981_0⟩ (fun hHeld => ?_); refine with_tabW laws_FnScripts.tab16 laws_FnScripts.bits16 (fun HT_ HW_ => ?_)
                  generalize wc.drew = w72 at HO_4 HO_5 HO_7 HO_9 HO_953001 BK952 HB hx978_0 hx979_0 hx980_0 hx981_0 hHeld ⊢
                  refine pureT_ 0 103 HT_ ?_
                  refine pureT_ 1 104 HT_ ?_
                  refine pureT_ 2 105 HT_ ?_
                  refine pureT_ 4 107 HT_ ?_
                  refine pureT_ 5 108 HT_ ?_
                  refine pureT_ 6 109 HT_ ?_
                  refine pureT_ 9 112 HT_ ?_
                  refine pureT_ 10 113 HT_ ?_
                  refine pureT_ 12 115 HT_ ?_
                  refine pureT_ 13 116 HT_ ?_
                  refine takeT_ 3 106 HT_ HW_ hHeld rfl (by rintro w' ⟨s0, s1, s2, s3⟩; go_simp; with_reducible rfl) ?_
                  refine takeT_ 7 110 HT_ HW_ hHeld rfl (by rintro w' ⟨s0, s1, s2, s3⟩; go_simp; with_reducible rfl) ?_
                  refine pureT_ 8 111 HT_ ?_
                  refine takeT_ 11 114 HT_ HW_ hHeld rfl (by rintro w' ⟨s0, s1, s2, s3⟩; go_simp; with_reducible rfl) ?_
                  refine takeT_ 14 117 HT_ HW_ hHeld rfl (by rintro w' ⟨s0, s1, s2, s3⟩; go_simp; with_reducible rfl) ?_
                  refine pureT_ 15 118 HT_ ?_
                  refine pureT_ 16 119 HT_ ?_
                  refine done_ (done_of HT_.out (by kernel_rfl)) ?_
                  try go_wp2
                  go_roundg kj45
                  case measure => have := HJ1.out; have := HJ10.out; have := HJ42.out; have := HK4.out; have := HJ45.out; omega
                  case rel => exact ⟨(ji67), (wrap64 (x94_4 + 1)), (by first | rfl | (simp; done) | (simp only [← hji67] <;> (first | rfl | simp)) | (simp [*]; done)), eqA, H', ⟨by have := HJ1.out; have := HJ10.out; have := HJ42.out; have := HK4.out; have := HJ45.out; omega⟩, ⟨by exact Rz HO_4⟩, ⟨by exact Rz HO_5⟩, ⟨by exact Rz HO_7⟩, ⟨by exact Rz HO_9⟩, ⟨by exact Rz HO_953001⟩, ⟨by exact Bz BK952⟩, ⟨by exact Lz1 HB GE952⟩⟩
                 rw [if_neg c71] at H
                 have c71b0 : ((wrap64 ((rd t963 x94_4) + (rd t967 x94_4))) == (wrap64 ((rd t963 0) + (rd t967 0)))) = false := beq_eq_false_iff_ne.mpr c71
                 have c71b1 : ((wrap64 ((rd t963 x94_4) + (rd t967 x94_4))) != (wrap64 ((rd t963 0) + (rd t967 0)))) = true := bne_iff_ne.mpr c71
                 obtain rfl := Option.some.inj H
                 have p977 : 0 ≤ (x94_4 : Int) := ofA
                 have q977 : x94_4 < (t963.length : Int) := ofA
                 obtain ⟨ad977, e977, hx977_0⟩ := Kd.at_int (Kd.R_reads' HO_7.out).2.2 x94_4 p977 q977
                 obtain rfl : ad976 = ad977 := (by injection e977)
                 replace p977 := eq_true p977
                 replace q977 := eq_true q977
                 try go_wp2
                 replace HO_4 := Aside0.mk (Kd.R_drew HO_4.out)
                 replace HO_5 := Aside0.mk (Kd.R_drew HO_5.out)
                 replace HO_7 := Aside0.mk (Kd.R_drew HO_7.out)
                 replace HO_9 := Aside0.mk (Kd.R_drew HO_9.out)
                 replace HO_953001 := Aside0.mk (Kd.R_drew HO_953001.out)
                 replace BK952 := Aside0.mk (blk_drew BK952.out)
                 replace HB := Aside0.mk (below_drew1 HB.out)
                 have p978 : 0 ≤ (x94_4 : Int) := ofA
                 have q978 : x94_4 < (t963.length : Int) := ofA
                 obtain ⟨ad978, e978, hx978_0⟩ := Kd.at_int (Kd.R_reads' HO_7.out).2.2 x94_4 p978 q978
                 obtain rfl : ad976 = ad978 := (by injection e978)
                 replace p978 := eq_true p978
                 replace q978 := eq_true q978
                 obtain ⟨Ao75, co75, eo75⟩ := Kd.R_slice HO_9.out
                 (first | subst eo75 | (injection eo75 with f1_ f2_ f3_; have f4_ := f1_.symm; have f5_ := f3_.symm; clear f1_ f2_ f3_; subst f4_; subst f5_))
                 have p979 : 0 ≤ (x94_4 : Int) := ofA
                 have q979 : x94_4 < (t967.length : Int) := ofA
                 obtain ⟨ad979, e979, hx979_0⟩ := Kd.at_int (Kd.R_reads' HO_9.out).2.2 x94_4 p979 q979
                 cases e979
                 replace p979 := eq_true p979
                 replace q979 := eq_true q979
                 have p980 : 0 ≤ (0 : Int) := (by omega)
                 have q980 : 0 < (t963.length : Int) := ofA
                 obtain ⟨ad980, e980, hx980_0⟩ := Kd.at_int (Kd.R_reads' HO_7.out).2.2 0 p980 q980
                 obtain rfl : ad976 = ad980 := (by injection e980)
                 have qi980 : (0 < t963.length) = True := eq_true (by omega)
                 (try rw [show ((0 : Int)).toNat = 0 from rfl] at hx980_0)
                 (try rw [Addr.add_zero'] at hx980_0)
                 replace p980 := eq_true p980
                 replace q980 := eq_true q980
                 have p981 : 0 ≤ (0 : Int) := (by omega)
                 have q981 : 0 < (t967.length : Int) := ofA
                 obtain ⟨ad981, e981, hx981_0⟩ := Kd.at_int (Kd.R_reads' HO_9.out).2.2 0 p981 q981
                 obtain rfl : ad979 = ad981 := (by injection e981)
                 have qi981 : (0 < t967.length) = True := eq_true (by omega)
                 (try rw [show ((0 : Int)).toNat = 0 from rfl] at hx981_0)
                 (try rw [Addr.add_zero'] at hx981_0)
                 replace p981 := eq_true p981
                 replace q981 := eq_true q981
                 refine start_ (n := 17) (S := fun w' => w'.cell? (ad976.add (x94_4).toNat) = some (.int .i64 (rd t963 x94_4)) ∧ w'.cell? (ad979.add (x94_4).toNat) = some (.int .i64 (rd t967 x94_4)) ∧ w'.cell? ad976 = some (.int .i64 (rd t963 0)) ∧ w'.cell? ad979 = some (.int .i64 (rd t967 0))) (ds := []) #[false, false, false, false, false, false, false, false, false, false, false, false, false, false, false, false, false] (by kernel_rfl) rfl rfl ⟨hx978_0, hx979_0, hx980_0, hx981_0⟩ (fun hHeld => ?_); refine with_tabW laws_FnScripts.tab16 laws_FnScripts.bits16 (fun HT_ HW_ => ?_)
                 generalize wc.drew = w74 at HO_4 HO_5 HO_7 HO_9 HO_953001 BK952 HB hx978_0 hx979_0 hx980_0 hx981_0 hHeld ⊢
                 refine pureT_ 0 103 HT_ ?_
                 refine pureT_ 1 104 HT_ ?_
                 refine pureT_ 2 105 HT_ ?_
                 refine pureT_ 4 107 HT_ ?_
                 refine pureT_ 5 108 HT_ ?_
                 refine pureT_ 6 109 HT_ ?_
                 refine pureT_ 9 112 HT_ ?_
                 refine pureT_ 10 113 HT_ ?_
                 refine pureT_ 12 115 HT_ ?_
                 refine pureT_ 13 116 HT_ ?_
                 refine takeT_ 3 106 HT_ HW_ hHeld rfl (by rintro w' ⟨s0, s1, s2, s3⟩; go_simp; with_reducible rfl) ?_
                 refine takeT_ 7 110 HT_ HW_ hHeld rfl (by rintro w' ⟨s0, s1, s2, s3⟩; go_simp; with_reducible rfl) ?_
                 refine pureT_ 8 111 HT_ ?_
                 refine takeT_ 11 114 HT_ HW_ hHeld rfl (by rintro w' ⟨s0, s1, s2, s3⟩; go_simp; with_reducible rfl) ?_
                 refine takeT_ 14 117 HT_ HW_ hHeld rfl (by rintro w' ⟨s0, s1, s2, s3⟩; go_simp; with_reducible rfl) ?_
                 refine pureT_ 15 118 HT_ ?_
                 refine pureT_ 16 119 HT_ ?_
                 refine done_ (done_of HT_.out (by kernel_rfl)) ?_
                 try go_wp2
                 go_ret
                 exact ⟨by first | rfl | (simp [errW_none, errW_some] <;> rfl) | (simp only [← hji67]; first | rfl | (simp [errW_none, errW_some] <;> rfl)) | (simp [*, errW_none, errW_some] <;> rfl), by exact Lz1 HB GE952⟩
                rw [if_neg c70] at H
                exact absurd H (by simp)
               rw [if_neg c69] at H
               exact absurd H (by simp)
              rw [if_neg c68] at H
              exact absurd H (by simp)
             rw [if_neg c66] at H
             exact absurd H (by simp)
            rw [if_neg c65] at H
            exact absurd H (by simp)
       rw [if_neg c45] at H
       exact absurd H (by simp)
def laws_FnScripts.Pure : Prop := ∀ (l0 : List Int), l0.length ≤ maxLen → l0.length * 1 ≤ 140737488351232 → (∀ x ∈ l0, (Lit.int .u8 x).wf = true) → ∃ k, laws_FnScripts.f k l0 = some true
end Go.Proofs.Ytbcfccdoffbncaa.P
end
section
namespace Go.Proofs.Ytbcfccdoffbncaa.Pure
open Go.RowKit Go.Proofs.Ytbcfccdoffbncaa.P Go.Proofs.YtbcfccdoffbncaaW.PrintWords Go.Proofs.YtbcfccdoffbncaaW.PrintLast Go.Proofs.YtbcfccdoffbncaaW.PrintMore
def StatFnScripts : Prop := ∀ (l0 : List (Int)), (l0.length ≤ maxLen ∧ ∀ x2 ∈ l0, (Lit.int .u8 x2).wf = true) → ∃ k, laws_FnScripts.f k l0 = some true
end Go.Proofs.Ytbcfccdoffbncaa.Pure
end
section
set_option linter.unusedVariables false
set_option linter.unusedSimpArgs false
namespace Go.Proofs.Ytbcfccdoffbncaa.Pure
open Go.RowKit Go.Proofs.Ytbcfccdoffbncaa.P Go.Proofs.YtbcfccdoffbncaaW.PrintWords Go.Proofs.YtbcfccdoffbncaaW.PrintLast Go.Proofs.YtbcfccdoffbncaaW.PrintMore Go.Proofs.Ytbcfccdoffbncaa.Base Go.Proofs.Ytbcfccdoffbncaa.Loops
theorem rd_IE {l : List S67} {i : Nat} {a : S67} {r : List S67} (h : l.drop i = a :: r) : rd_T67 l (i : Int) = a := by
  unfold rd_T67
  rw [Int.toNat_natCast]
  exact get_drop h _
def multN (es : List S67) (a b : Int) : Nat := es.countP fun e => decide (e.f0 = mn a b) && decide (e.f1 = mx a b)
def multI (n : Int) (es : List S67) (a b : Int) : Int := if 0 ≤ a ∧ a < n ∧ 0 ≤ b ∧ b < n ∧ a ≠ b then (multN es a b : Int) else 0
theorem mult_loop (es : List S67) (hl : es.length < 4611686018427387904) (a b : Int) (g : Nat → Int → Int → Option Int)
    (hg : ∀ k c i, g (k + 1) c i = if i < (es.length : Int) then (if 0 ≤ i then (if i < (es.length : Int) then (if ((rd_T67 es i).f0) = (mn a b) then (if ((rd_T67 es i).f1) = (mx a b) then (g k (wrap64 (c + 1)) (wrap64 (i + 1))) else (g k c (wrap64 (i + 1)))) else (g k c (wrap64 (i + 1)))) else (none)) else (none)) else (some c)) :
    Ev (fun k => g k 0 0) (multN es a b : Int) := by
  have h := ev_list es (fun k (c : Int) i => g k c i) (fun c r => c + (r.countP fun e => decide (e.f0 = mn a b) && decide (e.f1 = mx a b) : Nat)) (fun c r => 0 ≤ c ∧ c + r.length ≤ es.length) (fun s _ => ev1 fun k => ?_) (fun s e rest i hlt hd hinv => Or.inr ?_) es 0 0 (by omega) rfl (by simp)
  · simpa [multN] using h
  · rw [hg, if_neg (by omega)]; simp
  · simp only [List.length_cons] at hinv
    by_cases hc : e.f0 = mn a b ∧ e.f1 = mx a b
    · refine ⟨s + 1, by omega, ?_, 0, fun k _ => ?_⟩
      · rw [List.countP_cons_of_pos (by simp [hc])]; omega
      · rw [hg, if_pos (by omega), if_pos (by omega), if_pos (by omega), rd_IE hd, if_pos hc.1, if_pos hc.2, wrap_succ (by omega), wrap_id (by omega) (by omega)]
    · refine ⟨s, by omega, ?_, 0, fun k _ => ?_⟩
      · rw [List.countP_cons_of_neg (by simp; intro h1 h2; exact hc ⟨h1, h2⟩)]
      · rw [hg, if_pos (by omega), if_pos (by omega), if_pos (by omega), rd_IE hd, wrap_succ (by omega)]
        by_cases h1 : e.f0 = mn a b
        · rw [if_pos h1, if_neg (fun h2 => hc ⟨h1, h2⟩)]
        · rw [if_neg h1]
theorem spec_mult_ev (n : Int) (es : List S67) (hl : es.length < 4611686018427387904) (a b : Int) : Ev (fun k => spec_Multiplicity.f k n es a b) (multI n es a b) := by
  have hv : ∀ v, spec_l02Vert.f n es v = some (decide (0 ≤ v ∧ v < n)) := by
    intro v
    unfold spec_l02Vert.f
    by_cases h : v ≥ 0
    · rw [if_pos h]; simp; omega
    · rw [if_neg h]; simp; omega
  simp only [spec_Multiplicity.f, hv, Option.bind_some]
  have off : ∀ q : Bool, q = true → Ev (fun k => spec_Multiplicity.j0 k a b 0 q n es) 0 := fun q hq => ev1 fun k => by
    simp only [spec_Multiplicity.j0, hq, if_true]
  by_cases ha : 0 ≤ a ∧ a < n
  · by_cases hb : 0 ≤ b ∧ b < n
    · simp only [ha, hb, and_self, decide_true, if_true]
      by_cases hab : a = b
      · rw [multI, if_neg (by omega)]
        exact off _ (by simp [hab])
      · rw [multI, if_pos ⟨ha.1, ha.2, hb.1, hb.2, hab⟩]
        obtain ⟨K, hK⟩ := mult_loop es hl a b (fun k c i => spec_Multiplicity.l0 k a b c es (es.length : Int) i) (fun k c i => by simp only [spec_Multiplicity.l0])
        refine ⟨K + 1, fun k hk => ?_⟩
        obtain ⟨m, rfl⟩ : ∃ m, k = m + 1 := ⟨k - 1, by omega⟩
        have h2 := hK m (by omega)
        dsimp only at h2 ⊢
        simp only [spec_Multiplicity.j0]
        rw [if_neg (by simp [hab]), h2]
    · simp only [ha, and_self, decide_true, if_true, decide_eq_true_eq, if_neg hb]
      rw [multI, if_neg (by omega)]
      exact off _ rfl
  · simp only [decide_eq_true_eq, if_neg ha]
    rw [multI, if_neg (by omega)]
    exact off _ rfl
theorem impl_mult_ev (n : Int) (es : List S67) (hl : es.length < 4611686018427387904) (a b : Int) : Ev (fun k => impl_Multiplicity.f k n es a b) (multI n es a b) := by
  simp only [impl_Multiplicity.f]
  have off : ∀ q : Bool, q = true → Ev (fun k => impl_Multiplicity.j0 k a b q n es) 0 := fun q hq => ev1 fun k => by
    simp only [impl_Multiplicity.j0, hq, if_true]
  have e1 : mn a b < 0 ↔ (a < 0 ∨ b < 0) := by unfold mn; split <;> omega
  have e2 : mx a b ≥ n ↔ (a ≥ n ∨ b ≥ n) := by unfold mx; split <;> omega
  by_cases h1 : mn a b < 0
  · simp only [if_pos h1]
    rw [multI, if_neg (by omega)]
    exact off _ rfl
  · by_cases h2 : mx a b ≥ n
    · simp only [if_neg h1, if_pos h2]
      rw [multI, if_neg (by omega)]
      exact off _ rfl
    · simp only [if_neg h1, if_neg h2]
      by_cases hab : a = b
      · rw [multI, if_neg (by omega)]
        exact off _ (by simp [hab])
      · rw [multI, if_pos (by omega)]
        obtain ⟨K, hK⟩ := mult_loop es hl a b (fun k c i => impl_Multiplicity.l0 k a b c es (es.length : Int) i) (fun k c i => by simp only [impl_Multiplicity.l0])
        refine ⟨K + 1, fun k hk => ?_⟩
        obtain ⟨m, rfl⟩ : ∃ m, k = m + 1 := ⟨k - 1, by omega⟩
        have h2 := hK m (by omega)
        dsimp only at h2 ⊢
        simp only [impl_Multiplicity.j0]
        rw [if_neg (by simp [hab]), h2]
end Go.Proofs.Ytbcfccdoffbncaa.Pure
end
section
namespace Go.Proofs.Ytbcfccdoffbncaa.P
open Go.RowKit Go.Proofs.YtbcfccdoffbncaaW.PrintWords Go.Proofs.YtbcfccdoffbncaaW.PrintLast Go.Proofs.YtbcfccdoffbncaaW.PrintMore
attribute [local go_sem] max2_int min2_int max_two min_two max_three min_three max_four min_four
set_option linter.unusedVariables false
set_option linter.unusedSimpArgs false
def spec_l04Fire.l0 : Nat → List Int → List Int → List (S67) → Int → Int → Option (List Int)
 | 0, _, _, _, _, _ => none
 | k + 1, x2, x7, x14, x15, x16 => if x16 < x15 then (if 0 ≤ x16 then (if x16 < (x14.length : Int) then (if 0 ≤ ((rd_T67 x14 x16).f0) then (if ((rd_T67 x14 x16).f0) < (x7.length : Int) then (if ((rd_T67 x14 x16).f0) < (x2.length : Int) then (if 0 ≤ ((rd_T67 x14 x16).f1) then (if ((rd_T67 x14 x16).f1) < (x2.length : Int) then ((some (x7.set (((rd_T67 x14 x16).f0) : Int).toNat (wrap64 ((wrap64 ((rd x7 ((rd_T67 x14 x16).f0)) - (rd x2 ((rd_T67 x14 x16).f0)))) + (rd x2 ((rd_T67 x14 x16).f1)))) : List Int)).bind fun y116 => (if ((rd_T67 x14 x16).f1) < (x7.length : Int) then (spec_l04Fire.l0 k x2 (y116.set (((rd_T67 x14 x16).f1) : Int).toNat (wrap64 ((wrap64 ((rd y116 ((rd_T67 x14 x16).f1)) - (rd x2 ((rd_T67 x14 x16).f1)))) + (rd x2 ((rd_T67 x14 x16).f0))))) x14 x15 (wrap64 (x16 + 1))) else (none))) else (none)) else (none)) else (none)) else (none)) else (none)) else (none)) else (none)) else (some x7)
def spec_l04Fire.f (k : Nat) (a0_0 : Int) (l0_1 : List (S67)) (l1 : List Int) (l2 : List Int) : Option (List Int) := (some (([] : List Int) : List Int)).bind fun y105 => (if y105.length + l1.length < 17592186044416 then (spec_l04Fire.l0 k l2 (y105 ++ l1) l0_1 (l0_1.length : Int) 0) else (none))
mutual
def spec_DivisorOk.j0 : Nat → List Int → Bool → Option (Bool)
 | 0, _, _ => none
 | k + 1, x1, x16 => if x16 = true then (some false) else (spec_DivisorOk.l0 k x1 (x1.length : Int) 0)
def spec_DivisorOk.l0 : Nat → List Int → Int → Int → Option (Bool)
 | 0, _, _, _ => none
 | k + 1, x17, x18, x19 => if x19 < x18 then (if 0 ≤ x19 then (if x19 < (x17.length : Int) then ((spec_l01In.f (rd x17 x19) (-60) 60).bind fun t205 => (if t205 = true then (spec_DivisorOk.l0 k x17 x18 (wrap64 (x19 + 1))) else (some false))) else (none)) else (none)) else (some true)
end
def spec_DivisorOk.f (k : Nat) (a0_0 : Int) (l0_1 : List (S67)) (l1 : List Int) : Option (Bool) := (spec_GraphOk.f k a0_0 l0_1).bind fun t203 => (if t203 = true then (spec_DivisorOk.j0 k l1 ((l1.length : Int) != a0_0)) else (spec_DivisorOk.j0 k l1 true))
end Go.Proofs.Ytbcfccdoffbncaa.P
end
