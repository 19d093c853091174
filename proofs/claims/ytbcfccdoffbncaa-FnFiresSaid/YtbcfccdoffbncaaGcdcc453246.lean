/- Functions of the program as plain Lean functions and that the machine's calls answer as they do, the words of the print that these use, lemmas and plain proofs of laws. Put together by a program of this work that leaves out what nothing uses; Lean checks it. -/
import Derived.Test.YtbcfccdoffbncaaG761cdaac89
import Derived.Test.YtbcfccdoffbncaaG69d53c0c60
import Derived.Test.YtbcfccdoffbncaaGb2c191ce24
section
namespace Go.Proofs.Ytbcfccdoffbncaa.P
open Go.RowKit Go.Proofs.YtbcfccdoffbncaaW.PrintWords Go.Proofs.YtbcfccdoffbncaaW.PrintLast Go.Proofs.YtbcfccdoffbncaaW.PrintMore
attribute [local go_sem] max2_int min2_int max_two min_two max_three min_three max_four min_four
set_option linter.unusedVariables false
set_option linter.unusedSimpArgs false
def spec_MakeGraph.f (k : Nat) (l0 : List Int) : Option (Int × (List (S67))) := (spec_l01New.f k l0).bind fun bt710 => ((spec_l02Graph.f k bt710.1 bt710.2.1 bt710.2.2).bind fun bt714 => (some (bt714.1, bt714.2.1)))
set_option maxHeartbeats 8000000 in
set_option maxRecDepth 100000 in
theorem spec_MakeGraph.calls (k : Nat) (A0 : Option Addr) (c0 : Nat) (l0 : List Int) (r1 : Int) (r2 : List (S67)) (w : World) (hr0 : Kd.C (Kd.int .u8) w A0 l0.length l0) (hc0 : l0.length ≤ c0) (h : spec_MakeGraph.f k l0 = some (r1, r2)) :
  Calls Try.prog 22 #[.slice A0 l0.length c0] w fun e w' => ∃ v1_ : Value, e = .returned (.agg #[.int .i64 r1, v1_]) ∧ Kd.R k67 67 w' w.heap.size (fun _ => True) v1_ r2 ∧ Below w.heap.size w w' := by
 have hu31 := Try.underlying31
 have HR0 := Aside0.mk hr0
 have HC0 := Aside0.mk hc0
 clear hr0 hc0
 have HB := Aside0.mk (Below.refl w.heap.size w)
 have H : ((spec_l01New.f k l0).bind fun bt710 => ((spec_l02Graph.f k bt710.1 bt710.2.1 bt710.2.2).bind fun bt714 => (some (bt714.1, bt714.2.1)))) = some (r1, r2) := h
 clear h
 replace H := Option.bind_eq_some_iff.mp H
 obtain ⟨⟨t710, t711, t712⟩, A20, H⟩ := H
 replace H : ((spec_l02Graph.f k t710 t711 t712).bind fun bt714 => (some (bt714.1, bt714.2.1))) = some (r1, r2) := H
 have A2 := Aside0.mk A20
 clear A20
 replace H := Option.bind_eq_some_iff.mp H
 obtain ⟨⟨t714, t715, t718, t719⟩, A30, H⟩ := H
 replace H : (some (t714, t715)) = some (r1, r2) := H
 have A3 := Aside0.mk A30
 clear A30
 simp only [Option.some.injEq, Prod.mk.injEq] at H
 obtain ⟨rfl, rfl⟩ := H
 go_enter Try.func22, Try.ntmps22
 go_wp2_with (first | ((with_reducible refine gate_dst (N := 2) rfl ?_); refine box_event ?hg (N := 2) ?hd (cs := #[.int .i64 0, .slice none 0 0]) (t := 31) ?hr ?_; (case hd => rfl); (case hg => rfl); (case hr => first | (go_simp; done) | (go_simp; rfl)); intro gb709 hg w4 hbox hb; have BK709 := Aside0.mk (hbox); have GW709 := Aside0.mk ((by rw [hg]; exact (below_size (Lz HB)) : w.heap.size ≤ gb709)); have GE709 := Aside0.mk ((by rw [hg]; exact (below_size (Lz HB)) : w.heap.size ≤ gb709)); replace HB := Aside0.mk (below_step (Lz HB) hb); clear hb hbox hg) | ((with_reducible refine gate_callee (f := 67) rfl ?_); refine goesM_ (some 4) rfl rfl Try.func67 (by kernel_rfl) rfl #[.slice A0 l0.length c0] rfl ?_; (with_reducible refine (spec_l01New.calls k _ _ l0 t710 t711 t712 w _ ?side1 ?side2 ?side3 A2.out).mono ?_); (case side1 => exact Lz1 HB GE709); (case side2 => exact HR0.out); (case side3 => exact HC0.out); rintro e w5 ⟨g713, rfl, hi, hb, hb2⟩; refine ⟨_, rfl, ?_⟩; replace HB := Aside0.mk (hb); have HI713 := Aside0.mk (hi); have NB713_709 := Aside0.mk (IsS101.ne_blk hi (blk_below (g := gb709) (o := .cells #[.int .i64 0, .slice none 0 0] 31 (0, 0)) (Bz BK709) hb2) (by decide)); have NB709_713 := Aside0.mk (Ne.symm (IsS101.ne_blk hi (blk_below (g := gb709) (o := .cells #[.int .i64 0, .slice none 0 0] 31 (0, 0)) (Bz BK709) hb2) (by decide))); replace BK709 := Aside0.mk (blk_below (g := gb709) (o := .cells #[.int .i64 0, .slice none 0 0] 31 (0, 0)) (Bz BK709) hb2); (try clear hb); (try clear hb2); (try clear hk); (try clear hi)) | ((with_reducible refine gate_callee (f := 66) rfl ?_); refine goesM_ (some 5) rfl rfl Try.func66 (by kernel_rfl) rfl #[.pointer (some ⟨g713, 0, none⟩)] rfl ?_; (with_reducible refine (spec_l02Graph.calls k g713 t710 t711 t712 t714 t715 t718 t719 w _ ?side1 ?side2 A3.out).mono ?_); (case side1 => repeat (first | (with_reducible first | exact HI713.out | apply IsS101.alloc | apply IsS101.drewN | apply IsS101.drew | apply IsS101.set_1 | apply IsS101.set_2 | refine IsS101.far ?_ NB713_709.out _) | exact HI713.out)); (case side2 => repeat (first | (with_reducible first | exact HB.out | apply below_alloc | apply pw_below_drewN | apply below_drew1 | refine below_set ?_ (IsS101.ge HI713.out) | refine below_set ?_ GE709.out) | exact HB.out)); rintro e w6 ⟨v716, rfl, ho0, hi, hb, hk⟩; refine ⟨_, rfl, ?_⟩; replace BK709 := Aside0.mk (KeepBut.blk hk (g' := gb709) (o := .cells #[.int .i64 0, .slice none 0 0] 31 (0, 0)) (Bz BK709) NB709_713.out (by simp)); have HO717 := Aside0.mk (Kd.R_lower ho0 (below_size (by repeat (first | (with_reducible first | exact HB.out | apply below_alloc | apply pw_below_drewN | apply below_drew1 | refine below_set ?_ (IsS101.ge HI713.out) | refine below_set ?_ GE709.out) | exact HB.out)))); replace HB := Aside0.mk (hb); replace HI713 := Aside0.mk (hi); (try clear hb); (try clear ho0); have hnb7 := NB709_713.out; have hnc7 := NB713_709.out; have hcz8_0 : w6.cell? ⟨gb709, 0, none⟩ = some (.int .i64 0) := (blk_cell BK709.out 0).trans rfl; have hcz8_1 : w6.cell? ⟨gb709, 1, none⟩ = some (.slice none 0 0) := (blk_cell BK709.out 1).trans rfl; have hfz8_0 := blk_frozen BK709.out 0; have hfz8_1 := blk_frozen BK709.out 1; obtain ⟨Ao9, co9, eo9⟩ := Kd.R_slice HO717.out; subst eo9))
 refine bodyPost_ret (results_cell_row rfl _ _ gb709 31 #[.int .i64 t714, .slice Ao9 t715.length co9] (0, 0) _ rfl (by (with_reducible repeat (first | refine blk_drewN ?_ _ | refine blk_drew ?_ | refine blk_alloc ?_ _)); refine blk_put (cs := #[.int .i64 t714, .slice none 0 0]) ?_ 1 _ rfl; (with_reducible repeat (first | refine blk_drewN ?_ _ | refine blk_drew ?_ | refine blk_alloc ?_ _)); refine blk_put (cs := #[.int .i64 0, .slice none 0 0]) ?_ 0 _ rfl; exact Bz BK709) Try.underlying31 rfl (by kernel_rfl)) rfl ?_
 exact ⟨_, by first | rfl | (simp [errW_none, errW_some] <;> rfl) | (simp [*, errW_none, errW_some] <;> rfl), by (with_reducible repeat (first | apply Kd.R_alloc | apply Kd.R_drewN | apply Kd.R_drew)); exact Kd.R_mono (Kd.R_far (p := ⟨gb709, 1, none⟩) (Kd.R_far (p := ⟨gb709, 0, none⟩) (Kd.R_types HO717.out BK709.out (by decide)) (fun _ hk => hk.2) (.int .i64 t714)) (fun _ hk => hk.2) (.slice Ao9 t715.length co9)) (fun _ hk => trivial), by repeat (first | (with_reducible first | exact HB.out | apply below_alloc | apply pw_below_drewN | apply below_drew1 | refine below_set ?_ (IsS101.ge HI713.out) | refine below_set ?_ GE709.out) | exact HB.out)⟩
def spec_l01Pick.f (s0_0 : List Int) (s0_1 : Int) (s0_2 : Int) (l1 : List Int) : Option (Int × Int × Int) := (spec_l01Below.f s0_0 s0_1 s0_2 (l1.length : Int)).bind fun bt720 => (if 0 ≤ bt720.1 then (if bt720.1 < (l1.length : Int) then (some (rd l1 bt720.1, bt720.2.1, bt720.2.2)) else (none)) else (none))
set_option maxHeartbeats 8000000 in
set_option maxRecDepth 100000 in
theorem spec_l01Pick.calls (g : Nat) (s0_0 : List Int) (s0_1 : Int) (s0_2 : Int) (A1 : Option Addr) (c1 : Nat) (l1 : List Int) (r1 : Int) (r2 : Int) (r3 : Int) (w0 w : World) (hI : IsS101 w0 w g s0_0 s0_1 s0_2) (hB : Below w0.heap.size w0 w) (hr1 : Kd.C (Kd.int .i64) w A1 l1.length l1) (hc1 : l1.length ≤ c1) (hf1 : ∀ ad, A1 = some ad → 0 < l1.length → ad.block ≠ g) (h : spec_l01Pick.f s0_0 s0_1 s0_2 l1 = some (r1, r2, r3)) :
  Calls Try.prog 108 #[.pointer (some ⟨g, 0, none⟩), .slice A1 l1.length c1] w fun e w' => e = .returned (.int .i64 r1) ∧ IsS101 w0 w' g s0_0 r2 r3 ∧ Below w0.heap.size w0 w' ∧ KeepBut w w' g none := by
 have HR1 := Aside0.mk hr1
 have HC1 := Aside0.mk hc1
 clear hr1 hc1
 have HI0 := Aside0.mk hI
 have HK := Aside0.mk (KeepBut.refl w g none)
 have HL := Aside0.mk hB.size
 clear hI
 have HW0 := Aside0.mk hB.size
 have HB := Aside0.mk hB
 clear hB
 have H : ((spec_l01Below.f s0_0 s0_1 s0_2 (l1.length : Int)).bind fun bt720 => (if 0 ≤ bt720.1 then (if bt720.1 < (l1.length : Int) then (some (rd l1 bt720.1, bt720.2.1, bt720.2.2)) else (none)) else (none))) = some (r1, r2, r3) := h
 clear h
 replace H := Option.bind_eq_some_iff.mp H
 obtain ⟨⟨t720, t721, t722⟩, A30, H⟩ := H
 replace H : (if 0 ≤ t720 then (if t720 < (l1.length : Int) then (some (rd l1 t720, t721, t722)) else (none)) else (none)) = some (r1, r2, r3) := H
 have A3 := Aside0.mk A30
 clear A30
 by_cases c4 : 0 ≤ t720
 ·rw [if_pos c4] at H
  have c4b0 : decide (0 ≤ t720) = true := decide_eq_true c4
  clear c4
  by_cases c5 : t720 < (l1.length : Int)
  ·rw [if_pos c5] at H
   have c5b0 : decide (t720 < (l1.length : Int)) = true := decide_eq_true c5
   clear c5
   simp only [Option.some.injEq, Prod.mk.injEq] at H
   obtain ⟨rfl, rfl, rfl⟩ := H
   go_enter Try.func108, Try.ntmps108
   go_wp2_with (first | ((with_reducible refine gate_callee (f := 75) rfl ?_); refine goesM_ (some 9) rfl rfl Try.func75 (by kernel_rfl) rfl #[.pointer (some ⟨g, 0, none⟩), .int .i64 (l1.length : Int)] rfl ?_; (with_reducible refine (spec_l01Below.calls g s0_0 s0_1 s0_2 (l1.length : Int) t720 t721 t722 w0 _ ?side1 ?side2 A3.out).mono ?_); (case side1 => repeat (first | (with_reducible first | exact HI0.out | apply IsS101.alloc | apply IsS101.drewN | apply IsS101.drew | apply IsS101.set_1 | apply IsS101.set_2) | exact HI0.out)); (case side2 => repeat (first | (with_reducible first | exact HB.out | apply below_alloc | apply pw_below_drewN | apply below_drew1 | refine below_set ?_ (IsS101.ge HI0.out)) | exact HB.out)); rintro e w6 ⟨rfl, hi, hb, hk⟩; refine ⟨_, rfl, ?_⟩; replace HK := Aside0.mk (KeepBut.trans (by repeat (first | (with_reducible first | exact HK.out | apply KeepBut.set_ | apply keep_drewN | apply keep_drew | apply keep_alloc) | exact HK.out)) hk (.inl rfl)); replace HB := Aside0.mk (hb); replace HI0 := Aside0.mk (hi); (try clear hb); (try clear hb2); (try clear hk); (try clear hi); have p723 : 0 ≤ (t720 : Int) := ofA; have q723 : t720 < (l1.length : Int) := ofA; obtain ⟨ad723, e723, hx723_0⟩ := Kd.at_int HR1.out t720 p723 q723; cases e723; replace hx723_0 := keep_cell HK.out hx723_0 (by first | (rw [add_block]; exact hf1 _ rfl (by omega)) | exact hf1 _ rfl (by omega) | exact hf1 ad723 rfl (by omega)); replace p723 := eq_true p723; replace q723 := eq_true q723))
   go_ret
   exact ⟨by first | rfl | (simp [errW_none, errW_some] <;> rfl) | (simp [*, errW_none, errW_some] <;> rfl), by repeat (first | (with_reducible first | exact HI0.out | apply IsS101.alloc | apply IsS101.drewN | apply IsS101.drew | apply IsS101.set_1 | apply IsS101.set_2) | exact HI0.out), by repeat (first | (with_reducible first | exact HB.out | apply below_alloc | apply pw_below_drewN | apply below_drew1 | refine below_set ?_ (IsS101.ge HI0.out)) | exact HB.out), by repeat (first | (with_reducible first | exact HK.out | apply KeepBut.set_ | apply keep_drewN | apply keep_drew | apply keep_alloc) | exact HK.out)⟩
  rw [if_neg c5] at H
  exact absurd H (by simp)
 rw [if_neg c4] at H
 exact absurd H (by simp)
def spec_l04Draw.l0 : Nat → List Int → Int → List Int → Int → Int → Int → List (S67) → Option (List Int × Int × Int)
 | 0, _, _, _, _, _, _, _ => none
 | k + 1, x5, x6, x1000, x1001, x1002, x725000, x725001 => if x6 < x725000 then ((spec_l01Below.f x1000 x1001 x1002 7).bind fun bt728 => ((spec_l01Pick.f x1000 bt728.2.1 bt728.2.2 (([0, 1, 2, (-1), 3, (-2), bt728.1] : List Int))).bind fun bt734 => (if x5.length < 17592186044416 then (spec_l04Draw.l0 k (x5 ++ [bt734.1]) (wrap64 (x6 + 1)) x1000 bt734.2.1 bt734.2.2 x725000 x725001) else (none)))) else (some (x5, x1001, x1002))
def spec_l04Draw.f (k : Nat) (s0_0 : List Int) (s0_1 : Int) (s0_2 : Int) (a1_0 : Int) (l1_1 : List (S67)) : Option (List Int × Int × Int) := spec_l04Draw.l0 k (([] : List Int)) 0 s0_0 s0_1 s0_2 a1_0 l1_1
set_option maxHeartbeats 8000000 in
set_option maxRecDepth 100000 in
theorem spec_l04Draw.calls (k : Nat) (g : Nat) (s0_0 : List Int) (s0_1 : Int) (s0_2 : Int) (a1_0 : Int) (A1_1 : Option Addr) (c1_1 : Nat) (l1_1 : List (S67)) (r1 : List Int) (r2 : Int) (r3 : Int) (w0 w : World) (hI : IsS101 w0 w g s0_0 s0_1 s0_2) (hB : Below w0.heap.size w0 w) (hr1_1 : ∀ W_, KeepBut w W_ g none → Kd.C k67 W_ A1_1 l1_1.length l1_1) (hc1_1 : l1_1.length ≤ c1_1) (h : spec_l04Draw.f k s0_0 s0_1 s0_2 a1_0 l1_1 = some (r1, r2, r3)) :
  Calls Try.prog 68 #[.pointer (some ⟨g, 0, none⟩), .agg #[.int .i64 a1_0, .slice A1_1 l1_1.length c1_1]] w fun e w' => ∃ v0_ : Value, e = .returned (v0_) ∧ Kd.R (Kd.int .i64) 3 w' w.heap.size (fun _ => True) v0_ r1 ∧ IsS101 w0 w' g s0_0 r2 r3 ∧ Below w0.heap.size w0 w' ∧ KeepBut w w' g none := by
 have hu31 := Try.underlying31
 have HR1_1 := Aside0.mk hr1_1
 have HC1_1 := Aside0.mk hc1_1
 clear hr1_1 hc1_1
 have HI0 := Aside0.mk hI
 have HK := Aside0.mk (KeepBut.refl w g none)
 have HL := Aside0.mk hB.size
 clear hI
 have HW0 := Aside0.mk hB.size
 have HB := Aside0.mk hB
 clear hB
 have H : (spec_l04Draw.l0 k (([] : List Int)) 0 s0_0 s0_1 s0_2 a1_0 l1_1) = some (r1, r2, r3) := h
 clear h
 obtain ⟨y725, hy725⟩ : ∃ y_ : List Int, y_ = (([] : List Int)) := ⟨_, rfl⟩
 replace H : (spec_l04Draw.l0 k y725 0 s0_0 s0_1 s0_2 a1_0 l1_1) = some (r1, r2, r3) := by first | (rw [hy725]; with_reducible exact H) | (have H2_ := (Option.bind_some _ _).symm.trans H; rw [hy725]; with_reducible exact H2_) | (have H2_ := (Option.bind_some _ _).symm.trans H; with_reducible exact H2_) | with_reducible exact H | (rw [hy725]; exact H) | exact H
 have Ny725 := Aside0.mk hy725
 clear hy725
 have H' := Aside0.mk H
 clear H
 go_enter Try.func68, Try.ntmps68
 go_wp2_with (first | ((with_reducible refine gate_dst (N := 3) rfl ?_); refine box_event ?hg (N := 3) ?hd (cs := #[.int .i64 a1_0, .slice A1_1 l1_1.length c1_1]) (t := 31) ?hr ?_; (case hd => rfl); (case hg => rfl); (case hr => first | (go_simp; done) | (go_simp; rfl)); intro gb724 hg w3 hbox hb; replace HB := Aside0.mk (below_step (by repeat (first | (with_reducible first | exact HB.out | apply below_alloc | apply pw_below_drewN | apply below_drew1 | refine below_set ?_ (IsS101.ge HI0.out)) | exact HB.out)) hb); have BK724 := Aside0.mk (hbox); have GW724 := Aside0.mk ((by rw [hg]; exact (keep_size (w := w) (g := g) (row := none) (by repeat (first | (with_reducible first | exact HK.out | apply KeepBut.set_ | apply keep_drewN | apply keep_drew | apply keep_alloc) | exact HK.out))) : w.heap.size ≤ gb724)); have GE724 := Aside0.mk ((Nat.le_trans HW0.out (by rw [hg]; exact (keep_size (w := w) (g := g) (row := none) (by repeat (first | (with_reducible first | exact HK.out | apply KeepBut.set_ | apply keep_drewN | apply keep_drew | apply keep_alloc) | exact HK.out))) : w.heap.size ≤ gb724) : w0.heap.size ≤ gb724)); replace HK := Aside0.mk (KeepBut.trans (by repeat (first | (with_reducible first | exact HK.out | apply KeepBut.set_ | apply keep_drewN | apply keep_drew | apply keep_alloc) | exact HK.out)) (KeepBut.of_below hb g none) (.inl rfl)); have NB0_724 := Aside0.mk ((by rw [hg]; exact Nat.ne_of_lt (IsS101.lt (show IsS101 w0 _ g s0_0 s0_1 s0_2 from by repeat (first | (with_reducible first | exact HI0.out | apply IsS101.alloc | apply IsS101.drewN | apply IsS101.drew | apply IsS101.set_1 | apply IsS101.set_2) | exact HI0.out))) : g ≠ gb724)); have NB724_0 := Aside0.mk ((by rw [hg]; exact Nat.ne_of_gt (IsS101.lt (show IsS101 w0 _ g s0_0 s0_1 s0_2 from by repeat (first | (with_reducible first | exact HI0.out | apply IsS101.alloc | apply IsS101.drewN | apply IsS101.drew | apply IsS101.set_1 | apply IsS101.set_2) | exact HI0.out))) : gb724 ≠ g)); replace HI0 := Aside0.mk (IsS101.below (by repeat (first | (with_reducible first | exact HI0.out | apply IsS101.alloc | apply IsS101.drewN | apply IsS101.drew | apply IsS101.set_1 | apply IsS101.set_2) | exact HI0.out)) hb); clear hb hbox hg) | ((with_reducible refine gate_dst (N := 7) rfl ?_); refine Kd.R_lit (Kd.int .i64) _ 3 ?hg (N := 7) ?hd (xs := ([] : List Int)) (inner := []) (ok := fun _ => True) (okp := fun _ => True) ?hr ?hp (fun _ hk => hk) trivial (Below.refl _ _) (Nat.le_refl _) (by simp) ?_; (case hd => rfl); (case hg => rfl); (case hr => first | (go_simp; done) | (go_simp; rfl)); (case hp => exact (Reps.none _ _)); intro v726 w4 ho5 hb hg_ hnew_; clear hg_ hnew_; (first | rw [← Ny725.out] at ho5 | (simp only [Int.reduceToNat] at ho5; rw [← Ny725.out] at ho5)); have HO727 := Aside0.mk (Kd.R_lower ho5 (keep_size (w := w) (g := g) (row := none) (by repeat (first | (with_reducible first | exact HK.out | apply KeepBut.set_ | apply keep_drewN | apply keep_drew | apply keep_alloc | refine keep_far ?_ GW724.out _) | exact HK.out)))); replace BK724 := Aside0.mk (blk_below (g := gb724) (o := .cells #[.int .i64 a1_0, .slice A1_1 l1_1.length c1_1] 31 (0, 0)) (Bz BK724) hb); replace HK := Aside0.mk (KeepBut.trans (by repeat (first | (with_reducible first | exact HK.out | apply KeepBut.set_ | apply keep_drewN | apply keep_drew | apply keep_alloc | refine keep_far ?_ GW724.out _) | exact HK.out)) (KeepBut.of_below hb g none) (.inl rfl)); replace HB := Aside0.mk (below_step (by repeat (first | (with_reducible first | exact HB.out | apply below_alloc | apply pw_below_drewN | apply below_drew1 | refine below_set ?_ (IsS101.ge HI0.out) | refine below_set ?_ GE724.out) | exact HB.out)) hb); replace HI0 := Aside0.mk (IsS101.below (by repeat (first | (with_reducible first | exact HI0.out | apply IsS101.alloc | apply IsS101.drewN | apply IsS101.drew | apply IsS101.set_1 | apply IsS101.set_2 | refine IsS101.far ?_ NB0_724.out _) | exact HI0.out)) hb); clear hb ho5))
 go_loopg [5, 6] k (fun kq v5 v6 w' => ∃ (x5_1 : List Int) (x6_1 : Int) (x1001_1 : Int) (x1002_1 : Int), v6 = .int .i64 x6_1 ∧ Aside0 (spec_l04Draw.l0 kq x5_1 x6_1 s0_0 x1001_1 x1002_1 a1_0 l1_1 = some (r1, r2, r3)) ∧ Aside0 (kq ≤ k) ∧ Aside0 (Kd.R (Kd.int .i64) 3 w' w.heap.size (fun _ => True) v5 x5_1) ∧ Aside0 (w'.heap[gb724]? = some (.cells #[.int .i64 a1_0, (.slice A1_1 l1_1.length c1_1)] 31 (0, 0))) ∧ Aside0 (IsS101 w0 w' g s0_0 x1001_1 x1002_1) ∧ Aside0 (KeepBut w w' g none) ∧ Aside0 (Below w0.heap.size w0 w'))
 case atStart => exact ⟨(y725), (0), (s0_1), (s0_2), eqA, H', ⟨Nat.le_refl _⟩, ⟨by exact Rz HO727⟩, ⟨by exact Bz BK724⟩, ⟨by repeat (first | (with_reducible first | exact HI0.out | apply IsS101.alloc | apply IsS101.drewN | apply IsS101.drew | apply IsS101.set_1 | apply IsS101.set_2 | refine IsS101.far ?_ NB0_724.out _) | exact HI0.out)⟩, ⟨by repeat (first | (with_reducible first | exact HK.out | apply KeepBut.set_ | apply keep_drewN | apply keep_drew | apply keep_alloc | refine keep_far ?_ GW724.out _) | exact HK.out)⟩, ⟨by repeat (first | (with_reducible first | exact HB.out | apply below_alloc | apply pw_below_drewN | apply below_drew1 | refine below_set ?_ (IsS101.ge HI0.out) | refine below_set ?_ GE724.out) | exact HB.out)⟩⟩
 case round =>
  clear H'
  obtain ⟨x5_1, x6_1, x1001_1, x1002_1, rfl, HA, HK1, HO_5, BK724, HI0, HK, HB⟩ := hrel
  cases gk with
  | zero => exact absurd HA.out (by simp [spec_l04Draw.l0])
  | succ k1 =>
   have H := HA.out
   clear HA
   simp only [spec_l04Draw.l0] at H
   by_cases c6 : x6_1 < a1_0
   ·rw [if_pos c6] at H
    have c6b0 : decide (x6_1 < a1_0) = true := decide_eq_true c6
    clear c6
    replace H := Option.bind_eq_some_iff.mp H
    obtain ⟨⟨t728, t729, t730⟩, A70, H⟩ := H
    replace H : ((spec_l01Pick.f s0_0 t729 t730 (([0, 1, 2, (-1), 3, (-2), t728] : List Int))).bind fun bt734 => (if x5_1.length < 17592186044416 then (spec_l04Draw.l0 k1 (x5_1 ++ [bt734.1]) (wrap64 (x6_1 + 1)) s0_0 bt734.2.1 bt734.2.2 a1_0 l1_1) else (none))) = some (r1, r2, r3) := H
    have A7 := Aside0.mk A70
    clear A70
    obtain ⟨y731, hy731⟩ : ∃ y_ : List Int, y_ = (([0, 1, 2, (-1), 3, (-2), t728] : List Int)) := ⟨_, rfl⟩
    replace H : ((spec_l01Pick.f s0_0 t729 t730 y731).bind fun bt734 => (if x5_1.length < 17592186044416 then (spec_l04Draw.l0 k1 (x5_1 ++ [bt734.1]) (wrap64 (x6_1 + 1)) s0_0 bt734.2.1 bt734.2.2 a1_0 l1_1) else (none))) = some (r1, r2, r3) := by first | (rw [hy731]; with_reducible exact H) | (have H2_ := (Option.bind_some _ _).symm.trans H; rw [hy731]; with_reducible exact H2_) | (have H2_ := (Option.bind_some _ _).symm.trans H; with_reducible exact H2_) | with_reducible exact H | (rw [hy731]; exact H) | exact H
    have Ny731 := Aside0.mk hy731
    clear hy731
    replace H := Option.bind_eq_some_iff.mp H
    obtain ⟨⟨t734, t735, t736⟩, A80, H⟩ := H
    replace H : (if x5_1.length < 17592186044416 then (spec_l04Draw.l0 k1 (x5_1 ++ [t734]) (wrap64 (x6_1 + 1)) s0_0 t735 t736 a1_0 l1_1) else (none)) = some (r1, r2, r3) := H
    have A8 := Aside0.mk A80
    clear A80
    by_cases c9 : x5_1.length < 17592186044416
    ·rw [if_pos c9] at H
     have LMc9 := Aside0.mk c9
     clear c9
     obtain ⟨y737, hy737⟩ : ∃ y_ : List Int, y_ = (x5_1 ++ [t734]) := ⟨_, rfl⟩
     replace H : (spec_l04Draw.l0 k1 y737 (wrap64 (x6_1 + 1)) s0_0 t735 t736 a1_0 l1_1) = some (r1, r2, r3) := by first | (rw [hy737]; with_reducible exact H) | (have H2_ := (Option.bind_some _ _).symm.trans H; rw [hy737]; with_reducible exact H2_) | (have H2_ := (Option.bind_some _ _).symm.trans H; with_reducible exact H2_) | with_reducible exact H | (rw [hy737]; exact H) | exact H
     have Ny737 := Aside0.mk hy737
     clear hy737
     have H' := Aside0.mk H
     clear H
     have hnb10 := NB724_0.out
     have hnc10 := NB0_724.out
     have hcz11_0 : wr.cell? ⟨gb724, 0, none⟩ = some (.int .i64 a1_0) := (blk_cell BK724.out 0).trans rfl
     have hcz11_1 : wr.cell? ⟨gb724, 1, none⟩ = some (.slice A1_1 l1_1.length c1_1) := (blk_cell BK724.out 1).trans rfl
     have hfz11_0 := blk_frozen BK724.out 0
     have hfz11_1 := blk_frozen BK724.out 1
     go_wp2_with (first | ((with_reducible refine gate_callee (f := 75) rfl ?_); refine goesM_ (some 17) rfl rfl Try.func75 (by kernel_rfl) rfl #[.pointer (some ⟨g, 0, none⟩), .int .i64 7] rfl ?_; (with_reducible refine (spec_l01Below.calls g s0_0 x1001_1 x1002_1 7 t728 t729 t730 w0 _ ?side1 ?side2 A7.out).mono ?_); (case side1 => repeat (first | (with_reducible first | exact HI0.out | apply IsS101.alloc | apply IsS101.drewN | apply IsS101.drew | apply IsS101.set_1 | apply IsS101.set_2 | refine IsS101.far ?_ NB0_724.out _) | exact HI0.out)); (case side2 => repeat (first | (with_reducible first | exact HB.out | apply below_alloc | apply pw_below_drewN | apply below_drew1 | refine below_set ?_ (IsS101.ge HI0.out) | refine below_set ?_ GE724.out) | exact HB.out)); rintro e w12 ⟨rfl, hi, hb, hk⟩; refine ⟨_, rfl, ?_⟩; replace HO_5 := Aside0.mk (Kd.R_mono (Kd.R_keep (IsS101.apart (show IsS101 w0 _ g s0_0 x1001_1 x1002_1 from by repeat (first | (with_reducible first | exact HI0.out | apply IsS101.alloc | apply IsS101.drewN | apply IsS101.drew | apply IsS101.set_1 | apply IsS101.set_2 | refine IsS101.far ?_ NB0_724.out _) | exact HI0.out)) (Rz HO_5) (by decide)) hk (fun _ h => h.2)) (fun _ h => h.1)); replace BK724 := Aside0.mk (KeepBut.blk hk (g' := gb724) (o := .cells #[.int .i64 a1_0, .slice A1_1 l1_1.length c1_1] 31 (0, 0)) (Bz BK724) NB724_0.out (by simp)); replace HK := Aside0.mk (KeepBut.trans (by repeat (first | (with_reducible first | exact HK.out | apply KeepBut.set_ | apply keep_drewN | apply keep_drew | apply keep_alloc | refine keep_far ?_ GW724.out _) | exact HK.out)) hk (.inl rfl)); replace HB := Aside0.mk (hb); replace HI0 := Aside0.mk (hi); (try clear hb); (try clear hb2); (try clear hk); (try clear hi)) | ((with_reducible refine gate_dst (N := 18) rfl ?_); refine Kd.R_lit (Kd.int .i64) _ 3 ?hg (N := 18) ?hd (xs := ([0, 1, 2, (-1), 3, (-2), t728] : List Int)) (inner := [.int .i64 0, .int .i64 1, .int .i64 2, .int .i64 (-1), .int .i64 3, .int .i64 (-2), .int .i64 t728]) (ok := fun _ => True) (okp := fun _ => True) ?hr ?hp (fun _ hk => hk) trivial (Below.refl _ _) (Nat.le_refl _) (by simp) ?_; (case hd => rfl); (case hg => rfl); (case hr => first | (go_simp; done) | (go_simp; rfl)); (case hp => exact (Reps.one (show Kd.M (Kd.int .i64) _ _ _ 0 [.int .i64 0] from rfl) (Reps.one (show Kd.M (Kd.int .i64) _ _ _ 1 [.int .i64 1] from rfl) (Reps.one (show Kd.M (Kd.int .i64) _ _ _ 2 [.int .i64 2] from rfl) (Reps.one (show Kd.M (Kd.int .i64) _ _ _ (-1) [.int .i64 (-1)] from rfl) (Reps.one (show Kd.M (Kd.int .i64) _ _ _ 3 [.int .i64 3] from rfl) (Reps.one (show Kd.M (Kd.int .i64) _ _ _ (-2) [.int .i64 (-2)] from rfl) (Reps.one (show Kd.M (Kd.int .i64) _ _ _ t728 [.int .i64 t728] from rfl) (Reps.none _ _))))))))); intro v732 w13 ho14 hb hg_ hnew_; clear hg_ hnew_; (first | rw [← Ny731.out] at ho14 | (simp only [Int.reduceToNat] at ho14; rw [← Ny731.out] at ho14)); have HO733 := Aside0.mk (Kd.R_lower (Kd.R_new' ho14 (Kd.R_lt (Rz HO_5))) (keep_size (w := w) (g := g) (row := none) (by repeat (first | (with_reducible first | exact HK.out | apply KeepBut.set_ | apply keep_drewN | apply keep_drew | apply keep_alloc | refine keep_far ?_ GW724.out _) | exact HK.out)))); replace HO_5 := Aside0.mk (Kd.R_elder' (Rz HO_5) (Kd.R_base ho14) hb); replace BK724 := Aside0.mk (blk_below (g := gb724) (o := .cells #[.int .i64 a1_0, .slice A1_1 l1_1.length c1_1] 31 (0, 0)) (Bz BK724) hb); replace HK := Aside0.mk (KeepBut.trans (by repeat (first | (with_reducible first | exact HK.out | apply KeepBut.set_ | apply keep_drewN | apply keep_drew | apply keep_alloc | refine keep_far ?_ GW724.out _) | exact HK.out)) (KeepBut.of_below hb g none) (.inl rfl)); replace HB := Aside0.mk (below_step (by repeat (first | (with_reducible first | exact HB.out | apply below_alloc | apply pw_below_drewN | apply below_drew1 | refine below_set ?_ (IsS101.ge HI0.out) | refine below_set ?_ GE724.out) | exact HB.out)) hb); replace HI0 := Aside0.mk (IsS101.below (by repeat (first | (with_reducible first | exact HI0.out | apply IsS101.alloc | apply IsS101.drewN | apply IsS101.drew | apply IsS101.set_1 | apply IsS101.set_2 | refine IsS101.far ?_ NB0_724.out _) | exact HI0.out)) hb); clear hb ho14; obtain ⟨Ao15, co15, eo15⟩ := Kd.R_slice HO733.out; subst eo15) | ((with_reducible refine gate_callee (f := 108) rfl ?_); refine goesM_ (some 19) rfl rfl Try.func108 (by kernel_rfl) rfl #[.pointer (some ⟨g, 0, none⟩), .slice Ao15 y731.length co15] rfl ?_; (with_reducible refine (spec_l01Pick.calls g s0_0 t729 t730 _ _ y731 t734 t735 t736 w0 _ ?side1 ?side2 ?side3 ?side4 ?side5 A8.out).mono ?_); (case side1 => repeat (first | (with_reducible first | exact HI0.out | apply IsS101.alloc | apply IsS101.drewN | apply IsS101.drew | apply IsS101.set_1 | apply IsS101.set_2 | refine IsS101.far ?_ NB0_724.out _) | exact HI0.out)); (case side2 => repeat (first | (with_reducible first | exact HB.out | apply below_alloc | apply pw_below_drewN | apply below_drew1 | refine below_set ?_ (IsS101.ge HI0.out) | refine below_set ?_ GE724.out) | exact HB.out)); (case side3 => exact Cz ((Kd.R_reads' HO733.out).2.2)); (case side4 => exact (Kd.R_reads' HO733.out).2.1); (case side5 => exact far_slice (IsS101.own_ne HI0.out HO733.out (by decide))); rintro e w16 ⟨rfl, hi, hb, hk⟩; refine ⟨_, rfl, ?_⟩; replace HO_5 := Aside0.mk (Kd.R_mono (Kd.R_keep (IsS101.apart (show IsS101 w0 _ g s0_0 t729 t730 from by repeat (first | (with_reducible first | exact HI0.out | apply IsS101.alloc | apply IsS101.drewN | apply IsS101.drew | apply IsS101.set_1 | apply IsS101.set_2 | refine IsS101.far ?_ NB0_724.out _) | exact HI0.out)) (Rz HO_5) (by decide)) hk (fun _ h => h.2)) (fun _ h => h.1)); replace BK724 := Aside0.mk (KeepBut.blk hk (g' := gb724) (o := .cells #[.int .i64 a1_0, .slice A1_1 l1_1.length c1_1] 31 (0, 0)) (Bz BK724) NB724_0.out (by simp)); replace HO733 := Aside0.mk (Kd.R_mono (Kd.R_keep (IsS101.apart (show IsS101 w0 _ g s0_0 t729 t730 from by repeat (first | (with_reducible first | exact HI0.out | apply IsS101.alloc | apply IsS101.drewN | apply IsS101.drew | apply IsS101.set_1 | apply IsS101.set_2 | refine IsS101.far ?_ NB0_724.out _) | exact HI0.out)) (Rz HO733) (by decide)) hk (fun _ h => h.2)) (fun _ h => h.1)); replace HK := Aside0.mk (KeepBut.trans (by repeat (first | (with_reducible first | exact HK.out | apply KeepBut.set_ | apply keep_drewN | apply keep_drew | apply keep_alloc | refine keep_far ?_ GW724.out _) | exact HK.out)) hk (.inl rfl)); replace HB := Aside0.mk (hb); replace HI0 := Aside0.mk (hi); (try clear hb); (try clear hb2); (try clear hk); (try clear hi)) | ((with_reducible refine gate_builtin (b := .append) (xs := #[.tmp 14, .tmp 20]) rfl ?_); at_builtin; refine Kd.R_append (Kd.int .i64) w.heap.size rfl (.tmp 14) (.tmp 20) 25 3 (.int .i64 0) 8 rfl Try.underlying25 info3 rfl (by decide) (by omega) u5 x5_1 t734 [.int .i64 t734] (fun k_ => some k_ ≠ (.slice Ao15 y731.length co15 : Value).ownBlock) (fun _ => False) rfl rfl ?aP (fun _ hk => hk.elim) ?aF ?aO (Below.refl _ _) ?aS ?aL ?_; (case aP => exact rfl); (case aF => exact (fun k_ hk => Kd.fresh' (Kd.R_lt (Rz HO733)) k_ hk)); (case aO => exact (by (with_reducible repeat (first | apply Kd.R_alloc | apply Kd.R_drewN | apply Kd.R_drew)); exact Kd.R_mono HO_5.out (fun _ hk => hk.2))); (case aS => exact (keep_size (w := w) (g := g) (row := none) (by repeat (first | (with_reducible first | exact HK.out | apply KeepBut.set_ | apply keep_drewN | apply keep_drew | apply keep_alloc | refine keep_far ?_ GW724.out _) | exact HK.out)))); (case aL => have := LMc9.out; omega); intro v738 w17 ho hb hg hat; rw [← Ny737.out] at ho; replace BK724 := Aside0.mk (blk_grown (g := gb724) (o := .cells #[.int .i64 a1_0, .slice A1_1 l1_1.length c1_1] 31 (0, 0)) (Bz BK724) hg (Kd.R_ne HO_5.out BK724.out (by decide))); replace HO733 := Aside0.mk (Kd.R_after (ok := (fun _ => True)) (Rz HO733) hg hat); replace HB := Aside0.mk (below_weaken (by repeat (first | (with_reducible first | exact HB.out | apply below_alloc | apply pw_below_drewN | apply below_drew1 | refine below_set ?_ (IsS101.ge HI0.out) | refine below_set ?_ GE724.out) | exact HB.out)) HL.out hb); replace HI0 := Aside0.mk (IsS101.grownF HI0.out (by repeat (first | (with_reducible first | exact HI0.out | apply IsS101.alloc | apply IsS101.drewN | apply IsS101.drew | apply IsS101.set_1 | apply IsS101.set_2 | refine IsS101.far ?_ NB0_724.out _) | exact HI0.out)) hg (IsS101.own_ne HI0.out HO_5.out (by decide))); replace HK := Aside0.mk (KeepBut.trans (by repeat (first | (with_reducible first | exact HK.out | apply KeepBut.set_ | apply keep_drewN | apply keep_drew | apply keep_alloc | refine keep_far ?_ GW724.out _) | exact HK.out)) (KeepBut.of_grown hg g) (Kd.R_base2 HO_5.out)); have HO739 := Aside0.mk (ho); clear HO_5; clear ho hb hg hat))
     go_roundg k1
     case measure => have := HK1.out; omega
     case rel => exact ⟨(y737), (wrap64 (x6_1 + 1)), (t735), (t736), eqA, H', ⟨by have := HK1.out; omega⟩, ⟨by (with_reducible repeat (first | apply Kd.R_alloc | apply Kd.R_drewN | apply Kd.R_drew)); exact Kd.R_mono HO739.out (fun _ hk => trivial)⟩, ⟨by exact Bz BK724⟩, ⟨by repeat (first | (with_reducible first | exact HI0.out | apply IsS101.alloc | apply IsS101.drewN | apply IsS101.drew | apply IsS101.set_1 | apply IsS101.set_2 | refine IsS101.far ?_ NB0_724.out _) | exact HI0.out)⟩, ⟨by repeat (first | (with_reducible first | exact HK.out | apply KeepBut.set_ | apply keep_drewN | apply keep_drew | apply keep_alloc | refine keep_far ?_ GW724.out _) | exact HK.out)⟩, ⟨by repeat (first | (with_reducible first | exact HB.out | apply below_alloc | apply pw_below_drewN | apply below_drew1 | refine below_set ?_ (IsS101.ge HI0.out) | refine below_set ?_ GE724.out) | exact HB.out)⟩⟩
    rw [if_neg c9] at H
    exact absurd H (by simp)
   rw [if_neg c6] at H
   have c6b0 : decide (x6_1 < a1_0) = false := decide_eq_false c6
   clear c6
   simp only [Option.some.injEq, Prod.mk.injEq] at H
   obtain ⟨rfl, rfl, rfl⟩ := H
   have hnb18 := NB724_0.out
   have hnc18 := NB0_724.out
   have hcz19_0 : wr.cell? ⟨gb724, 0, none⟩ = some (.int .i64 a1_0) := (blk_cell BK724.out 0).trans rfl
   have hcz19_1 : wr.cell? ⟨gb724, 1, none⟩ = some (.slice A1_1 l1_1.length c1_1) := (blk_cell BK724.out 1).trans rfl
   have hfz19_0 := blk_frozen BK724.out 0
   have hfz19_1 := blk_frozen BK724.out 1
   go_wp2
   go_ret
   exact ⟨_, by first | rfl | (simp [errW_none, errW_some] <;> rfl) | (simp [*, errW_none, errW_some] <;> rfl), by exact Rz HO_5, by repeat (first | (with_reducible first | exact HI0.out | apply IsS101.alloc | apply IsS101.drewN | apply IsS101.drew | apply IsS101.set_1 | apply IsS101.set_2 | refine IsS101.far ?_ NB0_724.out _) | exact HI0.out), by repeat (first | (with_reducible first | exact HB.out | apply below_alloc | apply pw_below_drewN | apply below_drew1 | refine below_set ?_ (IsS101.ge HI0.out) | refine below_set ?_ GE724.out) | exact HB.out), by repeat (first | (with_reducible first | exact HK.out | apply KeepBut.set_ | apply keep_drewN | apply keep_drew | apply keep_alloc | refine keep_far ?_ GW724.out _) | exact HK.out)⟩
def spec_l21New.l0 : Nat → Int → Int → List Int → Int → Int → Option (List Int × Int × Int)
 | 0, _, _, _, _, _ => none
 | k + 1, x1, x6, s0, s1, s2 => if x6 < x1 then ((spec_l01Byte.f s0 s1 s2).bind fun bt => (spec_l21New.l0 k x1 (wrap64 (x6 + 1)) s0 bt.2.1 bt.2.2)) else (some (s0, s1, s2))
def spec_l21New.f (k : Nat) (l0 : List Int) (a1 : Int) : Option (List Int × Int × Int) := (spec_l01New.f k l0).bind fun bt => (spec_l21New.l0 k a1 0 bt.1 bt.2.1 bt.2.2)
theorem spec_l21New.belowK {w0 w W W1 : World} {g : Nat} (h0 : Below w0.heap.size w0 w) (h : Below w.heap.size w W) (h1 : Below w0.heap.size w0 W1) (hk : KeepBut W W1 g none) (hg : w.heap.size ≤ g) : Below w.heap.size w W1 :=
 ⟨h1.os.trans h0.os.symm, h1.tape.trans h0.tape.symm, h1.output.trans h0.output.symm, Nat.le_trans h.size hk.1, fun i hi => (hk.2 i (Nat.lt_of_lt_of_le hi h.size) (by omega) (by simp)).trans (h.block i hi)⟩
set_option maxHeartbeats 8000000 in
set_option maxRecDepth 100000 in
theorem spec_l21New.calls (k : Nat) (A0 : Option Addr) (c0 : Nat) (l0 : List Int) (a1 : Int) (r1 : List Int) (r2 : Int) (r3 : Int) (w0 w : World) (hB : Below w0.heap.size w0 w) (hr0 : Kd.C (Kd.int .u8) w0 A0 l0.length l0) (hc0 : l0.length ≤ c0) (h : spec_l21New.f k l0 a1 = some (r1, r2, r3)) :
  Calls Try.prog 69 #[.slice A0 l0.length c0, .int .i64 a1] w fun e w' => ∃ g_ : Nat, e = .returned (.pointer (some ⟨g_, 0, none⟩)) ∧ IsS101 w0 w' g_ r1 r2 r3 ∧ Below w0.heap.size w0 w' ∧ Below w.heap.size w w' := by
 have hu101 := Try.underlying101
 have HR0 := Aside0.mk hr0
 have HC0 := Aside0.mk hc0
 clear hr0 hc0
 have HBW := Aside0.mk (Below.refl w.heap.size w)
 have HBo := Aside0.mk hB
 have HB := Aside0.mk hB
 clear hB
 have H : ((spec_l01New.f k l0).bind fun bt => (spec_l21New.l0 k a1 0 bt.1 bt.2.1 bt.2.2)) = some (r1, r2, r3) := h
 clear h
 replace H := Option.bind_eq_some_iff.mp H
 obtain ⟨⟨t1, t2, t3⟩, A20, H⟩ := H
 replace H : spec_l21New.l0 k a1 0 t1 t2 t3 = some (r1, r2, r3) := H
 have A2 := Aside0.mk A20
 clear A20
 have H' := Aside0.mk H
 clear H
 go_enter Try.func69, Try.ntmps69
 go_wp2_with (first | ((with_reducible refine gate_callee (f := 67) rfl ?_); refine goesM_ (some 8) rfl rfl Try.func67 (by kernel_rfl) rfl #[.slice A0 l0.length c0] rfl ?_; (with_reducible refine (spec_l01New.callsX k _ _ l0 t1 t2 t3 w0 _ ?side1 ?side2 ?side3 A2.out).mono ?_); (case side1 => exact Lz HB); (case side2 => exact HR0.out); (case side3 => exact HC0.out); rintro e w5 ⟨g1, rfl, hi, hb, hb2, hg⟩; refine ⟨_, rfl, ?_⟩; have GW1 := Aside0.mk (Nat.le_trans (below_size (Lz HBW)) hg : w.heap.size ≤ g1); replace HB := Aside0.mk hb; replace HBW := Aside0.mk (below_step (Lz HBW) hb2); have HI1 := Aside0.mk hi; clear hb hb2 hi hg))
 go_loopg [6] k (fun kq v6 w' => ∃ (x6_1 : Int) (s1_1 : Int) (s2_1 : Int), v6 = .int .i64 x6_1 ∧ Aside0 (spec_l21New.l0 kq a1 x6_1 t1 s1_1 s2_1 = some (r1, r2, r3)) ∧ Aside0 (kq ≤ k) ∧ Aside0 (IsS101 w0 w' g1 t1 s1_1 s2_1) ∧ Aside0 (Below w0.heap.size w0 w') ∧ Aside0 (Below w.heap.size w w'))
 case atStart => exact ⟨(0), t2, t3, eqA, H', ⟨Nat.le_refl _⟩, ⟨by repeat (first | (with_reducible first | exact HI1.out | apply IsS101.alloc | apply IsS101.drewN | apply IsS101.drew) | exact HI1.out)⟩, ⟨by exact Lz HB⟩, ⟨by exact Lz HBW⟩⟩
 case round =>
  clear H' HI1 HB HBW
  obtain ⟨x6_1, s1_1, s2_1, rfl, HA, HK1, HI1, HB, HBW⟩ := hrel
  cases gk with
  | zero => exact absurd HA.out (by simp [spec_l21New.l0])
  | succ k1 =>
   have H := HA.out
   clear HA
   simp only [spec_l21New.l0] at H
   by_cases c2 : x6_1 < a1
   ·rw [if_pos c2] at H
    have c2b0 : decide (x6_1 < a1) = true := decide_eq_true c2
    clear c2
    replace H := Option.bind_eq_some_iff.mp H
    obtain ⟨⟨b1, b2, b3⟩, A30, H⟩ := H
    replace H : spec_l21New.l0 k1 a1 (wrap64 (x6_1 + 1)) t1 b2 b3 = some (r1, r2, r3) := H
    have A3 := Aside0.mk A30
    clear A30
    have H' := Aside0.mk H
    clear H
    go_wp2_with (first | ((with_reducible refine gate_callee (f := 70) rfl ?_); refine goesM_ (some 15) rfl rfl Try.func70 (by kernel_rfl) rfl #[.pointer (some ⟨g1, 0, none⟩)] rfl ?_; (with_reducible refine (spec_l01Byte.calls g1 t1 s1_1 s2_1 b1 b2 b3 w0 _ ?side1 ?side2 A3.out).mono ?_); (case side1 => repeat (first | (with_reducible first | exact HI1.out | apply IsS101.alloc | apply IsS101.drewN | apply IsS101.drew) | exact HI1.out)); (case side2 => exact Lz HB); rintro e w7 ⟨rfl, hi, hb, hk⟩; refine ⟨_, rfl, ?_⟩; replace HBW := Aside0.mk (spec_l21New.belowK HBo.out (Lz HBW) hb hk GW1.out); replace HB := Aside0.mk hb; replace HI1 := Aside0.mk hi; clear hb hi hk))
    go_roundg k1
    case measure => have := HK1.out; omega
    case rel => exact ⟨(wrap64 (x6_1 + 1)), b2, b3, eqA, H', ⟨by have := HK1.out; omega⟩, ⟨by repeat (first | (with_reducible first | exact HI1.out | apply IsS101.alloc | apply IsS101.drewN | apply IsS101.drew) | exact HI1.out)⟩, ⟨by exact Lz HB⟩, ⟨by exact Lz HBW⟩⟩
   rw [if_neg c2] at H
   have c2b0 : decide (x6_1 < a1) = false := decide_eq_false c2
   clear c2
   have H1 := Option.some.inj H
   simp only [Prod.mk.injEq] at H1
   obtain ⟨rfl, rfl, rfl⟩ := H1
   clear H
   go_wp2
   go_ret
   exact ⟨_, rfl, by repeat (first | (with_reducible first | exact HI1.out | apply IsS101.alloc | apply IsS101.drewN | apply IsS101.drew) | exact HI1.out), by exact Lz HB, by exact Lz HBW⟩
def spec_MakeDivisor.f (k : Nat) (l0 : List Int) (a1 : Int) (a2_0 : Int) (l2_1 : List (S67)) : Option (List Int) := (spec_l21New.f k l0 a1).bind fun bt741 => ((spec_l04Draw.f k bt741.1 bt741.2.1 bt741.2.2 a2_0 l2_1).bind fun bt745 => (some bt745.1))
set_option maxHeartbeats 8000000 in
set_option maxRecDepth 100000 in
theorem spec_MakeDivisor.calls (k : Nat) (A0 : Option Addr) (c0 : Nat) (l0 : List Int) (a1 : Int) (a2_0 : Int) (A2_1 : Option Addr) (c2_1 : Nat) (l2_1 : List (S67)) (r : List Int) (w : World) (hr0 : Kd.C (Kd.int .u8) w A0 l0.length l0) (hc0 : l0.length ≤ c0) (hr2_1 : Kd.C k67 w A2_1 l2_1.length l2_1) (hc2_1 : l2_1.length ≤ c2_1) (h : spec_MakeDivisor.f k l0 a1 a2_0 l2_1 = some r) :
  Calls Try.prog 23 #[.slice A0 l0.length c0, .int .i64 a1, .agg #[.int .i64 a2_0, .slice A2_1 l2_1.length c2_1]] w fun e w' => ∃ v0_ : Value, e = .returned (v0_) ∧ Kd.R (Kd.int .i64) 3 w' w.heap.size (fun _ => True) v0_ r ∧ Below w.heap.size w w' := by
 have hu31 := Try.underlying31
 have HR0 := Aside0.mk hr0
 have HC0 := Aside0.mk hc0
 clear hr0 hc0
 have HR2_1 := Aside0.mk hr2_1
 have HC2_1 := Aside0.mk hc2_1
 clear hr2_1 hc2_1
 have HB := Aside0.mk (Below.refl w.heap.size w)
 have H : ((spec_l21New.f k l0 a1).bind fun bt741 => ((spec_l04Draw.f k bt741.1 bt741.2.1 bt741.2.2 a2_0 l2_1).bind fun bt745 => (some bt745.1))) = some r := h
 clear h
 replace H := Option.bind_eq_some_iff.mp H
 obtain ⟨⟨t741, t742, t743⟩, A40, H⟩ := H
 replace H : ((spec_l04Draw.f k t741 t742 t743 a2_0 l2_1).bind fun bt745 => (some bt745.1)) = some r := H
 have A4 := Aside0.mk A40
 clear A40
 replace H := Option.bind_eq_some_iff.mp H
 obtain ⟨⟨t745, t748, t749⟩, A50, H⟩ := H
 replace H : (some t745) = some r := H
 have A5 := Aside0.mk A50
 clear A50
 obtain rfl := Option.some.inj H
 go_enter Try.func23, Try.ntmps23
 try go_wp2_with (first | ((with_reducible refine gate_dst (N := 5) rfl ?_); refine box_event ?hg (N := 5) ?hd (cs := #[.int .i64 a2_0, .slice A2_1 l2_1.length c2_1]) (t := 31) ?hr ?_; (case hd => rfl); (case hg => rfl); (case hr => first | (go_simp; done) | (go_simp; rfl)); intro gb740 hg w6 hbox hb; have BK740 := Aside0.mk (hbox); have GW740 := Aside0.mk ((by rw [hg]; exact (below_size (Lz HB)) : w.heap.size ≤ gb740)); have GE740 := Aside0.mk ((by rw [hg]; exact (below_size (Lz HB)) : w.heap.size ≤ gb740)); replace HB := Aside0.mk (below_step (Lz HB) hb); clear hb hbox hg))
 replace BK740 := Aside0.mk (blk_drew BK740.out)
 replace HB := Aside0.mk (below_drew1 HB.out)
 refine start_ (n := 6) (S := fun w' => w'.cell? ⟨gb740, 0, none⟩ = some (.int .i64 a2_0) ∧ w'.cell? ⟨gb740, 1, none⟩ = some (.slice A2_1 l2_1.length c2_1)) (ds := []) #[false, false, false, false, false, false] (by kernel_rfl) rfl rfl ⟨(blk_cell BK740.out 0).trans rfl, (blk_cell BK740.out 1).trans rfl⟩ (fun hHeld => ?_)
 generalize w6.drew = w7 at BK740 HB hHeld ⊢
 refine pure_ (i := 0) (N := some 7) (v := ?_) (a' := ?_) #[true, false, false, false, false, false] rfl rfl (by kernel_rfl) (fun _ _ _ h => h) (Or.inl ⟨by rfl, ?_⟩) ?_ ?_
 rotate_left
 ·intro w'
  go_simp
  with_reducible rfl
 rotate_left
 ·simp only [Act.put, List.setIfInBounds_toArray, List.set_cons_zero, List.set_cons_succ, i64_w, i32_w]
  rfl
 refine pure_ (i := 1) (N := some 8) (v := ?_) (a' := ?_) #[true, true, false, false, false, false] rfl rfl (by kernel_rfl) (fun _ _ _ h => h) (Or.inl ⟨by rfl, ?_⟩) ?_ ?_
 rotate_left
 ·intro w'
  go_simp
  with_reducible rfl
 rotate_left
 ·simp only [Act.put, List.setIfInBounds_toArray, List.set_cons_zero, List.set_cons_succ, i64_w, i32_w]
  rfl
 refine take_ (i := 3) (N := some 10) (v := ?_) (a' := ?_) #[true, true, false, true, false, false] rfl rfl (by kernel_rfl) (fun _ _ _ h => h) (Or.inl ⟨by rfl, ?_⟩) hHeld ?_ ?_
 rotate_left
 ·rintro w' ⟨s0, s1⟩
  go_simp
  with_reducible rfl
 rotate_left
 ·simp only [Act.put, List.setIfInBounds_toArray, List.set_cons_zero, List.set_cons_succ, i64_w, i32_w]
  rfl
 refine one_ (i := 2) (N := some 9) #[true, true, true, true, false, false] rfl rfl (by kernel_rfl) (by decide) (fun K hK => ?_)
 refine goes_ Try.func69 (by kernel_rfl) rfl #[.slice A0 l0.length c0, .int .i64 a1] (by rfl) rfl rfl (by (try simp only [List.map_toArray, List.map_cons, List.map_nil]); first | done | rfl | (simp only [List.length_drop, List.length_take]; rfl)) ?_
 with_reducible refine (spec_l21New.calls k _ _ l0 a1 t741 t742 t743 w _ ?side1 ?side2 ?side3 A4.out).mono ?_
 (case side1 => exact Lz1 HB GE740)
 (case side2 => exact HR0.out)
 (case side3 => exact HC0.out)
 rintro e w8 ⟨g744, rfl, hi, hb, hb2⟩
 refine ⟨_, rfl, ?_⟩
 replace HB := Aside0.mk (hb)
 have HI744 := Aside0.mk (hi)
 have NB744_740 := Aside0.mk (IsS101.ne_blk hi (blk_below (g := gb740) (o := .cells #[.int .i64 a2_0, .slice A2_1 l2_1.length c2_1] 31 (0, 0)) (Bz BK740) hb2) (by decide))
 have NB740_744 := Aside0.mk (Ne.symm (IsS101.ne_blk hi (blk_below (g := gb740) (o := .cells #[.int .i64 a2_0, .slice A2_1 l2_1.length c2_1] 31 (0, 0)) (Bz BK740) hb2) (by decide)))
 replace BK740 := Aside0.mk (blk_below (g := gb740) (o := .cells #[.int .i64 a2_0, .slice A2_1 l2_1.length c2_1] 31 (0, 0)) (Bz BK740) hb2)
 (try clear hb)
 (try clear hb2)
 (try clear hk)
 (try clear hi)
 refine hK.out _ _ ⟨(blk_cell BK740.out 0).trans rfl, (blk_cell BK740.out 1).trans rfl⟩ (fun hHeld => ?_)
 clear hK K
 refine norm_ (a' := ?_) ?_ ?_
 rotate_left
 ·show Act.put _ (some 9) _ = _
  simp only [Act.put, List.setIfInBounds_toArray, List.set_cons_zero, List.set_cons_succ, i64_w, i32_w]
  rfl
 refine one_ (i := 4) (N := some 11) #[true, true, true, true, true, false] rfl rfl (by kernel_rfl) (by decide) (fun K hK => ?_)
 refine goes_ Try.func68 (by kernel_rfl) rfl #[.pointer (some ⟨g744, 0, none⟩), .agg #[.int .i64 a2_0, .slice A2_1 l2_1.length c2_1]] (by rfl) rfl rfl (by (try simp only [List.map_toArray, List.map_cons, List.map_nil]); first | done | rfl | (simp only [List.length_drop, List.length_take]; rfl)) ?_
 with_reducible refine (spec_l04Draw.calls k g744 t741 t742 t743 a2_0 _ _ l2_1 t745 t748 t749 w _ ?side1 ?side2 ?side3 ?side4 A5.out).mono ?_
 (case side1 => repeat (first | (with_reducible first | exact HI744.out | apply IsS101.alloc | apply IsS101.drewN | apply IsS101.drew | apply IsS101.set_1 | apply IsS101.set_2 | refine IsS101.far ?_ NB744_740.out _) | exact HI744.out))
 (case side2 => repeat (first | (with_reducible first | exact HB.out | apply below_alloc | apply pw_below_drewN | apply below_drew1 | refine below_set ?_ (IsS101.ge HI744.out) | refine below_set ?_ GE740.out) | exact HB.out))
 (case side3 => exact Kd.C_foot_came k67_heap HR2_1.out (by repeat (first | (with_reducible first | exact HB.out | apply below_alloc | apply pw_below_drewN | apply below_drew1 | refine below_set ?_ (IsS101.ge HI744.out) | refine below_set ?_ GE740.out) | exact HB.out)) (IsS101.ge HI744.out))
 (case side4 => exact HC2_1.out)
 rintro e w9 ⟨v746, rfl, ho0, hi, hb, hk⟩
 refine ⟨_, rfl, ?_⟩
 replace BK740 := Aside0.mk (KeepBut.blk hk (g' := gb740) (o := .cells #[.int .i64 a2_0, .slice A2_1 l2_1.length c2_1] 31 (0, 0)) (Bz BK740) NB740_744.out (by simp))
 have HO747 := Aside0.mk (Kd.R_lower ho0 (below_size (by repeat (first | (with_reducible first | exact HB.out | apply below_alloc | apply pw_below_drewN | apply below_drew1 | refine below_set ?_ (IsS101.ge HI744.out) | refine below_set ?_ GE740.out) | exact HB.out))))
 replace HB := Aside0.mk (hb)
 replace HI744 := Aside0.mk (hi)
 (try clear hb)
 (try clear hb2)
 (try clear hk)
 (try clear hi)
 (try clear ho0)
 refine hK.out _ _ ⟨(blk_cell BK740.out 0).trans rfl, (blk_cell BK740.out 1).trans rfl⟩ (fun hHeld => ?_)
 clear hK K
 refine norm_ (a' := ?_) ?_ ?_
 rotate_left
 ·show Act.put _ (some 11) _ = _
  simp only [Act.put, List.setIfInBounds_toArray, List.set_cons_zero, List.set_cons_succ, i64_w, i32_w]
  rfl
 refine pure_ (i := 5) (N := some 6) (v := ?_) (a' := ?_) #[true, true, true, true, true, true] rfl rfl (by kernel_rfl) (fun _ _ _ h => h) (Or.inl ⟨by rfl, ?_⟩) ?_ ?_
 rotate_left
 ·intro w'
  go_simp
  with_reducible rfl
 rotate_left
 ·simp only [Act.put, List.setIfInBounds_toArray, List.set_cons_zero, List.set_cons_succ, i64_w, i32_w]
  rfl
 refine done_ (by kernel_rfl) ?_
 try go_wp2
 go_ret
 exact ⟨_, by first | rfl | (simp [errW_none, errW_some] <;> rfl) | (simp [*, errW_none, errW_some] <;> rfl), by exact Rz HO747, by repeat (first | (with_reducible first | exact HB.out | apply below_alloc | apply pw_below_drewN | apply below_drew1 | refine below_set ?_ (IsS101.ge HI744.out) | refine below_set ?_ GE740.out) | exact HB.out)⟩
def impl_ScriptOk.f (k : Nat) (a0_0 : Int) (l0_1 : List (S67)) (l1 : List Int) : Option (Bool) := (impl_GraphOk.f k a0_0 l0_1).bind fun t770 => (if t770 = true then (if (l1.length : Int) = a0_0 then ((impl_allWithin.f k l1 (-100000) 100000).bind fun t771 => (some t771)) else (some false)) else (some false))
set_option maxHeartbeats 8000000 in
set_option maxRecDepth 100000 in
theorem impl_ScriptOk.calls (k : Nat) (a0_0 : Int) (A0_1 : Option Addr) (c0_1 : Nat) (l0_1 : List (S67)) (A1 : Option Addr) (c1 : Nat) (l1 : List Int) (r : Bool) (w : World) (hr0_1 : Kd.C k67 w A0_1 l0_1.length l0_1) (hc0_1 : l0_1.length ≤ c0_1) (hr1 : Kd.C (Kd.int .i64) w A1 l1.length l1) (hc1 : l1.length ≤ c1) (h : impl_ScriptOk.f k a0_0 l0_1 l1 = some r) :
  Calls Try.prog 40 #[.agg #[.int .i64 a0_0, .slice A0_1 l0_1.length c0_1], .slice A1 l1.length c1] w fun e w' => e = .returned (.bool r) ∧ Below w.heap.size w w' := by
 have hu31 := Try.underlying31
 have HR0_1 := Aside0.mk hr0_1
 have HC0_1 := Aside0.mk hc0_1
 clear hr0_1 hc0_1
 have HR1 := Aside0.mk hr1
 have HC1 := Aside0.mk hc1
 clear hr1 hc1
 have HB := Aside0.mk (Below.refl w.heap.size w)
 have H : ((impl_GraphOk.f k a0_0 l0_1).bind fun t770 => (if t770 = true then (if (l1.length : Int) = a0_0 then ((impl_allWithin.f k l1 (-100000) 100000).bind fun t771 => (some t771)) else (some false)) else (some false))) = some r := h
 clear h
 replace H := Option.bind_eq_some_iff.mp H
 obtain ⟨t770, A30, H⟩ := H
 replace H : (if t770 = true then (if (l1.length : Int) = a0_0 then ((impl_allWithin.f k l1 (-100000) 100000).bind fun t771 => (some t771)) else (some false)) else (some false)) = some r := H
 have A3 := Aside0.mk A30
 clear A30
 by_cases c4 : t770 = true
 ·subst c4
  have H1 : (if (l1.length : Int) = a0_0 then ((impl_allWithin.f k l1 (-100000) 100000).bind fun t771 => (some t771)) else (some false)) = some r := by rw [if_pos rfl] at H; exact H
  clear H
  have H := H1
  clear H1
  by_cases c5 : (l1.length : Int) = a0_0
  ·rw [if_pos c5] at H
   have c5b0 : ((l1.length : Int) == a0_0) = true := beq_iff_eq.mpr c5
   have c5b1 : ((l1.length : Int) != a0_0) = false := bne_eq_false_iff_eq.mpr c5
   clear c5
   replace H := Option.bind_eq_some_iff.mp H
   obtain ⟨t771, A60, H⟩ := H
   replace H : (some t771) = some r := H
   have A6 := Aside0.mk A60
   clear A60
   obtain rfl := Option.some.inj H
   go_enter Try.func40, Try.ntmps40
   go_wp2_with (first | ((with_reducible refine gate_dst (N := 2) rfl ?_); (try (refine gate_guard (by rfl) ?_; dsimp only)); refine box_event ?hg (N := 2) ?hd (cs := #[.int .i64 a0_0, .slice A0_1 l0_1.length c0_1]) (t := 31) ?hr ?_; (case hd => rfl); (case hg => rfl); (case hr => first | (go_simp; done) | (go_simp; rfl)); intro gb769 hg w7 hbox hb; have BK769 := Aside0.mk (hbox); have GW769 := Aside0.mk ((by rw [hg]; exact (below_size (Lz HB)) : w.heap.size ≤ gb769)); have GE769 := Aside0.mk ((by rw [hg]; exact (below_size (Lz HB)) : w.heap.size ≤ gb769)); replace HB := Aside0.mk (below_step (Lz HB) hb); clear hb hbox hg; have hcz8_0 : w7.cell? ⟨gb769, 0, none⟩ = some (.int .i64 a0_0) := (blk_cell BK769.out 0).trans rfl; have hcz8_1 : w7.cell? ⟨gb769, 1, none⟩ = some (.slice A0_1 l0_1.length c0_1) := (blk_cell BK769.out 1).trans rfl; have hfz8_0 := blk_frozen BK769.out 0; have hfz8_1 := blk_frozen BK769.out 1) | ((with_reducible refine gate_callee (f := 50) rfl ?_); refine goesM_ (some 6) rfl rfl Try.func50 (by kernel_rfl) rfl #[.agg #[.int .i64 a0_0, .slice A0_1 l0_1.length c0_1]] rfl ?_; (with_reducible refine (impl_GraphOk.calls k a0_0 _ _ l0_1 true _ ?side1 ?side2 A3.out).mono ?_); (case side1 => exact Cz ((Kd.C_below HR0_1.out HB.out))); (case side2 => exact HC0_1.out); rintro e w9 ⟨rfl, hb⟩; refine ⟨_, rfl, ?_⟩; replace BK769 := Aside0.mk (blk_below (g := gb769) (o := .cells #[.int .i64 a0_0, .slice A0_1 l0_1.length c0_1] 31 (0, 0)) (Bz BK769) hb); replace HB := Aside0.mk (below_step (by exact Lz1 HB GE769) hb); (try clear hb); (try clear hb2); (try clear hk); (try clear hi); have hcz10_0 : w9.cell? ⟨gb769, 0, none⟩ = some (.int .i64 a0_0) := (blk_cell BK769.out 0).trans rfl; have hcz10_1 : w9.cell? ⟨gb769, 1, none⟩ = some (.slice A0_1 l0_1.length c0_1) := (blk_cell BK769.out 1).trans rfl; have hfz10_0 := blk_frozen BK769.out 0; have hfz10_1 := blk_frozen BK769.out 1) | (go_at_call 80; (with_reducible refine (impl_allWithin.calls k _ _ l1 (-100000) 100000 t771 _ ?side1 ?side2 A6.out).mono ?_); (case side1 => exact Cz ((Kd.C_below HR1.out HB.out))); (case side2 => exact HC1.out); rintro e w' ⟨rfl, ⟨nd, rfl⟩⟩))
   go_ret
   exact ⟨by first | rfl | (simp [errW_none, errW_some] <;> rfl) | (simp [*, errW_none, errW_some] <;> rfl), by exact Lz1 HB GE769⟩
  rw [if_neg c5] at H
  have c5b0 : ((l1.length : Int) == a0_0) = false := beq_eq_false_iff_ne.mpr c5
  have c5b1 : ((l1.length : Int) != a0_0) = true := bne_iff_ne.mpr c5
  obtain rfl := Option.some.inj H
  go_enter Try.func40, Try.ntmps40
  go_wp2_with (first | ((with_reducible refine gate_dst (N := 2) rfl ?_); (try (refine gate_guard (by rfl) ?_; dsimp only)); refine box_event ?hg (N := 2) ?hd (cs := #[.int .i64 a0_0, .slice A0_1 l0_1.length c0_1]) (t := 31) ?hr ?_; (case hd => rfl); (case hg => rfl); (case hr => first | (go_simp; done) | (go_simp; rfl)); intro gb769 hg w11 hbox hb; have BK769 := Aside0.mk (hbox); have GW769 := Aside0.mk ((by rw [hg]; exact (below_size (Lz HB)) : w.heap.size ≤ gb769)); have GE769 := Aside0.mk ((by rw [hg]; exact (below_size (Lz HB)) : w.heap.size ≤ gb769)); replace HB := Aside0.mk (below_step (Lz HB) hb); clear hb hbox hg; have hcz12_0 : w11.cell? ⟨gb769, 0, none⟩ = some (.int .i64 a0_0) := (blk_cell BK769.out 0).trans rfl; have hcz12_1 : w11.cell? ⟨gb769, 1, none⟩ = some (.slice A0_1 l0_1.length c0_1) := (blk_cell BK769.out 1).trans rfl; have hfz12_0 := blk_frozen BK769.out 0; have hfz12_1 := blk_frozen BK769.out 1) | ((with_reducible refine gate_callee (f := 50) rfl ?_); refine goesM_ (some 6) rfl rfl Try.func50 (by kernel_rfl) rfl #[.agg #[.int .i64 a0_0, .slice A0_1 l0_1.length c0_1]] rfl ?_; (with_reducible refine (impl_GraphOk.calls k a0_0 _ _ l0_1 true _ ?side1 ?side2 A3.out).mono ?_); (case side1 => exact Cz ((Kd.C_below HR0_1.out HB.out))); (case side2 => exact HC0_1.out); rintro e w13 ⟨rfl, hb⟩; refine ⟨_, rfl, ?_⟩; replace BK769 := Aside0.mk (blk_below (g := gb769) (o := .cells #[.int .i64 a0_0, .slice A0_1 l0_1.length c0_1] 31 (0, 0)) (Bz BK769) hb); replace HB := Aside0.mk (below_step (by exact Lz1 HB GE769) hb); (try clear hb); (try clear hb2); (try clear hk); (try clear hi); have hcz14_0 : w13.cell? ⟨gb769, 0, none⟩ = some (.int .i64 a0_0) := (blk_cell BK769.out 0).trans rfl; have hcz14_1 : w13.cell? ⟨gb769, 1, none⟩ = some (.slice A0_1 l0_1.length c0_1) := (blk_cell BK769.out 1).trans rfl; have hfz14_0 := blk_frozen BK769.out 0; have hfz14_1 := blk_frozen BK769.out 1))
  go_ret
  exact ⟨by first | rfl | (simp [errW_none, errW_some] <;> rfl) | (simp [*, errW_none, errW_some] <;> rfl), by exact Lz1 HB GE769⟩
 replace c4 := Bool.eq_false_iff.mpr c4
 subst c4
 have H1 : (some false) = some r := by rw [if_neg (show ¬ (false = true) by decide)] at H; exact H
 clear H
 have H := H1
 clear H1
 obtain rfl := Option.some.inj H
 go_enter Try.func40, Try.ntmps40
 go_wp2_with (first | ((with_reducible refine gate_dst (N := 2) rfl ?_); (try (refine gate_guard (by rfl) ?_; dsimp only)); refine box_event ?hg (N := 2) ?hd (cs := #[.int .i64 a0_0, .slice A0_1 l0_1.length c0_1]) (t := 31) ?hr ?_; (case hd => rfl); (case hg => rfl); (case hr => first | (go_simp; done) | (go_simp; rfl)); intro gb769 hg w15 hbox hb; have BK769 := Aside0.mk (hbox); have GW769 := Aside0.mk ((by rw [hg]; exact (below_size (Lz HB)) : w.heap.size ≤ gb769)); have GE769 := Aside0.mk ((by rw [hg]; exact (below_size (Lz HB)) : w.heap.size ≤ gb769)); replace HB := Aside0.mk (below_step (Lz HB) hb); clear hb hbox hg; have hcz16_0 : w15.cell? ⟨gb769, 0, none⟩ = some (.int .i64 a0_0) := (blk_cell BK769.out 0).trans rfl; have hcz16_1 : w15.cell? ⟨gb769, 1, none⟩ = some (.slice A0_1 l0_1.length c0_1) := (blk_cell BK769.out 1).trans rfl; have hfz16_0 := blk_frozen BK769.out 0; have hfz16_1 := blk_frozen BK769.out 1) | ((with_reducible refine gate_callee (f := 50) rfl ?_); refine goesM_ (some 6) rfl rfl Try.func50 (by kernel_rfl) rfl #[.agg #[.int .i64 a0_0, .slice A0_1 l0_1.length c0_1]] rfl ?_; (with_reducible refine (impl_GraphOk.calls k a0_0 _ _ l0_1 false _ ?side1 ?side2 A3.out).mono ?_); (case side1 => exact Cz ((Kd.C_below HR0_1.out HB.out))); (case side2 => exact HC0_1.out); rintro e w17 ⟨rfl, hb⟩; refine ⟨_, rfl, ?_⟩; replace BK769 := Aside0.mk (blk_below (g := gb769) (o := .cells #[.int .i64 a0_0, .slice A0_1 l0_1.length c0_1] 31 (0, 0)) (Bz BK769) hb); replace HB := Aside0.mk (below_step (by exact Lz1 HB GE769) hb); (try clear hb); (try clear hb2); (try clear hk); (try clear hi)))
 go_ret
 exact ⟨by first | rfl | (simp [errW_none, errW_some] <;> rfl) | (simp [*, errW_none, errW_some] <;> rfl), by exact Lz1 HB GE769⟩
def impl_fired.l0 : Nat → List Int → List Int → Int → Int → Int → List (S67) → Option (List Int)
 | 0, _, _, _, _, _, _ => none
 | k + 1, x7, x12, x13, x14, x773000, x773001 => if x14 < x13 then (if 0 ≤ x14 then (if x14 < (x12.length : Int) then ((impl_fire.f k x773000 x773001 x7 x14 (rd x12 x14)).bind fun t777 => (impl_fired.l0 k t777 x12 x13 (wrap64 (x14 + 1)) x773000 x773001)) else (none)) else (none)) else (some x7)
def impl_fired.f (k : Nat) (a0_0 : Int) (l0_1 : List (S67)) (l1 : List Int) (l2 : List Int) : Option (List Int) := (impl_copyInts.f l1).bind fun t773 => (impl_fired.l0 k t773 l2 (l2.length : Int) 0 a0_0 l0_1)
set_option maxHeartbeats 8000000 in
set_option maxRecDepth 100000 in
theorem impl_fired.calls (k : Nat) (a0_0 : Int) (A0_1 : Option Addr) (c0_1 : Nat) (l0_1 : List (S67)) (A1 : Option Addr) (c1 : Nat) (l1 : List Int) (A2 : Option Addr) (c2 : Nat) (l2 : List Int) (r : List Int) (w : World) (hr0_1 : Kd.C k67 w A0_1 l0_1.length l0_1) (hc0_1 : l0_1.length ≤ c0_1) (hr1 : Kd.C (Kd.int .i64) w A1 l1.length l1) (hc1 : l1.length ≤ c1) (hr2 : Kd.C (Kd.int .i64) w A2 l2.length l2) (hc2 : l2.length ≤ c2) (h : impl_fired.f k a0_0 l0_1 l1 l2 = some r) :
  Calls Try.prog 73 #[.agg #[.int .i64 a0_0, .slice A0_1 l0_1.length c0_1], .slice A1 l1.length c1, .slice A2 l2.length c2] w fun e w' => ∃ v0_ : Value, e = .returned (v0_) ∧ Kd.R (Kd.int .i64) 3 w' w.heap.size (fun _ => True) v0_ r ∧ Below w.heap.size w w' := by
 have hu31 := Try.underlying31
 have HR0_1 := Aside0.mk hr0_1
 have HC0_1 := Aside0.mk hc0_1
 clear hr0_1 hc0_1
 have HR1 := Aside0.mk hr1
 have HC1 := Aside0.mk hc1
 clear hr1 hc1
 have HR2 := Aside0.mk hr2
 have HC2 := Aside0.mk hc2
 clear hr2 hc2
 have HB := Aside0.mk (Below.refl w.heap.size w)
 have H : ((impl_copyInts.f l1).bind fun t773 => (impl_fired.l0 k t773 l2 (l2.length : Int) 0 a0_0 l0_1)) = some r := h
 clear h
 replace H := Option.bind_eq_some_iff.mp H
 obtain ⟨t773, A40, H⟩ := H
 replace H : (impl_fired.l0 k t773 l2 (l2.length : Int) 0 a0_0 l0_1) = some r := H
 have A4 := Aside0.mk A40
 clear A40
 have H' := Aside0.mk H
 clear H
 go_enter Try.func73, Try.ntmps73
 go_wp2_with (first | ((with_reducible refine gate_dst (N := 3) rfl ?_); refine box_event ?hg (N := 3) ?hd (cs := #[.int .i64 a0_0, .slice A0_1 l0_1.length c0_1]) (t := 31) ?hr ?_; (case hd => rfl); (case hg => rfl); (case hr => first | (go_simp; done) | (go_simp; rfl)); intro gb772 hg w5 hbox hb; have BK772 := Aside0.mk (hbox); have GW772 := Aside0.mk ((by rw [hg]; exact (below_size (Lz HB)) : w.heap.size ≤ gb772)); have GE772 := Aside0.mk ((by rw [hg]; exact (below_size (Lz HB)) : w.heap.size ≤ gb772)); replace HB := Aside0.mk (below_step (Lz HB) hb); clear hb hbox hg) | ((with_reducible refine gate_callee (f := 79) rfl ?_); refine goesM_ (some 11) rfl rfl Try.func79 (by kernel_rfl) rfl #[.slice A1 l1.length c1] rfl ?_; (with_reducible refine (impl_copyInts.calls _ _ l1 t773 _ ?side1 ?side2 A4.out).mono ?_); (case side1 => exact Cz ((Kd.C_below HR1.out HB.out))); (case side2 => exact HC1.out); rintro e w6 ⟨v774, rfl, ho0, hb⟩; refine ⟨_, rfl, ?_⟩; have HO775 := Aside0.mk (Kd.R_lower ho0 (below_size (by exact Lz1 HB GE772))); replace BK772 := Aside0.mk (blk_below (g := gb772) (o := .cells #[.int .i64 a0_0, .slice A0_1 l0_1.length c0_1] 31 (0, 0)) (Bz BK772) hb); replace HB := Aside0.mk (below_step (by exact Lz1 HB GE772) hb); (try clear hb); (try clear ho0)))
 go_loopg [14] k (fun kq v14 w' => ∃ (x7_1 : List Int) (x14_1 : Int), v14 = .int .i64 x14_1 ∧ Aside0 (impl_fired.l0 kq x7_1 l2 (l2.length : Int) x14_1 a0_0 l0_1 = some r) ∧ Aside0 (kq ≤ k) ∧ Aside0 (Kd.R (Kd.int .i64) 3 w' w.heap.size (fun _ => True) v774 x7_1) ∧ Aside0 (w'.heap[gb772]? = some (.cells #[.int .i64 a0_0, (.slice A0_1 l0_1.length c0_1)] 31 (0, 0))) ∧ Aside0 (Below w.heap.size w w'))
 case atStart => exact ⟨(t773), (0), eqA, H', ⟨Nat.le_refl _⟩, ⟨by exact Rz HO775⟩, ⟨by exact Bz BK772⟩, ⟨by exact Lz1 HB GE772⟩⟩
 case round =>
  clear H'
  try clear c1
  try clear c2
  obtain ⟨x7_1, x14_1, rfl, HA, HK1, HO_7, BK772, HB⟩ := hrel
  cases gk with
  | zero => exact absurd HA.out (by simp [impl_fired.l0])
  | succ k1 =>
   have H := HA.out
   clear HA
   simp only [impl_fired.l0] at H
   by_cases c7 : x14_1 < (l2.length : Int)
   ·rw [if_pos c7] at H
    have c7b0 : decide (x14_1 < (l2.length : Int)) = true := decide_eq_true c7
    clear c7
    by_cases c8 : 0 ≤ x14_1
    ·rw [if_pos c8] at H
     have c8b0 : decide (0 ≤ x14_1) = true := decide_eq_true c8
     clear c8
     by_cases c9 : x14_1 < (l2.length : Int)
     ·rw [if_pos c9] at H
      have c9b0 : decide (x14_1 < (l2.length : Int)) = true := decide_eq_true c9
      clear c9
      replace H := Option.bind_eq_some_iff.mp H
      obtain ⟨t777, A100, H⟩ := H
      replace H : (impl_fired.l0 k1 t777 l2 (l2.length : Int) (wrap64 (x14_1 + 1)) a0_0 l0_1) = some r := H
      have A10 := Aside0.mk A100
      clear A100
      have H' := Aside0.mk H
      clear H
      have p776 : 0 ≤ (x14_1 : Int) := ofA
      have q776 : x14_1 < (l2.length : Int) := ofA
      obtain ⟨ad776, e776, hx776_0⟩ := Kd.at_int HR2.out x14_1 p776 q776
      cases e776
      replace hx776_0 := (HB.out.cell (World.block_lt_of_cell? w _ hx776_0)).trans hx776_0
      replace p776 := eq_true p776
      replace q776 := eq_true q776
      have hcz11_0 : wr.cell? ⟨gb772, 0, none⟩ = some (.int .i64 a0_0) := (blk_cell BK772.out 0).trans rfl
      have hcz11_1 : wr.cell? ⟨gb772, 1, none⟩ = some (.slice A0_1 l0_1.length c0_1) := (blk_cell BK772.out 1).trans rfl
      have hfz11_0 := blk_frozen BK772.out 0
      have hfz11_1 := blk_frozen BK772.out 1
      obtain ⟨Ao12, co12, eo12⟩ := Kd.R_slice HO_7.out
      subst eo12
      go_wp2_with (first | ((with_reducible refine gate_callee (f := 101) rfl ?_); refine goesM_ (some 23) rfl rfl Try.func101 (by kernel_rfl) rfl #[.agg #[.int .i64 a0_0, .slice A0_1 l0_1.length c0_1], .slice Ao12 x7_1.length co12, .int .i64 x14_1, .int .i64 (rd l2 x14_1)] rfl ?_; (with_reducible refine (impl_fire.calls k1 a0_0 _ _ l0_1 (fun k_ => some k_ = (.slice Ao12 x7_1.length co12 : Value).ownBlock) (.slice Ao12 x7_1.length co12) x7_1 x14_1 (rd l2 x14_1) t777 w _ ?side1 ?side2 ?side3 ?side4 A10.out).mono ?_); (case side1 => exact Lz1 HB GE772); (case side2 => exact Kd.C_kept_came k67_heap HR0_1.out (by exact Lz1 HB GE772) (fun k_ hs_ => (fun e_ => Kd.R_base HO_7.out k_ e_.symm) hs_)); (case side3 => exact HC0_1.out); (case side4 => exact Kd.R_tight rfl HO_7.out); rintro e w13 ⟨rfl, hy0, hb, hkp⟩; refine ⟨_, rfl, ?_⟩; replace BK772 := Aside0.mk (blk_kept (Bz BK772) hkp (fun hs_ => (fun e_ => (Kd.R_ne HO_7.out BK772.out (by decide)) e_) hs_)); replace HO_7 := Aside0.mk (Kd.R_reok rfl hy0 (fun k_ e_ => HO_7.out.1 k_ e_)); replace HB := Aside0.mk (hb); (try clear hb); (try clear hkp); (try clear hy0)))
      go_roundg k1
      case measure => have := HK1.out; omega
      case rel => exact ⟨(t777), (wrap64 (x14_1 + 1)), eqA, H', ⟨by have := HK1.out; omega⟩, ⟨by exact Rz HO_7⟩, ⟨by exact Bz BK772⟩, ⟨by exact Lz1 HB GE772⟩⟩
     rw [if_neg c9] at H
     exact absurd H (by simp)
    rw [if_neg c8] at H
    exact absurd H (by simp)
   rw [if_neg c7] at H
   have c7b0 : decide (x14_1 < (l2.length : Int)) = false := decide_eq_false c7
   clear c7
   obtain rfl := Option.some.inj H
   go_wp2
   go_ret
   exact ⟨_, by first | rfl | (simp [errW_none, errW_some] <;> rfl) | (simp [*, errW_none, errW_some] <;> rfl), by exact Rz HO_7, by exact Lz1 HB GE772⟩
def impl_FireScript.f (k : Nat) (a0_0 : Int) (l0_1 : List (S67)) (l1 : List Int) (l2 : List Int) : Option (List Int × Bool) := (impl_DivisorOk.f k a0_0 l0_1 l1).bind fun t779 => (if t779 = true then ((impl_ScriptOk.f k a0_0 l0_1 l2).bind fun t780 => (if t780 = true then ((impl_fired.f k a0_0 l0_1 l1 l2).bind fun t781 => (some (t781, true))) else (some (([] : List Int), false)))) else (some (([] : List Int), false)))
set_option maxHeartbeats 8000000 in
set_option maxRecDepth 100000 in
theorem impl_FireScript.calls (k : Nat) (a0_0 : Int) (A0_1 : Option Addr) (c0_1 : Nat) (l0_1 : List (S67)) (A1 : Option Addr) (c1 : Nat) (l1 : List Int) (A2 : Option Addr) (c2 : Nat) (l2 : List Int) (r1 : List Int) (r2 : Bool) (w : World) (hr0_1 : Kd.C k67 w A0_1 l0_1.length l0_1) (hc0_1 : l0_1.length ≤ c0_1) (hr1 : Kd.C (Kd.int .i64) w A1 l1.length l1) (hc1 : l1.length ≤ c1) (hr2 : Kd.C (Kd.int .i64) w A2 l2.length l2) (hc2 : l2.length ≤ c2) (h : impl_FireScript.f k a0_0 l0_1 l1 l2 = some (r1, r2)) :
  Calls Try.prog 27 #[.agg #[.int .i64 a0_0, .slice A0_1 l0_1.length c0_1], .slice A1 l1.length c1, .slice A2 l2.length c2] w fun e w' => ∃ v0_ : Value, e = .returned (.tuple #[v0_, .bool r2]) ∧ Kd.R (Kd.int .i64) 3 w' w.heap.size (fun _ => True) v0_ r1 ∧ Below w.heap.size w w' := by
 have hu31 := Try.underlying31
 have HR0_1 := Aside0.mk hr0_1
 have HC0_1 := Aside0.mk hc0_1
 clear hr0_1 hc0_1
 have HR1 := Aside0.mk hr1
 have HC1 := Aside0.mk hc1
 clear hr1 hc1
 have HR2 := Aside0.mk hr2
 have HC2 := Aside0.mk hc2
 clear hr2 hc2
 have HB := Aside0.mk (Below.refl w.heap.size w)
 have H : ((impl_DivisorOk.f k a0_0 l0_1 l1).bind fun t779 => (if t779 = true then ((impl_ScriptOk.f k a0_0 l0_1 l2).bind fun t780 => (if t780 = true then ((impl_fired.f k a0_0 l0_1 l1 l2).bind fun t781 => (some (t781, true))) else (some (([] : List Int), false)))) else (some (([] : List Int), false)))) = some (r1, r2) := h
 clear h
 replace H := Option.bind_eq_some_iff.mp H
 obtain ⟨t779, A40, H⟩ := H
 replace H : (if t779 = true then ((impl_ScriptOk.f k a0_0 l0_1 l2).bind fun t780 => (if t780 = true then ((impl_fired.f k a0_0 l0_1 l1 l2).bind fun t781 => (some (t781, true))) else (some (([] : List Int), false)))) else (some (([] : List Int), false))) = some (r1, r2) := H
 have A4 := Aside0.mk A40
 clear A40
 by_cases c5 : t779 = true
 ·subst c5
  have H1 : ((impl_ScriptOk.f k a0_0 l0_1 l2).bind fun t780 => (if t780 = true then ((impl_fired.f k a0_0 l0_1 l1 l2).bind fun t781 => (some (t781, true))) else (some (([] : List Int), false)))) = some (r1, r2) := by rw [if_pos rfl] at H; exact H
  clear H
  have H := H1
  clear H1
  replace H := Option.bind_eq_some_iff.mp H
  obtain ⟨t780, A60, H⟩ := H
  replace H : (if t780 = true then ((impl_fired.f k a0_0 l0_1 l1 l2).bind fun t781 => (some (t781, true))) else (some (([] : List Int), false))) = some (r1, r2) := H
  have A6 := Aside0.mk A60
  clear A60
  by_cases c7 : t780 = true
  ·subst c7
   have H1 : ((impl_fired.f k a0_0 l0_1 l1 l2).bind fun t781 => (some (t781, true))) = some (r1, r2) := by rw [if_pos rfl] at H; exact H
   clear H
   have H := H1
   clear H1
   replace H := Option.bind_eq_some_iff.mp H
   obtain ⟨t781, A80, H⟩ := H
   replace H : (some (t781, true)) = some (r1, r2) := H
   have A8 := Aside0.mk A80
   clear A80
   simp only [Option.some.injEq, Prod.mk.injEq] at H
   obtain ⟨rfl, rfl⟩ := H
   go_enter Try.func27, Try.ntmps27
   go_wp2_with (first | ((with_reducible refine gate_dst (N := 3) rfl ?_); refine box_event ?hg (N := 3) ?hd (cs := #[.int .i64 a0_0, .slice A0_1 l0_1.length c0_1]) (t := 31) ?hr ?_; (case hd => rfl); (case hg => rfl); (case hr => first | (go_simp; done) | (go_simp; rfl)); intro gb778 hg w9 hbox hb; have BK778 := Aside0.mk (hbox); have GW778 := Aside0.mk ((by rw [hg]; exact (below_size (Lz HB)) : w.heap.size ≤ gb778)); have GE778 := Aside0.mk ((by rw [hg]; exact (below_size (Lz HB)) : w.heap.size ≤ gb778)); replace HB := Aside0.mk (below_step (Lz HB) hb); clear hb hbox hg; have hcz10_0 : w9.cell? ⟨gb778, 0, none⟩ = some (.int .i64 a0_0) := (blk_cell BK778.out 0).trans rfl; have hcz10_1 : w9.cell? ⟨gb778, 1, none⟩ = some (.slice A0_1 l0_1.length c0_1) := (blk_cell BK778.out 1).trans rfl; have hfz10_0 := blk_frozen BK778.out 0; have hfz10_1 := blk_frozen BK778.out 1) | ((with_reducible refine gate_callee (f := 71) rfl ?_); refine goesM_ (some 10) rfl rfl Try.func71 (by kernel_rfl) rfl #[.agg #[.int .i64 a0_0, .slice A0_1 l0_1.length c0_1], .slice A1 l1.length c1] rfl ?_; (with_reducible refine (impl_DivisorOk.calls k a0_0 _ _ l0_1 _ _ l1 true _ ?side1 ?side2 ?side3 ?side4 A4.out).mono ?_); (case side1 => exact Cz ((Kd.C_below HR0_1.out HB.out))); (case side2 => exact HC0_1.out); (case side3 => exact Cz ((Kd.C_below HR1.out HB.out))); (case side4 => exact HC1.out); rintro e w11 ⟨rfl, hb⟩; refine ⟨_, rfl, ?_⟩; replace BK778 := Aside0.mk (blk_below (g := gb778) (o := .cells #[.int .i64 a0_0, .slice A0_1 l0_1.length c0_1] 31 (0, 0)) (Bz BK778) hb); replace HB := Aside0.mk (below_step (by exact Lz1 HB GE778) hb); (try clear hb); (try clear hb2); (try clear hk); (try clear hi); have hcz12_0 : w11.cell? ⟨gb778, 0, none⟩ = some (.int .i64 a0_0) := (blk_cell BK778.out 0).trans rfl; have hcz12_1 : w11.cell? ⟨gb778, 1, none⟩ = some (.slice A0_1 l0_1.length c0_1) := (blk_cell BK778.out 1).trans rfl; have hfz12_0 := blk_frozen BK778.out 0; have hfz12_1 := blk_frozen BK778.out 1) | (go_at_call 40; (with_reducible refine (impl_ScriptOk.calls k a0_0 _ _ l0_1 _ _ l2 true _ ?side1 ?side2 ?side3 ?side4 A6.out).mono ?_); (case side1 => exact Cz ((Kd.C_below HR0_1.out HB.out))); (case side2 => exact HC0_1.out); (case side3 => exact Cz ((Kd.C_below HR2.out HB.out))); (case side4 => exact HC2.out); rintro e w13 ⟨rfl, hb⟩; replace BK778 := Aside0.mk (blk_below (g := gb778) (o := .cells #[.int .i64 a0_0, .slice A0_1 l0_1.length c0_1] 31 (0, 0)) (Bz BK778) hb); replace HB := Aside0.mk (below_step (by exact Lz1 HB GE778) hb); (try clear hb); (try clear hb2); (try clear hk); (try clear hi); have hcz14_0 : w13.cell? ⟨gb778, 0, none⟩ = some (.int .i64 a0_0) := (blk_cell BK778.out 0).trans rfl; have hcz14_1 : w13.cell? ⟨gb778, 1, none⟩ = some (.slice A0_1 l0_1.length c0_1) := (blk_cell BK778.out 1).trans rfl; have hfz14_0 := blk_frozen BK778.out 0; have hfz14_1 := blk_frozen BK778.out 1) | ((with_reducible refine gate_callee (f := 73) rfl ?_); refine goesM_ (some 21) rfl rfl Try.func73 (by kernel_rfl) rfl #[.agg #[.int .i64 a0_0, .slice A0_1 l0_1.length c0_1], .slice A1 l1.length c1, .slice A2 l2.length c2] rfl ?_; (with_reducible refine (impl_fired.calls k a0_0 _ _ l0_1 _ _ l1 _ _ l2 t781 _ ?side1 ?side2 ?side3 ?side4 ?side5 ?side6 A8.out).mono ?_); (case side1 => exact Cz ((Kd.C_below HR0_1.out HB.out))); (case side2 => exact HC0_1.out); (case side3 => exact Cz ((Kd.C_below HR1.out HB.out))); (case side4 => exact HC1.out); (case side5 => exact Cz ((Kd.C_below HR2.out HB.out))); (case side6 => exact HC2.out); rintro e w15 ⟨v782, rfl, ho0, hb⟩; refine ⟨_, rfl, ?_⟩; have HO783 := Aside0.mk (Kd.R_lower ho0 (below_size (by exact Lz1 HB GE778))); replace BK778 := Aside0.mk (blk_below (g := gb778) (o := .cells #[.int .i64 a0_0, .slice A0_1 l0_1.length c0_1] 31 (0, 0)) (Bz BK778) hb); replace HB := Aside0.mk (below_step (by exact Lz1 HB GE778) hb); (try clear hb); (try clear ho0)))
   go_ret2
   exact ⟨_, by first | rfl | (simp [errW_none, errW_some] <;> rfl) | (simp [*, errW_none, errW_some] <;> rfl), by exact Rz HO783, by exact Lz1 HB GE778⟩
  replace c7 := Bool.eq_false_iff.mpr c7
  subst c7
  have H1 : (some (([] : List Int), false)) = some (r1, r2) := by rw [if_neg (show ¬ (false = true) by decide)] at H; exact H
  clear H
  have H := H1
  clear H1
  simp only [Option.some.injEq, Prod.mk.injEq] at H
  obtain ⟨rfl, rfl⟩ := H
  go_enter Try.func27, Try.ntmps27
  go_wp2_with (first | ((with_reducible refine gate_dst (N := 3) rfl ?_); refine box_event ?hg (N := 3) ?hd (cs := #[.int .i64 a0_0, .slice A0_1 l0_1.length c0_1]) (t := 31) ?hr ?_; (case hd => rfl); (case hg => rfl); (case hr => first | (go_simp; done) | (go_simp; rfl)); intro gb778 hg w16 hbox hb; have BK778 := Aside0.mk (hbox); have GW778 := Aside0.mk ((by rw [hg]; exact (below_size (Lz HB)) : w.heap.size ≤ gb778)); have GE778 := Aside0.mk ((by rw [hg]; exact (below_size (Lz HB)) : w.heap.size ≤ gb778)); replace HB := Aside0.mk (below_step (Lz HB) hb); clear hb hbox hg; have hcz17_0 : w16.cell? ⟨gb778, 0, none⟩ = some (.int .i64 a0_0) := (blk_cell BK778.out 0).trans rfl; have hcz17_1 : w16.cell? ⟨gb778, 1, none⟩ = some (.slice A0_1 l0_1.length c0_1) := (blk_cell BK778.out 1).trans rfl; have hfz17_0 := blk_frozen BK778.out 0; have hfz17_1 := blk_frozen BK778.out 1) | ((with_reducible refine gate_callee (f := 71) rfl ?_); refine goesM_ (some 10) rfl rfl Try.func71 (by kernel_rfl) rfl #[.agg #[.int .i64 a0_0, .slice A0_1 l0_1.length c0_1], .slice A1 l1.length c1] rfl ?_; (with_reducible refine (impl_DivisorOk.calls k a0_0 _ _ l0_1 _ _ l1 true _ ?side1 ?side2 ?side3 ?side4 A4.out).mono ?_); (case side1 => exact Cz ((Kd.C_below HR0_1.out HB.out))); (case side2 => exact HC0_1.out); (case side3 => exact Cz ((Kd.C_below HR1.out HB.out))); (case side4 => exact HC1.out); rintro e w18 ⟨rfl, hb⟩; refine ⟨_, rfl, ?_⟩; replace BK778 := Aside0.mk (blk_below (g := gb778) (o := .cells #[.int .i64 a0_0, .slice A0_1 l0_1.length c0_1] 31 (0, 0)) (Bz BK778) hb); replace HB := Aside0.mk (below_step (by exact Lz1 HB GE778) hb); (try clear hb); (try clear hb2); (try clear hk); (try clear hi); have hcz19_0 : w18.cell? ⟨gb778, 0, none⟩ = some (.int .i64 a0_0) := (blk_cell BK778.out 0).trans rfl; have hcz19_1 : w18.cell? ⟨gb778, 1, none⟩ = some (.slice A0_1 l0_1.length c0_1) := (blk_cell BK778.out 1).trans rfl; have hfz19_0 := blk_frozen BK778.out 0; have hfz19_1 := blk_frozen BK778.out 1) | (go_at_call 40; (with_reducible refine (impl_ScriptOk.calls k a0_0 _ _ l0_1 _ _ l2 false _ ?side1 ?side2 ?side3 ?side4 A6.out).mono ?_); (case side1 => exact Cz ((Kd.C_below HR0_1.out HB.out))); (case side2 => exact HC0_1.out); (case side3 => exact Cz ((Kd.C_below HR2.out HB.out))); (case side4 => exact HC2.out); rintro e w20 ⟨rfl, hb⟩; replace BK778 := Aside0.mk (blk_below (g := gb778) (o := .cells #[.int .i64 a0_0, .slice A0_1 l0_1.length c0_1] 31 (0, 0)) (Bz BK778) hb); replace HB := Aside0.mk (below_step (by exact Lz1 HB GE778) hb); (try clear hb); (try clear hb2); (try clear hk); (try clear hi)))
  go_ret2
  exact ⟨_, by first | rfl | (simp [errW_none, errW_some] <;> rfl) | (simp [*, errW_none, errW_some] <;> rfl), by first | exact Kd.R_nil _ _ _ _ _ | exact Kd.N_nil _ _ _ _ _ | exact Kd.V_nil _ _ _ _ _ | exact Kd.Q_nil _ _ _ _ _ | exact Kd.S_nil _ _ _ _ _, by exact Lz1 HB GE778⟩
 replace c5 := Bool.eq_false_iff.mpr c5
 subst c5
 have H1 : (some (([] : List Int), false)) = some (r1, r2) := by rw [if_neg (show ¬ (false = true) by decide)] at H; exact H
 clear H
 have H := H1
 clear H1
 simp only [Option.some.injEq, Prod.mk.injEq] at H
 obtain ⟨rfl, rfl⟩ := H
 go_enter Try.func27, Try.ntmps27
 go_wp2_with (first | ((with_reducible refine gate_dst (N := 3) rfl ?_); refine box_event ?hg (N := 3) ?hd (cs := #[.int .i64 a0_0, .slice A0_1 l0_1.length c0_1]) (t := 31) ?hr ?_; (case hd => rfl); (case hg => rfl); (case hr => first | (go_simp; done) | (go_simp; rfl)); intro gb778 hg w21 hbox hb; have BK778 := Aside0.mk (hbox); have GW778 := Aside0.mk ((by rw [hg]; exact (below_size (Lz HB)) : w.heap.size ≤ gb778)); have GE778 := Aside0.mk ((by rw [hg]; exact (below_size (Lz HB)) : w.heap.size ≤ gb778)); replace HB := Aside0.mk (below_step (Lz HB) hb); clear hb hbox hg; have hcz22_0 : w21.cell? ⟨gb778, 0, none⟩ = some (.int .i64 a0_0) := (blk_cell BK778.out 0).trans rfl; have hcz22_1 : w21.cell? ⟨gb778, 1, none⟩ = some (.slice A0_1 l0_1.length c0_1) := (blk_cell BK778.out 1).trans rfl; have hfz22_0 := blk_frozen BK778.out 0; have hfz22_1 := blk_frozen BK778.out 1) | ((with_reducible refine gate_callee (f := 71) rfl ?_); refine goesM_ (some 10) rfl rfl Try.func71 (by kernel_rfl) rfl #[.agg #[.int .i64 a0_0, .slice A0_1 l0_1.length c0_1], .slice A1 l1.length c1] rfl ?_; (with_reducible refine (impl_DivisorOk.calls k a0_0 _ _ l0_1 _ _ l1 false _ ?side1 ?side2 ?side3 ?side4 A4.out).mono ?_); (case side1 => exact Cz ((Kd.C_below HR0_1.out HB.out))); (case side2 => exact HC0_1.out); (case side3 => exact Cz ((Kd.C_below HR1.out HB.out))); (case side4 => exact HC1.out); rintro e w23 ⟨rfl, hb⟩; refine ⟨_, rfl, ?_⟩; replace BK778 := Aside0.mk (blk_below (g := gb778) (o := .cells #[.int .i64 a0_0, .slice A0_1 l0_1.length c0_1] 31 (0, 0)) (Bz BK778) hb); replace HB := Aside0.mk (below_step (by exact Lz1 HB GE778) hb); (try clear hb); (try clear hb2); (try clear hk); (try clear hi)))
 go_ret2
 exact ⟨_, by first | rfl | (simp [errW_none, errW_some] <;> rfl) | (simp [*, errW_none, errW_some] <;> rfl), by first | exact Kd.R_nil _ _ _ _ _ | exact Kd.N_nil _ _ _ _ _ | exact Kd.V_nil _ _ _ _ _ | exact Kd.Q_nil _ _ _ _ _ | exact Kd.S_nil _ _ _ _ _, by exact Lz1 HB GE778⟩
def laws_same.l0 : Nat → List Int → List Int → Int → Int → Option (Bool)
 | 0, _, _, _, _ => none
 | k + 1, x1, x12, x13, x14 => if x14 < x13 then (if 0 ≤ x14 then (if x14 < (x12.length : Int) then (if x14 < (x1.length : Int) then (if (rd x12 x14) = (rd x1 x14) then (laws_same.l0 k x1 x12 x13 (wrap64 (x14 + 1))) else (some false)) else (none)) else (none)) else (none)) else (some true)
def laws_same.f (k : Nat) (l0 : List Int) (l1 : List Int) : Option (Bool) := if (l0.length : Int) = (l1.length : Int) then (laws_same.l0 k l1 l0 (l0.length : Int) 0) else (some false)
set_option maxHeartbeats 8000000 in
set_option maxRecDepth 100000 in
theorem laws_same.calls (k : Nat) (A0 : Option Addr) (c0 : Nat) (l0 : List Int) (A1 : Option Addr) (c1 : Nat) (l1 : List Int) (r : Bool) (w : World) (hr0 : Kd.C (Kd.int .i64) w A0 l0.length l0) (hc0 : l0.length ≤ c0) (hr1 : Kd.C (Kd.int .i64) w A1 l1.length l1) (hc1 : l1.length ≤ c1) (h : laws_same.f k l0 l1 = some r) :
  Calls Try.prog 28 #[.slice A0 l0.length c0, .slice A1 l1.length c1] w fun e w' => e = .returned (.bool r) ∧ Drawn0 w w' := by
 have HR0 := Aside0.mk hr0
 have HC0 := Aside0.mk hc0
 clear hr0 hc0
 have HR1 := Aside0.mk hr1
 have HC1 := Aside0.mk hc1
 clear hr1 hc1
 have H : (if (l0.length : Int) = (l1.length : Int) then (laws_same.l0 k l1 l0 (l0.length : Int) 0) else (some false)) = some r := h
 clear h
 by_cases c3 : (l0.length : Int) = (l1.length : Int)
 ·rw [if_pos c3] at H
  have c3b0 : ((l0.length : Int) == (l1.length : Int)) = true := beq_iff_eq.mpr c3
  have c3b1 : ((l0.length : Int) != (l1.length : Int)) = false := bne_eq_false_iff_eq.mpr c3
  have c3b2 : (l0.length == l1.length) = true := by first | simpa using c3 | (simp at c3 ⊢; omega)
  clear c3
  have H' := Aside0.mk H
  clear H
  go_enter Try.func28, Try.ntmps28
  go_wp2
  go_loopg [14] k (fun kq v14 w' => ∃ (x14_1 : Int), v14 = .int .i64 x14_1 ∧ Aside0 (laws_same.l0 kq l1 l0 (l0.length : Int) x14_1 = some r) ∧ Aside0 (kq ≤ k) ∧ Drawn0 w w')
  case atStart => exact ⟨(0), eqA, H', ⟨Nat.le_refl _⟩, by repeat (first | exact Drawn0.refl _ | apply Drawn0.step)⟩
  case round =>
   clear H'
   try clear c1
   try clear c3
   try clear c3b0
   try clear c3b1
   try clear c3b2
   obtain ⟨x14_1, rfl, HA, HK1, ⟨m1, rfl⟩⟩ := hrel
   cases gk with
   | zero => exact absurd HA.out (by simp [laws_same.l0])
   | succ k1 =>
    have H := HA.out
    clear HA
    simp only [laws_same.l0] at H
    by_cases c4 : x14_1 < (l0.length : Int)
    ·rw [if_pos c4] at H
     have c4b0 : decide (x14_1 < (l0.length : Int)) = true := decide_eq_true c4
     clear c4
     by_cases c5 : 0 ≤ x14_1
     ·rw [if_pos c5] at H
      have c5b0 : decide (0 ≤ x14_1) = true := decide_eq_true c5
      clear c5
      by_cases c6 : x14_1 < (l0.length : Int)
      ·rw [if_pos c6] at H
       have c6b0 : decide (x14_1 < (l0.length : Int)) = true := decide_eq_true c6
       clear c6
       by_cases c7 : x14_1 < (l1.length : Int)
       ·rw [if_pos c7] at H
        have c7b0 : decide (x14_1 < (l1.length : Int)) = true := decide_eq_true c7
        clear c7
        by_cases c8 : (rd l0 x14_1) = (rd l1 x14_1)
        ·rw [if_pos c8] at H
         have c8b0 : ((rd l0 x14_1) == (rd l1 x14_1)) = true := beq_iff_eq.mpr c8
         have c8b1 : ((rd l0 x14_1) != (rd l1 x14_1)) = false := bne_eq_false_iff_eq.mpr c8
         clear c8
         have H' := Aside0.mk H
         clear H
         have p784 : 0 ≤ (x14_1 : Int) := ofA
         have q784 : x14_1 < (l0.length : Int) := ofA
         obtain ⟨ad784, e784, hx784_0⟩ := Kd.at_int HR0.out x14_1 p784 q784
         cases e784
         replace p784 := eq_true p784
         replace q784 := eq_true q784
         have p785 : 0 ≤ (x14_1 : Int) := ofA
         have q785 : x14_1 < (l1.length : Int) := ofA
         obtain ⟨ad785, e785, hx785_0⟩ := Kd.at_int HR1.out x14_1 p785 q785
         cases e785
         replace p785 := eq_true p785
         replace q785 := eq_true q785
         go_wp2
         go_roundg k1
         case measure => have := HK1.out; omega
         case rel => exact ⟨(wrap64 (x14_1 + 1)), eqA, H', ⟨by have := HK1.out; omega⟩, by repeat (first | exact Drawn0.refl _ | apply Drawn0.step)⟩
        rw [if_neg c8] at H
        have c8b0 : ((rd l0 x14_1) == (rd l1 x14_1)) = false := beq_eq_false_iff_ne.mpr c8
        have c8b1 : ((rd l0 x14_1) != (rd l1 x14_1)) = true := bne_iff_ne.mpr c8
        obtain rfl := Option.some.inj H
        have p784 : 0 ≤ (x14_1 : Int) := ofA
        have q784 : x14_1 < (l0.length : Int) := ofA
        obtain ⟨ad784, e784, hx784_0⟩ := Kd.at_int HR0.out x14_1 p784 q784
        cases e784
        replace p784 := eq_true p784
        replace q784 := eq_true q784
        have p785 : 0 ≤ (x14_1 : Int) := ofA
        have q785 : x14_1 < (l1.length : Int) := ofA
        obtain ⟨ad785, e785, hx785_0⟩ := Kd.at_int HR1.out x14_1 p785 q785
        cases e785
        replace p785 := eq_true p785
        replace q785 := eq_true q785
        go_wp2
        go_ret
        exact ⟨eqA, by repeat (first | exact Drawn0.refl _ | apply Drawn0.step)⟩
       rw [if_neg c7] at H
       exact absurd H (by simp)
      rw [if_neg c6] at H
      exact absurd H (by simp)
     rw [if_neg c5] at H
     exact absurd H (by simp)
    rw [if_neg c4] at H
    have c4b0 : decide (x14_1 < (l0.length : Int)) = false := decide_eq_false c4
    clear c4
    obtain rfl := Option.some.inj H
    go_wp2
    go_ret
    exact ⟨eqA, by repeat (first | exact Drawn0.refl _ | apply Drawn0.step)⟩
 rw [if_neg c3] at H
 have c3b0 : ((l0.length : Int) == (l1.length : Int)) = false := beq_eq_false_iff_ne.mpr c3
 have c3b1 : ((l0.length : Int) != (l1.length : Int)) = true := bne_iff_ne.mpr c3
 have c3b2 : (l0.length == l1.length) = false := by first | simpa using c3 | (simp at c3 ⊢; omega)
 obtain rfl := Option.some.inj H
 go_enter Try.func28, Try.ntmps28
 go_wp2
 go_ret
 exact ⟨eqA, by repeat (first | exact Drawn0.refl _ | apply Drawn0.step)⟩
def spec_MakeScript.l0 : Nat → List Int → Int → Int → List (S67) → List Int → Int → Int → Option (List Int)
 | 0, _, _, _, _, _, _, _ => none
 | k + 1, x8, x9, x799000, x799001, x803000, x803001, x803002 => if x9 < x799000 then ((spec_l01Below.f x803000 x803001 x803002 7).bind fun bt806 => (if x8.length < 17592186044416 then (spec_MakeScript.l0 k (x8 ++ [wrap64 (bt806.1 - 3)]) (wrap64 (x9 + 1)) x799000 x799001 x803000 bt806.2.1 bt806.2.2) else (none))) else (some x8)
def spec_MakeScript.f (k : Nat) (l0 : List Int) (a1 : Int) (a2_0 : Int) (l2_1 : List (S67)) : Option (List Int) := (spec_l21New.f k l0 a1).bind fun bt799 => (spec_MakeScript.l0 k (([] : List Int)) 0 a2_0 l2_1 bt799.1 bt799.2.1 bt799.2.2)
set_option maxHeartbeats 8000000 in
set_option maxRecDepth 100000 in
theorem spec_MakeScript.calls (k : Nat) (A0 : Option Addr) (c0 : Nat) (l0 : List Int) (a1 : Int) (a2_0 : Int) (A2_1 : Option Addr) (c2_1 : Nat) (l2_1 : List (S67)) (r : List Int) (w : World) (hr0 : Kd.C (Kd.int .u8) w A0 l0.length l0) (hc0 : l0.length ≤ c0) (hr2_1 : Kd.C k67 w A2_1 l2_1.length l2_1) (hc2_1 : l2_1.length ≤ c2_1) (h : spec_MakeScript.f k l0 a1 a2_0 l2_1 = some r) :
  Calls Try.prog 30 #[.slice A0 l0.length c0, .int .i64 a1, .agg #[.int .i64 a2_0, .slice A2_1 l2_1.length c2_1]] w fun e w' => ∃ v0_ : Value, e = .returned (v0_) ∧ Kd.R (Kd.int .i64) 3 w' w.heap.size (fun _ => True) v0_ r ∧ Below w.heap.size w w' := by
 have hu31 := Try.underlying31
 have HR0 := Aside0.mk hr0
 have HC0 := Aside0.mk hc0
 clear hr0 hc0
 have HR2_1 := Aside0.mk hr2_1
 have HC2_1 := Aside0.mk hc2_1
 clear hr2_1 hc2_1
 have HB := Aside0.mk (Below.refl w.heap.size w)
 have H : ((spec_l21New.f k l0 a1).bind fun bt799 => (spec_MakeScript.l0 k (([] : List Int)) 0 a2_0 l2_1 bt799.1 bt799.2.1 bt799.2.2)) = some r := h
 clear h
 replace H := Option.bind_eq_some_iff.mp H
 obtain ⟨⟨t799, t800, t801⟩, A40, H⟩ := H
 replace H : (spec_MakeScript.l0 k (([] : List Int)) 0 a2_0 l2_1 t799 t800 t801) = some r := H
 have A4 := Aside0.mk A40
 clear A40
 obtain ⟨y803, hy803⟩ : ∃ y_ : List Int, y_ = (([] : List Int)) := ⟨_, rfl⟩
 replace H : (spec_MakeScript.l0 k y803 0 a2_0 l2_1 t799 t800 t801) = some r := by first | (rw [hy803]; with_reducible exact H) | (have H2_ := (Option.bind_some _ _).symm.trans H; rw [hy803]; with_reducible exact H2_) | (have H2_ := (Option.bind_some _ _).symm.trans H; with_reducible exact H2_) | with_reducible exact H | (rw [hy803]; exact H) | exact H
 have Ny803 := Aside0.mk hy803
 clear hy803
 have H' := Aside0.mk H
 clear H
 go_enter Try.func30, Try.ntmps30
 go_wp2_with (first | ((with_reducible refine gate_dst (N := 5) rfl ?_); refine box_event ?hg (N := 5) ?hd (cs := #[.int .i64 a2_0, .slice A2_1 l2_1.length c2_1]) (t := 31) ?hr ?_; (case hd => rfl); (case hg => rfl); (case hr => first | (go_simp; done) | (go_simp; rfl)); intro gb798 hg w5 hbox hb; have BK798 := Aside0.mk (hbox); have GW798 := Aside0.mk ((by rw [hg]; exact (below_size (Lz HB)) : w.heap.size ≤ gb798)); have GE798 := Aside0.mk ((by rw [hg]; exact (below_size (Lz HB)) : w.heap.size ≤ gb798)); replace HB := Aside0.mk (below_step (Lz HB) hb); clear hb hbox hg) | ((with_reducible refine gate_callee (f := 69) rfl ?_); refine goesM_ (some 12) rfl rfl Try.func69 (by kernel_rfl) rfl #[.slice A0 l0.length c0, .int .i64 a1] rfl ?_; (with_reducible refine (spec_l21New.calls k _ _ l0 a1 t799 t800 t801 w _ ?side1 ?side2 ?side3 A4.out).mono ?_); (case side1 => exact Lz1 HB GE798); (case side2 => exact HR0.out); (case side3 => exact HC0.out); rintro e w6 ⟨g802, rfl, hi, hb, hb2⟩; refine ⟨_, rfl, ?_⟩; replace HB := Aside0.mk (hb); have HI802 := Aside0.mk (hi); have NB802_798 := Aside0.mk (IsS101.ne_blk hi (blk_below (g := gb798) (o := .cells #[.int .i64 a2_0, .slice A2_1 l2_1.length c2_1] 31 (0, 0)) (Bz BK798) hb2) (by decide)); have NB798_802 := Aside0.mk (Ne.symm (IsS101.ne_blk hi (blk_below (g := gb798) (o := .cells #[.int .i64 a2_0, .slice A2_1 l2_1.length c2_1] 31 (0, 0)) (Bz BK798) hb2) (by decide))); replace BK798 := Aside0.mk (blk_below (g := gb798) (o := .cells #[.int .i64 a2_0, .slice A2_1 l2_1.length c2_1] 31 (0, 0)) (Bz BK798) hb2); (try clear hb); (try clear hb2); (try clear hk); (try clear hi)) | ((with_reducible refine gate_dst (N := 13) rfl ?_); refine Kd.R_lit (Kd.int .i64) _ 3 ?hg (N := 13) ?hd (xs := ([] : List Int)) (inner := []) (ok := fun _ => True) (okp := fun _ => True) ?hr ?hp (fun _ hk => hk) trivial (Below.refl _ _) (Nat.le_refl _) (by simp) ?_; (case hd => rfl); (case hg => rfl); (case hr => first | (go_simp; done) | (go_simp; rfl)); (case hp => exact (Reps.none _ _)); intro v804 w7 ho8 hb hg_ hnew_; clear hg_ hnew_; (first | rw [← Ny803.out] at ho8 | (simp only [Int.reduceToNat] at ho8; rw [← Ny803.out] at ho8)); have HO805 := Aside0.mk (Kd.R_lower ho8 (below_size (by repeat (first | (with_reducible first | exact HB.out | apply below_alloc | apply pw_below_drewN | apply below_drew1 | refine below_set ?_ (IsS101.ge HI802.out) | refine below_set ?_ GE798.out) | exact HB.out)))); replace BK798 := Aside0.mk (blk_below (g := gb798) (o := .cells #[.int .i64 a2_0, .slice A2_1 l2_1.length c2_1] 31 (0, 0)) (Bz BK798) hb); replace HB := Aside0.mk (below_step (by repeat (first | (with_reducible first | exact HB.out | apply below_alloc | apply pw_below_drewN | apply below_drew1 | refine below_set ?_ (IsS101.ge HI802.out) | refine below_set ?_ GE798.out) | exact HB.out)) hb); replace HI802 := Aside0.mk (IsS101.below (by repeat (first | (with_reducible first | exact HI802.out | apply IsS101.alloc | apply IsS101.drewN | apply IsS101.drew | apply IsS101.set_1 | apply IsS101.set_2 | refine IsS101.far ?_ NB802_798.out _) | exact HI802.out)) hb); clear hb ho8))
 go_loopg [8, 9] k (fun kq v8 v9 w' => ∃ (x8_1 : List Int) (x9_1 : Int) (x803001_1 : Int) (x803002_1 : Int), v9 = .int .i64 x9_1 ∧ Aside0 (spec_MakeScript.l0 kq x8_1 x9_1 a2_0 l2_1 t799 x803001_1 x803002_1 = some r) ∧ Aside0 (kq ≤ k) ∧ Aside0 (Kd.R (Kd.int .i64) 3 w' w.heap.size (fun _ => True) v8 x8_1) ∧ Aside0 (w'.heap[gb798]? = some (.cells #[.int .i64 a2_0, (.slice A2_1 l2_1.length c2_1)] 31 (0, 0))) ∧ Aside0 (IsS101 w w' g802 t799 x803001_1 x803002_1) ∧ Aside0 (Below w.heap.size w w'))
 case atStart => exact ⟨(y803), (0), (t800), (t801), eqA, H', ⟨Nat.le_refl _⟩, ⟨by exact Rz HO805⟩, ⟨by exact Bz BK798⟩, ⟨by repeat (first | (with_reducible first | exact HI802.out | apply IsS101.alloc | apply IsS101.drewN | apply IsS101.drew | apply IsS101.set_1 | apply IsS101.set_2 | refine IsS101.far ?_ NB802_798.out _) | exact HI802.out)⟩, ⟨by repeat (first | (with_reducible first | exact HB.out | apply below_alloc | apply pw_below_drewN | apply below_drew1 | refine below_set ?_ (IsS101.ge HI802.out) | refine below_set ?_ GE798.out) | exact HB.out)⟩⟩
 case round =>
  clear H'
  obtain ⟨x8_1, x9_1, x803001_1, x803002_1, rfl, HA, HK1, HO_8, BK798, HI802, HB⟩ := hrel
  cases gk with
  | zero => exact absurd HA.out (by simp [spec_MakeScript.l0])
  | succ k1 =>
   have H := HA.out
   clear HA
   simp only [spec_MakeScript.l0] at H
   by_cases c9 : x9_1 < a2_0
   ·rw [if_pos c9] at H
    have c9b0 : decide (x9_1 < a2_0) = true := decide_eq_true c9
    clear c9
    replace H := Option.bind_eq_some_iff.mp H
    obtain ⟨⟨t806, t807, t808⟩, A100, H⟩ := H
    replace H : (if x8_1.length < 17592186044416 then (spec_MakeScript.l0 k1 (x8_1 ++ [wrap64 (t806 - 3)]) (wrap64 (x9_1 + 1)) a2_0 l2_1 t799 t807 t808) else (none)) = some r := H
    have A10 := Aside0.mk A100
    clear A100
    by_cases c11 : x8_1.length < 17592186044416
    ·rw [if_pos c11] at H
     have LMc11 := Aside0.mk c11
     clear c11
     obtain ⟨y809, hy809⟩ : ∃ y_ : List Int, y_ = (x8_1 ++ [wrap64 (t806 - 3)]) := ⟨_, rfl⟩
     replace H : (spec_MakeScript.l0 k1 y809 (wrap64 (x9_1 + 1)) a2_0 l2_1 t799 t807 t808) = some r := by first | (rw [hy809]; with_reducible exact H) | (have H2_ := (Option.bind_some _ _).symm.trans H; rw [hy809]; with_reducible exact H2_) | (have H2_ := (Option.bind_some _ _).symm.trans H; with_reducible exact H2_) | with_reducible exact H | (rw [hy809]; exact H) | exact H
     have Ny809 := Aside0.mk hy809
     clear hy809
     have H' := Aside0.mk H
     clear H
     have hnb12 := NB798_802.out
     have hnc12 := NB802_798.out
     have hcz13_0 : wr.cell? ⟨gb798, 0, none⟩ = some (.int .i64 a2_0) := (blk_cell BK798.out 0).trans rfl
     have hcz13_1 : wr.cell? ⟨gb798, 1, none⟩ = some (.slice A2_1 l2_1.length c2_1) := (blk_cell BK798.out 1).trans rfl
     have hfz13_0 := blk_frozen BK798.out 0
     have hfz13_1 := blk_frozen BK798.out 1
     go_wp2_with (first | ((with_reducible refine gate_callee (f := 75) rfl ?_); refine goesM_ (some 22) rfl rfl Try.func75 (by kernel_rfl) rfl #[.pointer (some ⟨g802, 0, none⟩), .int .i64 7] rfl ?_; (with_reducible refine (spec_l01Below.calls g802 t799 x803001_1 x803002_1 7 t806 t807 t808 w _ ?side1 ?side2 A10.out).mono ?_); (case side1 => repeat (first | (with_reducible first | exact HI802.out | apply IsS101.alloc | apply IsS101.drewN | apply IsS101.drew | apply IsS101.set_1 | apply IsS101.set_2 | refine IsS101.far ?_ NB802_798.out _) | exact HI802.out)); (case side2 => repeat (first | (with_reducible first | exact HB.out | apply below_alloc | apply pw_below_drewN | apply below_drew1 | refine below_set ?_ (IsS101.ge HI802.out) | refine below_set ?_ GE798.out) | exact HB.out)); rintro e w14 ⟨rfl, hi, hb, hk⟩; refine ⟨_, rfl, ?_⟩; replace HO_8 := Aside0.mk (Kd.R_mono (Kd.R_keep (IsS101.apart (show IsS101 w _ g802 t799 x803001_1 x803002_1 from by repeat (first | (with_reducible first | exact HI802.out | apply IsS101.alloc | apply IsS101.drewN | apply IsS101.drew | apply IsS101.set_1 | apply IsS101.set_2 | refine IsS101.far ?_ NB802_798.out _) | exact HI802.out)) (Rz HO_8) (by decide)) hk (fun _ h => h.2)) (fun _ h => h.1)); replace BK798 := Aside0.mk (KeepBut.blk hk (g' := gb798) (o := .cells #[.int .i64 a2_0, .slice A2_1 l2_1.length c2_1] 31 (0, 0)) (Bz BK798) NB798_802.out (by simp)); replace HB := Aside0.mk (hb); replace HI802 := Aside0.mk (hi); (try clear hb); (try clear hb2); (try clear hk); (try clear hi)) | ((with_reducible refine gate_builtin (b := .append) (xs := #[.tmp 20, .tmp 24]) rfl ?_); at_builtin; refine Kd.R_append (Kd.int .i64) (w0 := w) w.heap.size rfl (.tmp 20) (.tmp 24) 25 3 (.int .i64 0) 8 rfl Try.underlying25 info3 rfl (by decide) (by omega) u8 x8_1 (wrap64 (t806 - 3)) [.int .i64 (wrap64 (t806 - 3))] (fun _ => True) (fun _ => False) rfl rfl ?aP (fun _ hk => hk.elim) ?aF ?aO ?aB ?aS ?aL ?_; (case aP => exact rfl); (case aB => exact (by repeat (first | (with_reducible first | exact HB.out | apply below_alloc | apply pw_below_drewN | apply below_drew1 | refine below_set ?_ (IsS101.ge HI802.out) | refine below_set ?_ GE798.out) | exact HB.out))); (case aF => exact (fun _ _ => trivial)); (case aO => exact (Rz HO_8)); (case aS => exact (below_size (by repeat (first | (with_reducible first | exact HB.out | apply below_alloc | apply pw_below_drewN | apply below_drew1 | refine below_set ?_ (IsS101.ge HI802.out) | refine below_set ?_ GE798.out) | exact HB.out)))); (case aL => have := LMc11.out; omega); intro v810 w15 ho hb hg hat; rw [← Ny809.out] at ho; replace BK798 := Aside0.mk (blk_grown (g := gb798) (o := .cells #[.int .i64 a2_0, .slice A2_1 l2_1.length c2_1] 31 (0, 0)) (Bz BK798) hg (Kd.R_ne HO_8.out BK798.out (by decide))); replace HI802 := Aside0.mk (IsS101.grownF HI802.out (by repeat (first | (with_reducible first | exact HI802.out | apply IsS101.alloc | apply IsS101.drewN | apply IsS101.drew | apply IsS101.set_1 | apply IsS101.set_2 | refine IsS101.far ?_ NB802_798.out _) | exact HI802.out)) hg (IsS101.own_ne HI802.out HO_8.out (by decide))); replace HB := Aside0.mk (hb); have HO811 := Aside0.mk (ho); clear HO_8; clear ho hb hg hat))
     go_roundg k1
     case measure => have := HK1.out; omega
     case rel => exact ⟨(y809), (wrap64 (x9_1 + 1)), (t807), (t808), eqA, H', ⟨by have := HK1.out; omega⟩, ⟨by exact Rz HO811⟩, ⟨by exact Bz BK798⟩, ⟨by repeat (first | (with_reducible first | exact HI802.out | apply IsS101.alloc | apply IsS101.drewN | apply IsS101.drew | apply IsS101.set_1 | apply IsS101.set_2 | refine IsS101.far ?_ NB802_798.out _) | exact HI802.out)⟩, ⟨by repeat (first | (with_reducible first | exact HB.out | apply below_alloc | apply pw_below_drewN | apply below_drew1 | refine below_set ?_ (IsS101.ge HI802.out) | refine below_set ?_ GE798.out) | exact HB.out)⟩⟩
    rw [if_neg c11] at H
    exact absurd H (by simp)
   rw [if_neg c9] at H
   have c9b0 : decide (x9_1 < a2_0) = false := decide_eq_false c9
   clear c9
   obtain rfl := Option.some.inj H
   have hnb16 := NB798_802.out
   have hnc16 := NB802_798.out
   have hcz17_0 : wr.cell? ⟨gb798, 0, none⟩ = some (.int .i64 a2_0) := (blk_cell BK798.out 0).trans rfl
   have hcz17_1 : wr.cell? ⟨gb798, 1, none⟩ = some (.slice A2_1 l2_1.length c2_1) := (blk_cell BK798.out 1).trans rfl
   have hfz17_0 := blk_frozen BK798.out 0
   have hfz17_1 := blk_frozen BK798.out 1
   go_wp2
   go_ret
   exact ⟨_, by first | rfl | (simp [errW_none, errW_some] <;> rfl) | (simp [*, errW_none, errW_some] <;> rfl), by exact Rz HO_8, by repeat (first | (with_reducible first | exact HB.out | apply below_alloc | apply pw_below_drewN | apply below_drew1 | refine below_set ?_ (IsS101.ge HI802.out) | refine below_set ?_ GE798.out) | exact HB.out)⟩
def impl_FireSet.l0 : Nat → List Int → List Int → List Int → Int → Int → Int → List (S67) → Option (List Int × Bool)
 | 0, _, _, _, _, _, _, _ => none
 | k + 1, x1, x8, x18, x19, x20, x892000, x892001 => if x20 < x19 then (if 0 ≤ x20 then (if x20 < (x18.length : Int) then ((impl_within.f (rd x18 x20) 0 (wrap64 (x892000 - 1))).bind fun t900 => (if t900 = true then (if 0 ≤ (rd x18 x20) then (if (rd x18 x20) < (x8.length : Int) then (if (rd x8 (rd x18 x20)) = 1 then (some (([] : List Int), false)) else (impl_FireSet.l0 k x1 (x8.set ((rd x18 x20) : Int).toNat 1) x18 x19 (wrap64 (x20 + 1)) x892000 x892001)) else (none)) else (none)) else (some (([] : List Int), false)))) else (none)) else (none)) else ((impl_fired.f k x892000 x892001 x1 x8).bind fun t896 => (some (t896, true)))
def impl_FireSet.f (k : Nat) (a0_0 : Int) (l0_1 : List (S67)) (l1 : List Int) (l2 : List Int) : Option (List Int × Bool) := (impl_DivisorOk.f k a0_0 l0_1 l1).bind fun t892 => (if t892 = true then (if 0 ≤ a0_0 then (if (a0_0 : Int).toNat ≤ 35184372088832 then (impl_FireSet.l0 k l1 (List.replicate (a0_0 : Int).toNat 0) l2 (l2.length : Int) 0 a0_0 l0_1) else (none)) else (none)) else (some (([] : List Int), false)))
set_option maxHeartbeats 8000000 in
set_option maxRecDepth 100000 in
theorem impl_FireSet.calls (k : Nat) (a0_0 : Int) (A0_1 : Option Addr) (c0_1 : Nat) (l0_1 : List (S67)) (A1 : Option Addr) (c1 : Nat) (l1 : List Int) (A2 : Option Addr) (c2 : Nat) (l2 : List Int) (r1 : List Int) (r2 : Bool) (w : World) (hr0_1 : Kd.C k67 w A0_1 l0_1.length l0_1) (hc0_1 : l0_1.length ≤ c0_1) (hr1 : Kd.C (Kd.int .i64) w A1 l1.length l1) (hc1 : l1.length ≤ c1) (hr2 : Kd.C (Kd.int .i64) w A2 l2.length l2) (hc2 : l2.length ≤ c2) (h : impl_FireSet.f k a0_0 l0_1 l1 l2 = some (r1, r2)) :
  Calls Try.prog 41 #[.agg #[.int .i64 a0_0, .slice A0_1 l0_1.length c0_1], .slice A1 l1.length c1, .slice A2 l2.length c2] w fun e w' => ∃ v0_ : Value, e = .returned (.tuple #[v0_, .bool r2]) ∧ Kd.R (Kd.int .i64) 3 w' w.heap.size (fun _ => True) v0_ r1 ∧ Below w.heap.size w w' := by
 have hu31 := Try.underlying31
 have HR0_1 := Aside0.mk hr0_1
 have HC0_1 := Aside0.mk hc0_1
 clear hr0_1 hc0_1
 have HR1 := Aside0.mk hr1
 have HC1 := Aside0.mk hc1
 clear hr1 hc1
 have HR2 := Aside0.mk hr2
 have HC2 := Aside0.mk hc2
 clear hr2 hc2
 have HB := Aside0.mk (Below.refl w.heap.size w)
 have H : ((impl_DivisorOk.f k a0_0 l0_1 l1).bind fun t892 => (if t892 = true then (if 0 ≤ a0_0 then (if (a0_0 : Int).toNat ≤ 35184372088832 then (impl_FireSet.l0 k l1 (List.replicate (a0_0 : Int).toNat 0) l2 (l2.length : Int) 0 a0_0 l0_1) else (none)) else (none)) else (some (([] : List Int), false)))) = some (r1, r2) := h
 clear h
 replace H := Option.bind_eq_some_iff.mp H
 obtain ⟨t892, A40, H⟩ := H
 replace H : (if t892 = true then (if 0 ≤ a0_0 then (if (a0_0 : Int).toNat ≤ 35184372088832 then (impl_FireSet.l0 k l1 (List.replicate (a0_0 : Int).toNat 0) l2 (l2.length : Int) 0 a0_0 l0_1) else (none)) else (none)) else (some (([] : List Int), false))) = some (r1, r2) := H
 have A4 := Aside0.mk A40
 clear A40
 by_cases c5 : t892 = true
 ·subst c5
  have H1 : (if 0 ≤ a0_0 then (if (a0_0 : Int).toNat ≤ 35184372088832 then (impl_FireSet.l0 k l1 (List.replicate (a0_0 : Int).toNat 0) l2 (l2.length : Int) 0 a0_0 l0_1) else (none)) else (none)) = some (r1, r2) := by rw [if_pos rfl] at H; exact H
  clear H
  have H := H1
  clear H1
  by_cases c6 : 0 ≤ a0_0
  ·rw [if_pos c6] at H
   have c6b0 := eq_true c6
   have c6b1 : decide (0 ≤ a0_0) = true := decide_eq_true c6
   clear c6
   by_cases c7 : (a0_0 : Int).toNat ≤ 35184372088832
   ·rw [if_pos c7] at H
    have c7b0 := eq_true c7
    have c7b1 : decide ((a0_0 : Int).toNat ≤ 35184372088832) = true := decide_eq_true c7
    clear c7
    obtain ⟨y893, hy893⟩ : ∃ y_ : List Int, y_ = (List.replicate (a0_0 : Int).toNat 0) := ⟨_, rfl⟩
    replace H : (impl_FireSet.l0 k l1 y893 l2 (l2.length : Int) 0 a0_0 l0_1) = some (r1, r2) := by first | (rw [hy893]; with_reducible exact H) | (have H2_ := (Option.bind_some _ _).symm.trans H; rw [hy893]; with_reducible exact H2_) | (have H2_ := (Option.bind_some _ _).symm.trans H; with_reducible exact H2_) | with_reducible exact H | (rw [hy893]; exact H) | exact H
    have Ny893 := Aside0.mk hy893
    clear hy893
    have H' := Aside0.mk H
    clear H
    go_enter Try.func41, Try.ntmps41
    go_wp2_with (first | ((with_reducible refine gate_dst (N := 3) rfl ?_); refine box_event ?hg (N := 3) ?hd (cs := #[.int .i64 a0_0, .slice A0_1 l0_1.length c0_1]) (t := 31) ?hr ?_; (case hd => rfl); (case hg => rfl); (case hr => first | (go_simp; done) | (go_simp; rfl)); intro gb891 hg w8 hbox hb; have BK891 := Aside0.mk (hbox); have GW891 := Aside0.mk ((by rw [hg]; exact (below_size (Lz HB)) : w.heap.size ≤ gb891)); have GE891 := Aside0.mk ((by rw [hg]; exact (below_size (Lz HB)) : w.heap.size ≤ gb891)); replace HB := Aside0.mk (below_step (Lz HB) hb); clear hb hbox hg; have hcz9_0 : w8.cell? ⟨gb891, 0, none⟩ = some (.int .i64 a0_0) := (blk_cell BK891.out 0).trans rfl; have hcz9_1 : w8.cell? ⟨gb891, 1, none⟩ = some (.slice A0_1 l0_1.length c0_1) := (blk_cell BK891.out 1).trans rfl; have hfz9_0 := blk_frozen BK891.out 0; have hfz9_1 := blk_frozen BK891.out 1) | ((with_reducible refine gate_callee (f := 71) rfl ?_); refine goesM_ (some 13) rfl rfl Try.func71 (by kernel_rfl) rfl #[.agg #[.int .i64 a0_0, .slice A0_1 l0_1.length c0_1], .slice A1 l1.length c1] rfl ?_; (with_reducible refine (impl_DivisorOk.calls k a0_0 _ _ l0_1 _ _ l1 true _ ?side1 ?side2 ?side3 ?side4 A4.out).mono ?_); (case side1 => exact Cz ((Kd.C_below HR0_1.out HB.out))); (case side2 => exact HC0_1.out); (case side3 => exact Cz ((Kd.C_below HR1.out HB.out))); (case side4 => exact HC1.out); rintro e w10 ⟨rfl, hb⟩; refine ⟨_, rfl, ?_⟩; replace BK891 := Aside0.mk (blk_below (g := gb891) (o := .cells #[.int .i64 a0_0, .slice A0_1 l0_1.length c0_1] 31 (0, 0)) (Bz BK891) hb); replace HB := Aside0.mk (below_step (by exact Lz1 HB GE891) hb); (try clear hb); (try clear hb2); (try clear hk); (try clear hi); have hcz11_0 : w10.cell? ⟨gb891, 0, none⟩ = some (.int .i64 a0_0) := (blk_cell BK891.out 0).trans rfl; have hcz11_1 : w10.cell? ⟨gb891, 1, none⟩ = some (.slice A0_1 l0_1.length c0_1) := (blk_cell BK891.out 1).trans rfl; have hfz11_0 := blk_frozen BK891.out 0; have hfz11_1 := blk_frozen BK891.out 1) | ((with_reducible refine gate_dst (N := 17) rfl ?_); refine Kd.R_make (Kd.int .i64) _ 3 rfl (N := 17) rfl 25 _ _ rfl a0_0 rfl rfl Try.underlying25 (.int .i64 0) 8 info3 rfl (by decide) (by omega) 0 (ok := fun _ => True) (okp := fun _ => True) rfl (fun _ hk => hk) trivial (ofA) (Nat.le_trans (Nat.mul_le_mul_right _ (ofA : a0_0.toNat ≤ 35184372088832)) (by omega)) (Below.refl _ _) (Nat.le_refl _) ?_; intro v894 w12 ho13 hb hg_ hnew_; clear hg_ hnew_; (first | rw [← Ny893.out] at ho13 | (simp only [Int.reduceToNat] at ho13; rw [← Ny893.out] at ho13)); have HO895 := Aside0.mk (Kd.R_lower ho13 (below_size (by exact Lz1 HB GE891))); replace BK891 := Aside0.mk (blk_below (g := gb891) (o := .cells #[.int .i64 a0_0, .slice A0_1 l0_1.length c0_1] 31 (0, 0)) (Bz BK891) hb); replace HB := Aside0.mk (below_step (by exact Lz1 HB GE891) hb); clear hb ho13))
    go_loopg [20] k (fun kq v20 w' => ∃ (x8_1 : List Int) (x20_1 : Int), v20 = .int .i64 x20_1 ∧ Aside0 (impl_FireSet.l0 kq l1 x8_1 l2 (l2.length : Int) x20_1 a0_0 l0_1 = some (r1, r2)) ∧ Aside0 (kq ≤ k) ∧ Aside0 (Kd.R (Kd.int .i64) 3 w' w.heap.size (fun _ => True) v894 x8_1) ∧ Aside0 (w'.heap[gb891]? = some (.cells #[.int .i64 a0_0, (.slice A0_1 l0_1.length c0_1)] 31 (0, 0))) ∧ Aside0 (Below w.heap.size w w'))
    case atStart => exact ⟨(y893), (0), eqA, H', ⟨Nat.le_refl _⟩, ⟨by exact Rz HO895⟩, ⟨by exact Bz BK891⟩, ⟨by exact Lz1 HB GE891⟩⟩
    case round =>
     clear H'
     try clear c1
     try clear c2
     try clear c5
     try clear c6
     try clear c6b0
     try clear c6b1
     try clear c7
     try clear c7b0
     try clear c7b1
     obtain ⟨x8_1, x20_1, rfl, HA, HK1, HO_8, BK891, HB⟩ := hrel
     cases gk with
     | zero => exact absurd HA.out (by simp [impl_FireSet.l0])
     | succ k1 =>
      have H := HA.out
      clear HA
      simp only [impl_FireSet.l0] at H
      by_cases c14 : x20_1 < (l2.length : Int)
      ·rw [if_pos c14] at H
       have c14b0 : decide (x20_1 < (l2.length : Int)) = true := decide_eq_true c14
       clear c14
       by_cases c15 : 0 ≤ x20_1
       ·rw [if_pos c15] at H
        have c15b0 : decide (0 ≤ x20_1) = true := decide_eq_true c15
        clear c15
        by_cases c16 : x20_1 < (l2.length : Int)
        ·rw [if_pos c16] at H
         have c16b0 : decide (x20_1 < (l2.length : Int)) = true := decide_eq_true c16
         clear c16
         replace H := Option.bind_eq_some_iff.mp H
         obtain ⟨t900, A170, H⟩ := H
         replace H : (if t900 = true then (if 0 ≤ (rd l2 x20_1) then (if (rd l2 x20_1) < (x8_1.length : Int) then (if (rd x8_1 (rd l2 x20_1)) = 1 then (some (([] : List Int), false)) else (impl_FireSet.l0 k1 l1 (x8_1.set ((rd l2 x20_1) : Int).toNat 1) l2 (l2.length : Int) (wrap64 (x20_1 + 1)) a0_0 l0_1)) else (none)) else (none)) else (some (([] : List Int), false))) = some (r1, r2) := H
         have A17 := Aside0.mk A170
         clear A170
         by_cases c18 : t900 = true
         ·subst c18
          have H1 : (if 0 ≤ (rd l2 x20_1) then (if (rd l2 x20_1) < (x8_1.length : Int) then (if (rd x8_1 (rd l2 x20_1)) = 1 then (some (([] : List Int), false)) else (impl_FireSet.l0 k1 l1 (x8_1.set ((rd l2 x20_1) : Int).toNat 1) l2 (l2.length : Int) (wrap64 (x20_1 + 1)) a0_0 l0_1)) else (none)) else (none)) = some (r1, r2) := by rw [if_pos rfl] at H; exact H
          clear H
          have H := H1
          clear H1
          by_cases c19 : 0 ≤ (rd l2 x20_1)
          ·rw [if_pos c19] at H
           have c19b0 : decide (0 ≤ (rd l2 x20_1)) = true := decide_eq_true c19
           clear c19
           by_cases c20 : (rd l2 x20_1) < (x8_1.length : Int)
           ·rw [if_pos c20] at H
            have c20b0 : decide ((rd l2 x20_1) < (x8_1.length : Int)) = true := decide_eq_true c20
            clear c20
            by_cases c21 : (rd x8_1 (rd l2 x20_1)) = 1
            ·rw [if_pos c21] at H
             have c21b0 : ((rd x8_1 (rd l2 x20_1)) == 1) = true := beq_iff_eq.mpr c21
             have c21b1 : ((rd x8_1 (rd l2 x20_1)) != 1) = false := bne_eq_false_iff_eq.mpr c21
             clear c21
             simp only [Option.some.injEq, Prod.mk.injEq] at H
             obtain ⟨rfl, rfl⟩ := H
             have p899 : 0 ≤ (x20_1 : Int) := ofA
             have q899 : x20_1 < (l2.length : Int) := ofA
             obtain ⟨ad899, e899, hx899_0⟩ := Kd.at_int HR2.out x20_1 p899 q899
             cases e899
             replace hx899_0 := (HB.out.cell (World.block_lt_of_cell? w _ hx899_0)).trans hx899_0
             replace p899 := eq_true p899
             replace q899 := eq_true q899
             have hcz22_0 : wr.cell? ⟨gb891, 0, none⟩ = some (.int .i64 a0_0) := (blk_cell BK891.out 0).trans rfl
             have hcz22_1 : wr.cell? ⟨gb891, 1, none⟩ = some (.slice A0_1 l0_1.length c0_1) := (blk_cell BK891.out 1).trans rfl
             have hfz22_0 := blk_frozen BK891.out 0
             have hfz22_1 := blk_frozen BK891.out 1
             go_wp2_with (first | ((with_reducible refine gate_callee (f := 81) rfl ?_); refine goesM_ (some 28) rfl rfl Try.func81 (by kernel_rfl) rfl #[.int .i64 (rd l2 x20_1), .int .i64 0, .int .i64 (wrap64 (a0_0 - 1))] rfl ?_; (with_reducible refine (impl_within.calls (rd l2 x20_1) 0 (wrap64 (a0_0 - 1)) true _ A17.out).mono ?_); rintro e w' ⟨rfl, ⟨nd, rfl⟩⟩; refine ⟨_, rfl, ?_⟩; obtain ⟨Ao23, co23, eo23⟩ := Kd.R_slice HO_8.out; subst eo23; have p901 : 0 ≤ ((rd l2 x20_1) : Int) := ofA; have q901 : (rd l2 x20_1) < (x8_1.length : Int) := ofA; obtain ⟨ad901, e901, hx901_0⟩ := Kd.at_int (Kd.R_reads' HO_8.out).2.2 (rd l2 x20_1) p901 q901; cases e901; replace p901 := eq_true p901; replace q901 := eq_true q901))
             go_ret2
             exact ⟨_, by first | rfl | (simp [errW_none, errW_some] <;> rfl) | (simp [*, errW_none, errW_some] <;> rfl), by first | exact Kd.R_nil _ _ _ _ _ | exact Kd.N_nil _ _ _ _ _ | exact Kd.V_nil _ _ _ _ _ | exact Kd.Q_nil _ _ _ _ _ | exact Kd.S_nil _ _ _ _ _, by exact Lz1 HB GE891⟩
            rw [if_neg c21] at H
            have c21b0 : ((rd x8_1 (rd l2 x20_1)) == 1) = false := beq_eq_false_iff_ne.mpr c21
            have c21b1 : ((rd x8_1 (rd l2 x20_1)) != 1) = true := bne_iff_ne.mpr c21
            obtain ⟨y902, hy902⟩ : ∃ y_ : List Int, y_ = (x8_1.set ((rd l2 x20_1) : Int).toNat 1) := ⟨_, rfl⟩
            replace H : (impl_FireSet.l0 k1 l1 y902 l2 (l2.length : Int) (wrap64 (x20_1 + 1)) a0_0 l0_1) = some (r1, r2) := by first | (rw [hy902]; with_reducible exact H) | (have H2_ := (Option.bind_some _ _).symm.trans H; rw [hy902]; with_reducible exact H2_) | (have H2_ := (Option.bind_some _ _).symm.trans H; with_reducible exact H2_) | with_reducible exact H | (rw [hy902]; exact H) | exact H
            have Ny902 := Aside0.mk hy902
            clear hy902
            have H' := Aside0.mk H
            clear H
            have p899 : 0 ≤ (x20_1 : Int) := ofA
            have q899 : x20_1 < (l2.length : Int) := ofA
            obtain ⟨ad899, e899, hx899_0⟩ := Kd.at_int HR2.out x20_1 p899 q899
            cases e899
            replace hx899_0 := (HB.out.cell (World.block_lt_of_cell? w _ hx899_0)).trans hx899_0
            replace p899 := eq_true p899
            replace q899 := eq_true q899
            have hcz25_0 : wr.cell? ⟨gb891, 0, none⟩ = some (.int .i64 a0_0) := (blk_cell BK891.out 0).trans rfl
            have hcz25_1 : wr.cell? ⟨gb891, 1, none⟩ = some (.slice A0_1 l0_1.length c0_1) := (blk_cell BK891.out 1).trans rfl
            have hfz25_0 := blk_frozen BK891.out 0
            have hfz25_1 := blk_frozen BK891.out 1
            go_wp2_with (first | ((with_reducible refine gate_callee (f := 81) rfl ?_); refine goesM_ (some 28) rfl rfl Try.func81 (by kernel_rfl) rfl #[.int .i64 (rd l2 x20_1), .int .i64 0, .int .i64 (wrap64 (a0_0 - 1))] rfl ?_; (with_reducible refine (impl_within.calls (rd l2 x20_1) 0 (wrap64 (a0_0 - 1)) true _ A17.out).mono ?_); rintro e w' ⟨rfl, ⟨nd, rfl⟩⟩; refine ⟨_, rfl, ?_⟩; (try (rw [drewN_self wr]; generalize hq_ : World.drewN wr _ = wr; have n0_ : Aside0 (Kd.R (Kd.int .i64) 3 wr w.heap.size (fun _ => True) v894 x8_1) := ⟨by rw [← hq_]; exact (Rz HO_8)⟩; have n1_ : Aside0 (wr.heap[gb891]? = some (.cells #[.int .i64 a0_0, .slice A0_1 l0_1.length c0_1] 31 (0, 0))) := ⟨by rw [← hq_]; exact (Bz BK891)⟩; have n2_ : Aside0 (Below w.heap.size w wr) := ⟨by rw [← hq_]; exact (by exact Lz1 HB GE891)⟩; clear HO_8 BK891 HB hq_; have HO_8 := n0_; have BK891 := n1_; have HB := n2_; clear n0_ n1_ n2_)); obtain ⟨Ao26, co26, eo26⟩ := Kd.R_slice HO_8.out; subst eo26; have p901 : 0 ≤ ((rd l2 x20_1) : Int) := ofA; have q901 : (rd l2 x20_1) < (x8_1.length : Int) := ofA; obtain ⟨ad901, e901, hx901_0⟩ := Kd.at_int (Kd.R_reads' HO_8.out).2.2 (rd l2 x20_1) p901 q901; cases e901; replace p901 := eq_true p901; replace q901 := eq_true q901; have p24 : 0 ≤ ((rd l2 x20_1) : Int) := ofA; have q24 : ((rd l2 x20_1) : Int) < ((x8_1.length : Int) : Int) := ofA; obtain ⟨go24, co24, eo24, gb24, gl24, cl24, HG24⟩ := Kd.R_form HO_8.out (by omega); (first | cases eo24 | (injection eo24 with ea_ en_ ec_; (first | subst ea_ | (injection ea_ with ea_; subst ea_)); subst ec_; clear en_)); have GB24 := Aside0.mk gb24; have GG24 := Aside0.mk HG24; clear gb24 gl24 HG24; (first | simp only [add_plain] at hx901_0 | skip); obtain ⟨hx24_0, hf24_0⟩ := Kd.R_celln 0 HO_8.out ((rd l2 x20_1) : Int) p24 q24; replace p24 := eq_true p24; replace q24 := eq_true q24; obtain ⟨hy27_, hz27_⟩ := Kd.R_celln 0 HO_8.out ((rd l2 x20_1) : Int) (ofA) (ofA); have HP27 := Kd.R_putg HO_8.out ((rd l2 x20_1) : Int) 1) | ((with_reducible refine gate_store (t := 3) (p := 39) rfl ?_); refine store_event (t := 3) (p := 39) (v := ?vo_w28) (w1 := (wr.setCell ⟨go24, ((rd l2 x20_1) : Int).toNat, none⟩ (.int .i64 1))) ?hg ?ho ?hn ?hr ?_; (case ho => rfl); (case hg => rfl); (case hn => rfl); (case hr => first | (go_simp; done) | (go_simp; rfl)); intro w28 hw; have hg : wr.grownBy w28 (some go24) := (by rw [hw]; exact HP27.2); have hp_ : Kd.R (Kd.int .i64) 3 w28 w.heap.size (fun _ => True) (.slice (some ⟨go24, 0, none⟩) x8_1.length co26) y902 := (by rw [hw, Ny902.out]; exact HP27.1); clear HP27; replace BK891 := Aside0.mk (blk_grown (g := gb891) (o := .cells #[.int .i64 a0_0, .slice A0_1 l0_1.length c0_1] 31 (0, 0)) (Bz BK891) hg (Kd.R_ne HO_8.out BK891.out (by decide))); replace HO_8 := Aside0.mk (hp_); replace HB := Aside0.mk ((by rw [hw]; exact below_set (HB.out) GB24.out : Below w.heap.size w w28)); clear hg hw hp_))
            go_roundg k1
            case measure => have := HK1.out; omega
            case rel => exact ⟨(y902), (wrap64 (x20_1 + 1)), eqA, H', ⟨by have := HK1.out; omega⟩, ⟨by exact Rz HO_8⟩, ⟨by exact Bz BK891⟩, ⟨by exact Lz1 HB GE891⟩⟩
           rw [if_neg c20] at H
           exact absurd H (by simp)
          rw [if_neg c19] at H
          exact absurd H (by simp)
         replace c18 := Bool.eq_false_iff.mpr c18
         subst c18
         have H1 : (some (([] : List Int), false)) = some (r1, r2) := by rw [if_neg (show ¬ (false = true) by decide)] at H; exact H
         clear H
         have H := H1
         clear H1
         simp only [Option.some.injEq, Prod.mk.injEq] at H
         obtain ⟨rfl, rfl⟩ := H
         have p899 : 0 ≤ (x20_1 : Int) := ofA
         have q899 : x20_1 < (l2.length : Int) := ofA
         obtain ⟨ad899, e899, hx899_0⟩ := Kd.at_int HR2.out x20_1 p899 q899
         cases e899
         replace hx899_0 := (HB.out.cell (World.block_lt_of_cell? w _ hx899_0)).trans hx899_0
         replace p899 := eq_true p899
         replace q899 := eq_true q899
         have hcz29_0 : wr.cell? ⟨gb891, 0, none⟩ = some (.int .i64 a0_0) := (blk_cell BK891.out 0).trans rfl
         have hcz29_1 : wr.cell? ⟨gb891, 1, none⟩ = some (.slice A0_1 l0_1.length c0_1) := (blk_cell BK891.out 1).trans rfl
         have hfz29_0 := blk_frozen BK891.out 0
         have hfz29_1 := blk_frozen BK891.out 1
         go_wp2_with (first | ((with_reducible refine gate_callee (f := 81) rfl ?_); refine goesM_ (some 28) rfl rfl Try.func81 (by kernel_rfl) rfl #[.int .i64 (rd l2 x20_1), .int .i64 0, .int .i64 (wrap64 (a0_0 - 1))] rfl ?_; (with_reducible refine (impl_within.calls (rd l2 x20_1) 0 (wrap64 (a0_0 - 1)) false _ A17.out).mono ?_); rintro e w' ⟨rfl, ⟨nd, rfl⟩⟩; refine ⟨_, rfl, ?_⟩))
         go_ret2
         exact ⟨_, by first | rfl | (simp [errW_none, errW_some] <;> rfl) | (simp [*, errW_none, errW_some] <;> rfl), by first | exact Kd.R_nil _ _ _ _ _ | exact Kd.N_nil _ _ _ _ _ | exact Kd.V_nil _ _ _ _ _ | exact Kd.Q_nil _ _ _ _ _ | exact Kd.S_nil _ _ _ _ _, by exact Lz1 HB GE891⟩
        rw [if_neg c16] at H
        exact absurd H (by simp)
       rw [if_neg c15] at H
       exact absurd H (by simp)
      rw [if_neg c14] at H
      have c14b0 : decide (x20_1 < (l2.length : Int)) = false := decide_eq_false c14
      clear c14
      replace H := Option.bind_eq_some_iff.mp H
      obtain ⟨t896, A300, H⟩ := H
      replace H : (some (t896, true)) = some (r1, r2) := H
      have A30 := Aside0.mk A300
      clear A300
      simp only [Option.some.injEq, Prod.mk.injEq] at H
      obtain ⟨rfl, rfl⟩ := H
      have hcz31_0 : wr.cell? ⟨gb891, 0, none⟩ = some (.int .i64 a0_0) := (blk_cell BK891.out 0).trans rfl
      have hcz31_1 : wr.cell? ⟨gb891, 1, none⟩ = some (.slice A0_1 l0_1.length c0_1) := (blk_cell BK891.out 1).trans rfl
      have hfz31_0 := blk_frozen BK891.out 0
      have hfz31_1 := blk_frozen BK891.out 1
      obtain ⟨Ao32, co32, eo32⟩ := Kd.R_slice HO_8.out
      subst eo32
      go_wp2_with (first | ((with_reducible refine gate_callee (f := 73) rfl ?_); refine goesM_ (some 44) rfl rfl Try.func73 (by kernel_rfl) rfl #[.agg #[.int .i64 a0_0, .slice A0_1 l0_1.length c0_1], .slice A1 l1.length c1, .slice Ao32 x8_1.length co32] rfl ?_; (with_reducible refine (impl_fired.calls k1 a0_0 _ _ l0_1 _ _ l1 _ _ x8_1 t896 _ ?side1 ?side2 ?side3 ?side4 ?side5 ?side6 A30.out).mono ?_); (case side1 => exact Cz ((Kd.C_below HR0_1.out HB.out))); (case side2 => exact HC0_1.out); (case side3 => exact Cz ((Kd.C_below HR1.out HB.out))); (case side4 => exact HC1.out); (case side5 => exact Cz ((Kd.R_reads' HO_8.out).2.2)); (case side6 => exact (Kd.R_reads' HO_8.out).2.1); rintro e w33 ⟨v897, rfl, ho0, hb⟩; refine ⟨_, rfl, ?_⟩; have HO898 := Aside0.mk (Kd.R_lower (Kd.R_new' ho0 (Kd.R_lt (Rz HO_8))) (below_size (by exact Lz1 HB GE891))); replace HO_8 := Aside0.mk (Kd.R_elder' (Rz HO_8) (Kd.R_base ho0) hb); replace BK891 := Aside0.mk (blk_below (g := gb891) (o := .cells #[.int .i64 a0_0, .slice A0_1 l0_1.length c0_1] 31 (0, 0)) (Bz BK891) hb); replace HB := Aside0.mk (below_step (by exact Lz1 HB GE891) hb); (try clear hb); (try clear ho0)))
      go_ret2
      exact ⟨_, by first | rfl | (simp [errW_none, errW_some] <;> rfl) | (simp [*, errW_none, errW_some] <;> rfl), by (with_reducible repeat (first | apply Kd.R_alloc | apply Kd.R_drewN | apply Kd.R_drew)); exact Kd.R_mono HO898.out (fun _ hk => trivial), by exact Lz1 HB GE891⟩
   rw [if_neg c7] at H
   exact absurd H (by simp)
  rw [if_neg c6] at H
  exact absurd H (by simp)
 replace c5 := Bool.eq_false_iff.mpr c5
 subst c5
 have H1 : (some (([] : List Int), false)) = some (r1, r2) := by rw [if_neg (show ¬ (false = true) by decide)] at H; exact H
 clear H
 have H := H1
 clear H1
 simp only [Option.some.injEq, Prod.mk.injEq] at H
 obtain ⟨rfl, rfl⟩ := H
 go_enter Try.func41, Try.ntmps41
 go_wp2_with (first | ((with_reducible refine gate_dst (N := 3) rfl ?_); refine box_event ?hg (N := 3) ?hd (cs := #[.int .i64 a0_0, .slice A0_1 l0_1.length c0_1]) (t := 31) ?hr ?_; (case hd => rfl); (case hg => rfl); (case hr => first | (go_simp; done) | (go_simp; rfl)); intro gb891 hg w34 hbox hb; have BK891 := Aside0.mk (hbox); have GW891 := Aside0.mk ((by rw [hg]; exact (below_size (Lz HB)) : w.heap.size ≤ gb891)); have GE891 := Aside0.mk ((by rw [hg]; exact (below_size (Lz HB)) : w.heap.size ≤ gb891)); replace HB := Aside0.mk (below_step (Lz HB) hb); clear hb hbox hg; have hcz35_0 : w34.cell? ⟨gb891, 0, none⟩ = some (.int .i64 a0_0) := (blk_cell BK891.out 0).trans rfl; have hcz35_1 : w34.cell? ⟨gb891, 1, none⟩ = some (.slice A0_1 l0_1.length c0_1) := (blk_cell BK891.out 1).trans rfl; have hfz35_0 := blk_frozen BK891.out 0; have hfz35_1 := blk_frozen BK891.out 1) | ((with_reducible refine gate_callee (f := 71) rfl ?_); refine goesM_ (some 13) rfl rfl Try.func71 (by kernel_rfl) rfl #[.agg #[.int .i64 a0_0, .slice A0_1 l0_1.length c0_1], .slice A1 l1.length c1] rfl ?_; (with_reducible refine (impl_DivisorOk.calls k a0_0 _ _ l0_1 _ _ l1 false _ ?side1 ?side2 ?side3 ?side4 A4.out).mono ?_); (case side1 => exact Cz ((Kd.C_below HR0_1.out HB.out))); (case side2 => exact HC0_1.out); (case side3 => exact Cz ((Kd.C_below HR1.out HB.out))); (case side4 => exact HC1.out); rintro e w36 ⟨rfl, hb⟩; refine ⟨_, rfl, ?_⟩; replace BK891 := Aside0.mk (blk_below (g := gb891) (o := .cells #[.int .i64 a0_0, .slice A0_1 l0_1.length c0_1] 31 (0, 0)) (Bz BK891) hb); replace HB := Aside0.mk (below_step (by exact Lz1 HB GE891) hb); (try clear hb); (try clear hb2); (try clear hk); (try clear hi)))
 go_ret2
 exact ⟨_, by first | rfl | (simp [errW_none, errW_some] <;> rfl) | (simp [*, errW_none, errW_some] <;> rfl), by first | exact Kd.R_nil _ _ _ _ _ | exact Kd.N_nil _ _ _ _ _ | exact Kd.V_nil _ _ _ _ _ | exact Kd.Q_nil _ _ _ _ _ | exact Kd.S_nil _ _ _ _ _, by exact Lz1 HB GE891⟩
def impl_plus.l0 : Nat → List Int → List Int → Int → Int → Option (List Int)
 | 0, _, _, _, _ => none
 | k + 1, x1, x5, x10, x11 => if x11 < x10 then (if 0 ≤ x11 then (if x11 < (x5.length : Int) then (if x11 < (x1.length : Int) then (impl_plus.l0 k x1 (x5.set (x11 : Int).toNat (wrap64 ((rd x5 x11) + (rd x1 x11)))) x10 (wrap64 (x11 + 1))) else (none)) else (none)) else (none)) else (some x5)
def impl_plus.f (k : Nat) (l0 : List Int) (l1 : List Int) : Option (List Int) := (impl_copyInts.f l0).bind fun t530 => (impl_plus.l0 k l1 t530 (t530.length : Int) 0)
def impl_plus.T5 : Bool × List (List Nat × List Nat) := (true, [([], []), ([], []), ([0, 1], [0, 1]), ([2], [2]), ([], []), ([], []), ([4, 5], [4, 5]), ([6], [6]), ([3, 7], [3, 7]), ([0, 1, 0, 1, 2, 3, 4, 5, 6, 7, 8], [0, 1]), ([9, 8, 0, 1, 2, 3, 4, 5, 6, 7, 8], [8, 9])])
def impl_plus.B5 : List Nat := [0, 0, 3, 7, 0, 0, 48, 112, 255, 511, 1023]
theorem impl_plus.tab5 : rtab .any (opsOf Try.f65 5) = impl_plus.T5 := by kernel_rfl
theorem impl_plus.bits5 : waitsOk impl_plus.T5.2 impl_plus.B5 = true := by kernel_rfl
set_option maxHeartbeats 8000000 in
set_option maxRecDepth 100000 in
theorem impl_plus.calls (k : Nat) (A0 : Option Addr) (c0 : Nat) (l0 : List Int) (A1 : Option Addr) (c1 : Nat) (l1 : List Int) (r : List Int) (w : World) (hr0 : Kd.C (Kd.int .i64) w A0 l0.length l0) (hc0 : l0.length ≤ c0) (hr1 : Kd.C (Kd.int .i64) w A1 l1.length l1) (hc1 : l1.length ≤ c1) (h : impl_plus.f k l0 l1 = some r) :
  Calls Try.prog 65 #[.slice A0 l0.length c0, .slice A1 l1.length c1] w fun e w' => ∃ v0_ : Value, e = .returned (v0_) ∧ Kd.R (Kd.int .i64) 3 w' w.heap.size (fun _ => True) v0_ r ∧ Below w.heap.size w w' := by
 have HR0 := Aside0.mk hr0
 have HC0 := Aside0.mk hc0
 clear hr0 hc0
 have HR1 := Aside0.mk hr1
 have HC1 := Aside0.mk hc1
 clear hr1 hc1
 have HB := Aside0.mk (Below.refl w.heap.size w)
 have H : ((impl_copyInts.f l0).bind fun t530 => (impl_plus.l0 k l1 t530 (t530.length : Int) 0)) = some r := h
 clear h
 replace H := Option.bind_eq_some_iff.mp H
 obtain ⟨t530, A30, H⟩ := H
 replace H : (impl_plus.l0 k l1 t530 (t530.length : Int) 0) = some r := H
 have A3 := Aside0.mk A30
 clear A30
 have H' := Aside0.mk H
 clear H
 go_enter Try.func65, Try.ntmps65
 go_wp2_with (first | ((with_reducible refine gate_callee (f := 79) rfl ?_); refine goesM_ (some 8) rfl rfl Try.func79 (by kernel_rfl) rfl #[.slice A0 l0.length c0] rfl ?_; (with_reducible refine (impl_copyInts.calls _ _ l0 t530 _ ?side1 ?side2 A3.out).mono ?_); (case side1 => exact Cz (HR0.out)); (case side2 => exact HC0.out); rintro e w4 ⟨v531, rfl, ho0, hb⟩; refine ⟨_, rfl, ?_⟩; have HO532 := Aside0.mk (Kd.R_lower ho0 (below_size (Lz HB))); replace HB := Aside0.mk (below_step (Lz HB) hb); (try clear hb); (try clear ho0); obtain ⟨Ao5, co5, eo5⟩ := Kd.R_slice HO532.out; subst eo5))
 go_loopg [11] k (fun kq v11 w' => ∃ (x5_1 : List Int) (x11_1 : Int), v11 = .int .i64 x11_1 ∧ Aside0 (impl_plus.l0 kq l1 x5_1 (t530.length : Int) x11_1 = some r) ∧ Aside0 (kq ≤ k) ∧ Aside0 (Kd.R (Kd.int .i64) 3 w' w.heap.size (fun _ => True) (.slice Ao5 t530.length co5) x5_1) ∧ Aside0 (Below w.heap.size w w'))
 case atStart => exact ⟨(t530), (0), eqA, H', ⟨Nat.le_refl _⟩, ⟨by exact Rz HO532⟩, ⟨by exact Lz HB⟩⟩
 case round =>
  clear H'
  try clear c1
  obtain ⟨x5_1, x11_1, rfl, HA, HK1, HO_5, HB⟩ := hrel
  have hl5_1 := (Kd.R_reads' HO_5.out).1
  rw [hl5_1] at HO_5
  (try simp only [hl5_1])
  cases gk with
  | zero => exact absurd HA.out (by simp [impl_plus.l0])
  | succ k1 =>
   have H := HA.out
   clear HA
   simp only [impl_plus.l0] at H
   by_cases c6 : x11_1 < (t530.length : Int)
   ·rw [if_pos c6] at H
    have c6b0 : decide (x11_1 < (t530.length : Int)) = true := decide_eq_true c6
    (try simp only [hl5_1] at c6b0)
    clear c6
    by_cases c7 : 0 ≤ x11_1
    ·rw [if_pos c7] at H
     have c7b0 : decide (0 ≤ x11_1) = true := decide_eq_true c7
     clear c7
     by_cases c8 : x11_1 < (x5_1.length : Int)
     ·rw [if_pos c8] at H
      have c8b0 : decide (x11_1 < (x5_1.length : Int)) = true := decide_eq_true c8
      (try simp only [hl5_1] at c8b0)
      clear c8
      by_cases c9 : x11_1 < (l1.length : Int)
      ·rw [if_pos c9] at H
       have c9b0 : decide (x11_1 < (l1.length : Int)) = true := decide_eq_true c9
       (try simp only [hl5_1] at c9b0)
       clear c9
       obtain ⟨y535, hy535⟩ : ∃ y_ : List Int, y_ = (x5_1.set (x11_1 : Int).toNat (wrap64 ((rd x5_1 x11_1) + (rd l1 x11_1)))) := ⟨_, rfl⟩
       replace H : (impl_plus.l0 k1 l1 y535 (t530.length : Int) (wrap64 (x11_1 + 1))) = some r := by first | (rw [hy535]; with_reducible exact H) | (have H2_ := (Option.bind_some _ _).symm.trans H; rw [hy535]; with_reducible exact H2_) | (have H2_ := (Option.bind_some _ _).symm.trans H; with_reducible exact H2_) | with_reducible exact H | (rw [hy535]; exact H) | exact H
       have Ny535 := Aside0.mk hy535
       clear hy535
       have H' := Aside0.mk H
       clear H
       try go_wp2
       replace HO_5 := Aside0.mk (Kd.R_drew HO_5.out)
       replace HB := Aside0.mk (below_drew1 HB.out)
       have p533 : 0 ≤ (x11_1 : Int) := ofA
       have q533 : x11_1 < (x5_1.length : Int) := ofA
       obtain ⟨ad533, e533, hx533_0⟩ := Kd.at_int (Kd.R_reads' HO_5.out).2.2 x11_1 p533 q533
       cases e533
       replace p533 := eq_true p533
       replace q533 := eq_true q533
       have p534 : 0 ≤ (x11_1 : Int) := ofA
       have q534 : x11_1 < (l1.length : Int) := ofA
       obtain ⟨ad534, e534, hx534_0⟩ := Kd.at_int HR1.out x11_1 p534 q534
       have hw534_0 := hx534_0
       cases e534
       replace hx534_0 := (HB.out.cell (World.block_lt_of_cell? w _ hx534_0)).trans hx534_0
       replace p534 := eq_true p534
       replace q534 := eq_true q534
       have p10 : 0 ≤ (x11_1 : Int) := ofA
       have q10 : (x11_1 : Int) < ((x5_1.length : Int) : Int) := ofA
       obtain ⟨go10, co10, eo10, gb10, gl10, cl10, HG10⟩ := Kd.R_form HO_5.out (by omega)
       (first | cases eo10 | (injection eo10 with ea_ en_ ec_; (first | subst ea_ | (injection ea_ with ea_; subst ea_)); subst ec_; clear en_))
       have GB10 := Aside0.mk gb10
       have GG10 := Aside0.mk HG10
       clear gb10 gl10 HG10
       (first | simp only [add_plain] at hx533_0 | skip)
       obtain ⟨hx10_0, hf10_0⟩ := Kd.R_celln 0 HO_5.out (x11_1 : Int) p10 q10
       replace p10 := eq_true p10
       replace q10 := eq_true q10
       have HP12 := Kd.R_putn HO_5.out (x11_1 : Int) (wrap64 ((rd x5_1 x11_1) + (rd l1 x11_1)))
       rw [← Ny535.out] at HP12
       have HQ12 := Aside0.mk HP12
       clear HP12
       refine start_ (n := 11) (S := fun w' => w'.cell? ⟨go10, (x11_1).toNat, none⟩ = some (.int .i64 (rd x5_1 x11_1)) ∧ w'.cell? (ad534.add (x11_1).toNat) = some (.int .i64 (rd l1 x11_1))) (ds := [10]) #[false, false, false, false, false, false, false, false, false, false, false] (by kernel_rfl) rfl rfl ⟨hx533_0, ((HB.out.cell (World.block_lt_of_cell? w _ hw534_0)).trans hw534_0)⟩ (fun hHeld => ?_); refine with_tabW impl_plus.tab5 impl_plus.bits5 (fun HT_ HW_ => ?_)
       generalize wr.drew = w11 at HO_5 HB GG10 HQ12 hf10_0 hx10_0 hx533_0 hx534_0 hHeld ⊢
       refine pureT_ 0 14 HT_ ?_
       refine pureT_ 1 15 HT_ ?_
       refine pureT_ 2 16 HT_ ?_
       refine pureT_ 4 18 HT_ ?_
       refine pureT_ 5 19 HT_ ?_
       refine pureT_ 6 20 HT_ ?_
       refine takeT_ 3 17 HT_ HW_ hHeld rfl (by rintro w' ⟨s0, s1⟩; go_simp; with_reducible rfl) ?_
       refine takeT_ 7 21 HT_ HW_ hHeld rfl (by rintro w' ⟨s0, s1⟩; go_simp; with_reducible rfl) ?_
       refine pureT_ 8 22 HT_ ?_
       refine pureT_ 9 23 HT_ ?_
       refine last_ (i := 10) (N := none) #[true, true, true, true, true, true, true, true, true, true, true] rfl rfl (one_of HT_.out (by kernel_rfl)) (by decide) (fun K hK => ?_)
       refine skip_ (w1 := ?_) (by rfl) rfl ?_ ?_
       rotate_left
       ·go_simp
        rfl
       refine hK.out _ _ ?_
       clear hK K
       refine done_ (done_of HT_.out (by kernel_rfl)) ?_
       try go_wp2
       (try simp only [← hl5_1])
       go_roundg k1
       case measure => have := HK1.out; omega
       case rel => exact ⟨(y535), (wrap64 (x11_1 + 1)), eqA, H', ⟨by have := HK1.out; omega⟩, ⟨by (try simp only [hl5_1]); exact Rz HQ12⟩, ⟨by exact Lz1 HB GB10⟩⟩
      rw [if_neg c9] at H
      exact absurd H (by simp)
     rw [if_neg c8] at H
     exact absurd H (by simp)
    rw [if_neg c7] at H
    exact absurd H (by simp)
   rw [if_neg c6] at H
   have c6b0 : decide (x11_1 < (t530.length : Int)) = false := decide_eq_false c6
   (try simp only [hl5_1] at c6b0)
   clear c6
   obtain rfl := Option.some.inj H
   go_wp2
   go_ret
   exact ⟨_, by first | rfl | (simp [errW_none, errW_some] <;> rfl) | (simp [*, errW_none, errW_some] <;> rfl), by exact Rz HO_5, by exact Lz HB⟩
def impl_AddDivisors.f (k : Nat) (l0 : List Int) (l1 : List Int) : Option (List Int × Bool) := if (l0.length : Int) = (l1.length : Int) then ((impl_plus.f k l0 l1).bind fun t939 => (some (t939, true))) else (some (([] : List Int), false))
set_option maxHeartbeats 8000000 in
set_option maxRecDepth 100000 in
theorem impl_AddDivisors.calls (k : Nat) (A0 : Option Addr) (c0 : Nat) (l0 : List Int) (A1 : Option Addr) (c1 : Nat) (l1 : List Int) (r1 : List Int) (r2 : Bool) (w : World) (hr0 : Kd.C (Kd.int .i64) w A0 l0.length l0) (hc0 : l0.length ≤ c0) (hr1 : Kd.C (Kd.int .i64) w A1 l1.length l1) (hc1 : l1.length ≤ c1) (h : impl_AddDivisors.f k l0 l1 = some (r1, r2)) :
  Calls Try.prog 37 #[.slice A0 l0.length c0, .slice A1 l1.length c1] w fun e w' => ∃ v0_ : Value, e = .returned (.tuple #[v0_, .bool r2]) ∧ Kd.R (Kd.int .i64) 3 w' w.heap.size (fun _ => True) v0_ r1 ∧ Below w.heap.size w w' := by
 have HR0 := Aside0.mk hr0
 have HC0 := Aside0.mk hc0
 clear hr0 hc0
 have HR1 := Aside0.mk hr1
 have HC1 := Aside0.mk hc1
 clear hr1 hc1
 have HB := Aside0.mk (Below.refl w.heap.size w)
 have H : (if (l0.length : Int) = (l1.length : Int) then ((impl_plus.f k l0 l1).bind fun t939 => (some (t939, true))) else (some (([] : List Int), false))) = some (r1, r2) := h
 clear h
 by_cases c3 : (l0.length : Int) = (l1.length : Int)
 ·rw [if_pos c3] at H
  have c3b0 : ((l0.length : Int) == (l1.length : Int)) = true := beq_iff_eq.mpr c3
  have c3b1 : ((l0.length : Int) != (l1.length : Int)) = false := bne_eq_false_iff_eq.mpr c3
  have c3b2 : (l0.length == l1.length) = true := by first | simpa using c3 | (simp at c3 ⊢; omega)
  clear c3
  replace H := Option.bind_eq_some_iff.mp H
  obtain ⟨t939, A40, H⟩ := H
  replace H : (some (t939, true)) = some (r1, r2) := H
  have A4 := Aside0.mk A40
  clear A40
  simp only [Option.some.injEq, Prod.mk.injEq] at H
  obtain ⟨rfl, rfl⟩ := H
  go_enter Try.func37, Try.ntmps37
  go_wp2_with (first | ((with_reducible refine gate_callee (f := 65) rfl ?_); refine goesM_ (some 13) rfl rfl Try.func65 (by kernel_rfl) rfl #[.slice A0 l0.length c0, .slice A1 l1.length c1] rfl ?_; (with_reducible refine (impl_plus.calls k _ _ l0 _ _ l1 t939 _ ?side1 ?side2 ?side3 ?side4 A4.out).mono ?_); (case side1 => exact Cz (HR0.out)); (case side2 => exact HC0.out); (case side3 => exact Cz (HR1.out)); (case side4 => exact HC1.out); rintro e w5 ⟨v940, rfl, ho0, hb⟩; refine ⟨_, rfl, ?_⟩; have HO941 := Aside0.mk (Kd.R_lower ho0 (below_size (Lz HB))); replace HB := Aside0.mk (below_step (Lz HB) hb); (try clear hb); (try clear ho0)))
  go_ret2
  exact ⟨_, by first | rfl | (simp [errW_none, errW_some] <;> rfl) | (simp [*, errW_none, errW_some] <;> rfl), by exact Rz HO941, by exact Lz HB⟩
 rw [if_neg c3] at H
 have c3b0 : ((l0.length : Int) == (l1.length : Int)) = false := beq_eq_false_iff_ne.mpr c3
 have c3b1 : ((l0.length : Int) != (l1.length : Int)) = true := bne_iff_ne.mpr c3
 have c3b2 : (l0.length == l1.length) = false := by first | simpa using c3 | (simp at c3 ⊢; omega)
 simp only [Option.some.injEq, Prod.mk.injEq] at H
 obtain ⟨rfl, rfl⟩ := H
 go_enter Try.func37, Try.ntmps37
 go_wp2
 go_ret2
 exact ⟨_, by first | rfl | (simp [errW_none, errW_some] <;> rfl) | (simp [*, errW_none, errW_some] <;> rfl), by first | exact Kd.R_nil _ _ _ _ _ | exact Kd.N_nil _ _ _ _ _ | exact Kd.V_nil _ _ _ _ _ | exact Kd.Q_nil _ _ _ _ _ | exact Kd.S_nil _ _ _ _ _, by exact Lz HB⟩
def impl_MatrixOk.l0 : Nat → List (List Int) → List (List Int) → Int → Int → Option (Bool)
 | 0, _, _, _, _ => none
 | k + 1, x0, x8, x9, x10 => if x10 < x9 then (if 0 ≤ x10 then (if x10 < (x8.length : Int) then (if ((rd_L4 x8 x10).length : Int) = (x0.length : Int) then ((impl_allWithin.f k (rd_L4 x8 x10) (-500) 500).bind fun t991 => (if t991 = true then (impl_MatrixOk.l0 k x0 x8 x9 (wrap64 (x10 + 1))) else (some false))) else (some false)) else (none)) else (none)) else (some true)
def impl_MatrixOk.f (k : Nat) (l0 : List (List Int)) : Option (Bool) := if (l0.length : Int) > 6 then (some false) else (impl_MatrixOk.l0 k l0 l0 (l0.length : Int) 0)
set_option maxHeartbeats 8000000 in
set_option maxRecDepth 100000 in
theorem impl_MatrixOk.calls (k : Nat) (A0 : Option Addr) (c0 : Nat) (l0 : List (List Int)) (r : Bool) (w : World) (hr0 : Kd.C (Kd.slice 3 (Kd.int .i64)) w A0 l0.length l0) (hc0 : l0.length ≤ c0) (h : impl_MatrixOk.f k l0 = some r) :
  Calls Try.prog 82 #[.slice A0 l0.length c0] w fun e w' => e = .returned (.bool r) ∧ Drawn0 w w' := by
 have HR0 := Aside0.mk hr0
 have HC0 := Aside0.mk hc0
 clear hr0 hc0
 have H : (if (l0.length : Int) > 6 then (some false) else (impl_MatrixOk.l0 k l0 l0 (l0.length : Int) 0)) = some r := h
 clear h
 by_cases c2 : (l0.length : Int) > 6
 ·rw [if_pos c2] at H
  have c2b0 : decide (6 < (l0.length : Int)) = true := decide_eq_true c2
  have c2b1 : decide (6 < l0.length) = true := decide_eq_true (by omega)
  clear c2
  obtain rfl := Option.some.inj H
  go_enter Try.func82, Try.ntmps82
  go_wp2
  go_ret
  exact ⟨eqA, by repeat (first | exact Drawn0.refl _ | apply Drawn0.step)⟩
 rw [if_neg c2] at H
 have c2b0 : decide (6 < (l0.length : Int)) = false := decide_eq_false c2
 have c2b1 : decide (6 < l0.length) = false := decide_eq_false (by omega)
 clear c2
 have H' := Aside0.mk H
 clear H
 go_enter Try.func82, Try.ntmps82
 go_wp2
 go_loopg [10] k (fun kq v10 w' => ∃ (x10_1 : Int), v10 = .int .i64 x10_1 ∧ Aside0 (impl_MatrixOk.l0 kq l0 l0 (l0.length : Int) x10_1 = some r) ∧ Aside0 (kq ≤ k) ∧ Drawn0 w w')
 case atStart => exact ⟨(0), eqA, H', ⟨Nat.le_refl _⟩, by repeat (first | exact Drawn0.refl _ | apply Drawn0.step)⟩
 case round =>
  clear H'
  try clear c2
  try clear c2b0
  try clear c2b1
  obtain ⟨x10_1, rfl, HA, HK1, ⟨m1, rfl⟩⟩ := hrel
  cases gk with
  | zero => exact absurd HA.out (by simp [impl_MatrixOk.l0])
  | succ k1 =>
   have H := HA.out
   clear HA
   simp only [impl_MatrixOk.l0] at H
   by_cases c3 : x10_1 < (l0.length : Int)
   ·rw [if_pos c3] at H
    have c3b0 : decide (x10_1 < (l0.length : Int)) = true := decide_eq_true c3
    clear c3
    by_cases c4 : 0 ≤ x10_1
    ·rw [if_pos c4] at H
     have c4b0 : decide (0 ≤ x10_1) = true := decide_eq_true c4
     clear c4
     by_cases c5 : x10_1 < (l0.length : Int)
     ·rw [if_pos c5] at H
      have c5b0 : decide (x10_1 < (l0.length : Int)) = true := decide_eq_true c5
      clear c5
      by_cases c6 : ((rd_L4 l0 x10_1).length : Int) = (l0.length : Int)
      ·rw [if_pos c6] at H
       have c6b0 : (((rd_L4 l0 x10_1).length : Int) == (l0.length : Int)) = true := beq_iff_eq.mpr c6
       have c6b1 : (((rd_L4 l0 x10_1).length : Int) != (l0.length : Int)) = false := bne_eq_false_iff_eq.mpr c6
       have c6b2 : ((rd_L4 l0 x10_1).length == l0.length) = true := by first | simpa using c6 | (simp at c6 ⊢; omega)
       clear c6
       replace H := Option.bind_eq_some_iff.mp H
       obtain ⟨t991, A70, H⟩ := H
       replace H : (if t991 = true then (impl_MatrixOk.l0 k1 l0 l0 (l0.length : Int) (wrap64 (x10_1 + 1))) else (some false)) = some r := H
       have A7 := Aside0.mk A70
       clear A70
       by_cases c8 : t991 = true
       ·subst c8
        have H1 : (impl_MatrixOk.l0 k1 l0 l0 (l0.length : Int) (wrap64 (x10_1 + 1))) = some r := by rw [if_pos rfl] at H; exact H
        clear H
        have H := H1
        clear H1
        have H' := Aside0.mk H
        clear H
        have p990 : 0 ≤ (x10_1 : Int) := ofA
        have q990 : x10_1 < (l0.length : Int) := ofA
        obtain ⟨ad990, A990_0, c990_0, e990, hx990_0, hl990_0, hi990_0⟩ := at_L4 HR0.out x10_1 p990 q990
        cases e990
        have HR990_0 := Aside0.mk hi990_0
        have HC990_0 := Aside0.mk hl990_0
        clear hi990_0 hl990_0
        replace p990 := eq_true p990
        replace q990 := eq_true q990
        go_wp2_with (first | (go_at_call 80; (with_reducible refine (impl_allWithin.calls k1 _ _ (rd_L4 l0 x10_1) (-500) 500 true _ ?side1 ?side2 A7.out).mono ?_); (case side1 => exact Cz (HR990_0.out)); (case side2 => exact HC990_0.out); rintro e w' ⟨rfl, ⟨nd, rfl⟩⟩))
        go_roundg k1
        case measure => have := HK1.out; omega
        case rel => exact ⟨(wrap64 (x10_1 + 1)), eqA, H', ⟨by have := HK1.out; omega⟩, by repeat (first | exact Drawn0.refl _ | apply Drawn0.step)⟩
       replace c8 := Bool.eq_false_iff.mpr c8
       subst c8
       have H1 : (some false) = some r := by rw [if_neg (show ¬ (false = true) by decide)] at H; exact H
       clear H
       have H := H1
       clear H1
       obtain rfl := Option.some.inj H
       have p990 : 0 ≤ (x10_1 : Int) := ofA
       have q990 : x10_1 < (l0.length : Int) := ofA
       obtain ⟨ad990, A990_0, c990_0, e990, hx990_0, hl990_0, hi990_0⟩ := at_L4 HR0.out x10_1 p990 q990
       cases e990
       have HR990_0 := Aside0.mk hi990_0
       have HC990_0 := Aside0.mk hl990_0
       clear hi990_0 hl990_0
       replace p990 := eq_true p990
       replace q990 := eq_true q990
       go_wp2_with (first | (go_at_call 80; (with_reducible refine (impl_allWithin.calls k1 _ _ (rd_L4 l0 x10_1) (-500) 500 false _ ?side1 ?side2 A7.out).mono ?_); (case side1 => exact Cz (HR990_0.out)); (case side2 => exact HC990_0.out); rintro e w' ⟨rfl, ⟨nd, rfl⟩⟩))
       go_ret
       exact ⟨eqA, by repeat (first | exact Drawn0.refl _ | apply Drawn0.step)⟩
      rw [if_neg c6] at H
      have c6b0 : (((rd_L4 l0 x10_1).length : Int) == (l0.length : Int)) = false := beq_eq_false_iff_ne.mpr c6
      have c6b1 : (((rd_L4 l0 x10_1).length : Int) != (l0.length : Int)) = true := bne_iff_ne.mpr c6
      have c6b2 : ((rd_L4 l0 x10_1).length == l0.length) = false := by first | simpa using c6 | (simp at c6 ⊢; omega)
      obtain rfl := Option.some.inj H
      have p990 : 0 ≤ (x10_1 : Int) := ofA
      have q990 : x10_1 < (l0.length : Int) := ofA
      obtain ⟨ad990, A990_0, c990_0, e990, hx990_0, hl990_0, hi990_0⟩ := at_L4 HR0.out x10_1 p990 q990
      cases e990
      have HR990_0 := Aside0.mk hi990_0
      have HC990_0 := Aside0.mk hl990_0
      clear hi990_0 hl990_0
      replace p990 := eq_true p990
      replace q990 := eq_true q990
      go_wp2
      go_ret
      exact ⟨eqA, by repeat (first | exact Drawn0.refl _ | apply Drawn0.step)⟩
     rw [if_neg c5] at H
     exact absurd H (by simp)
    rw [if_neg c4] at H
    exact absurd H (by simp)
   rw [if_neg c3] at H
   have c3b0 : decide (x10_1 < (l0.length : Int)) = false := decide_eq_false c3
   clear c3
   obtain rfl := Option.some.inj H
   go_wp2
   go_ret
   exact ⟨eqA, by repeat (first | exact Drawn0.refl _ | apply Drawn0.step)⟩
mutual
def impl_TimesVector.j0 : Nat → List (List Int) → List Int → Bool → Option (List Int)
 | 0, _, _, _ => none
 | k + 1, x0, x1, x20 => if x20 = true then (some ([] : List Int)) else (impl_TimesVector.l0 k x1 ([] : List Int) x0 (x0.length : Int) 0)
def impl_TimesVector.l0 : Nat → List Int → List Int → List (List Int) → Int → Int → Option (List Int)
 | 0, _, _, _, _, _ => none
 | k + 1, x1, x5, x21, x22, x23 => if x23 < x22 then (if 0 ≤ x23 then (if x23 < (x21.length : Int) then (impl_TimesVector.l1 k x1 x5 0 x21 x22 x23 (rd_L4 x21 x23) ((rd_L4 x21 x23).length : Int) 0) else (none)) else (none)) else (some x5)
def impl_TimesVector.l1 : Nat → List Int → List Int → Int → List (List Int) → Int → Int → List Int → Int → Int → Option (List Int)
 | 0, _, _, _, _, _, _, _, _, _ => none
 | k + 1, x1, x5, x8, x21, x22, x23, x27, x28, x29 => if x29 < x28 then (if 0 ≤ x29 then (if x29 < (x27.length : Int) then (if x29 < (x1.length : Int) then (impl_TimesVector.l1 k x1 x5 (wrap64 (x8 + (wrap64 ((rd x27 x29) * (rd x1 x29))))) x21 x22 x23 x27 x28 (wrap64 (x29 + 1))) else (none)) else (none)) else (none)) else (if x5.length < 17592186044416 then (impl_TimesVector.l0 k x1 (x5 ++ [x8]) x21 x22 (wrap64 (x23 + 1))) else (none))
end
def impl_TimesVector.f (k : Nat) (l0 : List (List Int)) (l1 : List Int) : Option (List Int) := (impl_MatrixOk.f k l0).bind fun t992 => (if t992 = true then (impl_TimesVector.j0 k l0 l1 ((l1.length : Int) != (l0.length : Int))) else (impl_TimesVector.j0 k l0 l1 true))
set_option maxHeartbeats 8000000 in
set_option maxRecDepth 100000 in
theorem impl_TimesVector.calls (k : Nat) (A0 : Option Addr) (c0 : Nat) (l0 : List (List Int)) (A1 : Option Addr) (c1 : Nat) (l1 : List Int) (r : List Int) (w : World) (hr0 : Kd.C (Kd.slice 3 (Kd.int .i64)) w A0 l0.length l0) (hc0 : l0.length ≤ c0) (hr1 : Kd.C (Kd.int .i64) w A1 l1.length l1) (hc1 : l1.length ≤ c1) (h : impl_TimesVector.f k l0 l1 = some r) :
  Calls Try.prog 42 #[.slice A0 l0.length c0, .slice A1 l1.length c1] w fun e w' => ∃ v0_ : Value, e = .returned (v0_) ∧ Kd.R (Kd.int .i64) 3 w' w.heap.size (fun _ => True) v0_ r ∧ Below w.heap.size w w' := by
 have HR0 := Aside0.mk hr0
 have HC0 := Aside0.mk hc0
 clear hr0 hc0
 have HR1 := Aside0.mk hr1
 have HC1 := Aside0.mk hc1
 clear hr1 hc1
 have HB := Aside0.mk (Below.refl w.heap.size w)
 have H : ((impl_MatrixOk.f k l0).bind fun t992 => (if t992 = true then (impl_TimesVector.j0 k l0 l1 ((l1.length : Int) != (l0.length : Int))) else (impl_TimesVector.j0 k l0 l1 true))) = some r := h
 clear h
 have HC3 := Aside0.mk H
 clear H
 go_enter Try.func42, Try.ntmps42
 go_upto_region 1 with (fail)
 go_cut [20] (fun v20 wc => ∃ (kq : Nat) (x20_2 : Bool), v20 = .bool x20_2 ∧ Aside0 (impl_TimesVector.j0 kq l0 l1 x20_2 = some r) ∧ Aside0 (kq ≤ k) ∧ Aside0 (Below w.heap.size w wc))
 case first =>
  have H := HC3.out
  clear HC3
  replace H := Option.bind_eq_some_iff.mp H
  obtain ⟨t992, A40, H⟩ := H
  replace H : (if t992 = true then (impl_TimesVector.j0 k l0 l1 ((l1.length : Int) != (l0.length : Int))) else (impl_TimesVector.j0 k l0 l1 true)) = some r := H
  have A4 := Aside0.mk A40
  clear A40
  by_cases c5 : t992 = true
  ·subst c5
   have H1 : (impl_TimesVector.j0 k l0 l1 ((l1.length : Int) != (l0.length : Int))) = some r := by rw [if_pos rfl] at H; exact H
   clear H
   have H := H1
   clear H1
   have H' := Aside0.mk H
   clear H
   go_wp2_with (first | ((with_reducible refine gate_callee (f := 82) rfl ?_); refine goesM_ (some 12) rfl rfl Try.func82 (by kernel_rfl) rfl #[.slice A0 l0.length c0] rfl ?_; (with_reducible refine (impl_MatrixOk.calls k _ _ l0 true _ ?side1 ?side2 A4.out).mono ?_); (case side1 => exact Cz ((Kd.C_below HR0.out HB.out))); (case side2 => exact HC0.out); rintro e w' ⟨rfl, ⟨nd, rfl⟩⟩; refine ⟨_, rfl, ?_⟩))
   go_meet
   case rel => exact ⟨_, (((l1.length : Int) != (l0.length : Int))), eqA, H', ⟨by first | omega | exact Nat.le_refl _⟩, ⟨by exact Lz HB⟩⟩
  replace c5 := Bool.eq_false_iff.mpr c5
  subst c5
  have H1 : (impl_TimesVector.j0 k l0 l1 true) = some r := by rw [if_neg (show ¬ (false = true) by decide)] at H; exact H
  clear H
  have H := H1
  clear H1
  have H' := Aside0.mk H
  clear H
  go_wp2_with (first | ((with_reducible refine gate_callee (f := 82) rfl ?_); refine goesM_ (some 12) rfl rfl Try.func82 (by kernel_rfl) rfl #[.slice A0 l0.length c0] rfl ?_; (with_reducible refine (impl_MatrixOk.calls k _ _ l0 false _ ?side1 ?side2 A4.out).mono ?_); (case side1 => exact Cz ((Kd.C_below HR0.out HB.out))); (case side2 => exact HC0.out); rintro e w' ⟨rfl, ⟨nd, rfl⟩⟩; refine ⟨_, rfl, ?_⟩))
  go_meet
  case rel => exact ⟨_, (true), eqA, H', ⟨by first | omega | exact Nat.le_refl _⟩, ⟨by exact Lz HB⟩⟩
 case rest =>
  clear HC3
  try clear c1
  try clear c5
  obtain ⟨kq, x20_2, rfl, HA, HJ2, HB⟩ := hcut
  cases kq with
  | zero => exact absurd HA.out (by simp [impl_TimesVector.j0])
  | succ kj2 =>
   have H := HA.out
   clear HA
   simp only [impl_TimesVector.j0] at H
   by_cases c6 : x20_2 = true
   ·subst c6
    have H1 : (some ([] : List Int)) = some r := by rw [if_pos rfl] at H; exact H
    clear H
    have H := H1
    clear H1
    obtain rfl := Option.some.inj H
    go_wp2
    go_ret
    exact ⟨_, by first | rfl | (simp [errW_none, errW_some] <;> rfl) | (simp [*, errW_none, errW_some] <;> rfl), by first | exact Kd.R_nil _ _ _ _ _ | exact Kd.N_nil _ _ _ _ _ | exact Kd.V_nil _ _ _ _ _ | exact Kd.Q_nil _ _ _ _ _ | exact Kd.S_nil _ _ _ _ _, by exact Lz HB⟩
   replace c6 := Bool.eq_false_iff.mpr c6
   subst c6
   have H1 : (impl_TimesVector.l0 kj2 l1 ([] : List Int) l0 (l0.length : Int) 0) = some r := by rw [if_neg (show ¬ (false = true) by decide)] at H; exact H
   clear H
   have H := H1
   clear H1
   have H' := Aside0.mk H
   clear H
   go_wp2
   go_loopg [5, 23] kj2 (fun kq v5 v23 w' => ∃ (x5_2 : List Int) (x23_2 : Int), v23 = .int .i64 x23_2 ∧ Aside0 (impl_TimesVector.l0 kq l1 x5_2 l0 (l0.length : Int) x23_2 = some r) ∧ Aside0 (kq ≤ kj2) ∧ Aside0 (Kd.R (Kd.int .i64) 3 w' w.heap.size (fun _ => True) v5 x5_2) ∧ Aside0 (Below w.heap.size w w'))
   case atStart => exact ⟨(([] : List Int)), (0), eqA, H', ⟨Nat.le_refl _⟩, ⟨by first | exact Kd.R_nil _ _ _ _ _ | exact Kd.N_nil _ _ _ _ _ | exact Kd.V_nil _ _ _ _ _ | exact Kd.Q_nil _ _ _ _ _ | exact Kd.S_nil _ _ _ _ _⟩, ⟨by exact Lz HB⟩⟩
   case round =>
    clear H'
    try clear c1
    try clear c5
    try clear c6
    obtain ⟨x5_2, x23_2, rfl, HA, HK2, HO_5, HB⟩ := hrel
    cases gk with
    | zero => exact absurd HA.out (by simp [impl_TimesVector.l0])
    | succ k2 =>
     have H := HA.out
     clear HA
     simp only [impl_TimesVector.l0] at H
     by_cases c7 : x23_2 < (l0.length : Int)
     ·rw [if_pos c7] at H
      have c7b0 : decide (x23_2 < (l0.length : Int)) = true := decide_eq_true c7
      clear c7
      by_cases c8 : 0 ≤ x23_2
      ·rw [if_pos c8] at H
       have c8b0 : decide (0 ≤ x23_2) = true := decide_eq_true c8
       clear c8
       by_cases c9 : x23_2 < (l0.length : Int)
       ·rw [if_pos c9] at H
        have c9b0 : decide (x23_2 < (l0.length : Int)) = true := decide_eq_true c9
        clear c9
        have H' := Aside0.mk H
        clear H
        have p993 : 0 ≤ (x23_2 : Int) := ofA
        have q993 : x23_2 < (l0.length : Int) := ofA
        obtain ⟨ad993, A993_0, c993_0, e993, hx993_0, hl993_0, hi993_0⟩ := at_L4 HR0.out x23_2 p993 q993
        cases e993
        replace hx993_0 := (HB.out.cell (World.block_lt_of_cell? w _ hx993_0)).trans hx993_0
        have HR993_0 := Aside0.mk hi993_0
        have HC993_0 := Aside0.mk hl993_0
        clear hi993_0 hl993_0
        replace p993 := eq_true p993
        replace q993 := eq_true q993
        go_wp2
        go_loopg [8, 29] k2 (fun kq v8 v29 w' => ∃ (x8_3 : Int) (x29_3 : Int), v8 = .int .i64 x8_3 ∧ v29 = .int .i64 x29_3 ∧ Aside0 (impl_TimesVector.l1 kq l1 x5_2 x8_3 l0 (l0.length : Int) x23_2 (rd_L4 l0 x23_2) ((rd_L4 l0 x23_2).length : Int) x29_3 = some r) ∧ Aside0 (kq ≤ k2) ∧ Aside0 (Kd.R (Kd.int .i64) 3 w' w.heap.size (fun _ => True) u5 x5_2) ∧ Aside0 (Below w.heap.size w w'))
        case atStart => exact ⟨(0), (0), eqA, eqA, H', ⟨Nat.le_refl _⟩, ⟨by exact Rz HO_5⟩, ⟨by exact Lz HB⟩⟩
        case round =>
         clear H'
         try clear c1
         try clear c5
         try clear c6
         try clear c7
         try clear c7b0
         try clear c8
         try clear c8b0
         try clear c9
         try clear c9b0
         try clear p993
         try clear q993
         obtain ⟨x8_3, x29_3, rfl, rfl, HA, HK3, HO_5, HB⟩ := hrel
         cases gk with
         | zero => exact absurd HA.out (by simp [impl_TimesVector.l1])
         | succ k3 =>
          have H := HA.out
          clear HA
          simp only [impl_TimesVector.l1] at H
          by_cases c10 : x29_3 < ((rd_L4 l0 x23_2).length : Int)
          ·rw [if_pos c10] at H
           have c10b0 : decide (x29_3 < ((rd_L4 l0 x23_2).length : Int)) = true := decide_eq_true c10
           clear c10
           by_cases c11 : 0 ≤ x29_3
           ·rw [if_pos c11] at H
            have c11b0 : decide (0 ≤ x29_3) = true := decide_eq_true c11
            clear c11
            by_cases c12 : x29_3 < ((rd_L4 l0 x23_2).length : Int)
            ·rw [if_pos c12] at H
             have c12b0 : decide (x29_3 < ((rd_L4 l0 x23_2).length : Int)) = true := decide_eq_true c12
             clear c12
             by_cases c13 : x29_3 < (l1.length : Int)
             ·rw [if_pos c13] at H
              have c13b0 : decide (x29_3 < (l1.length : Int)) = true := decide_eq_true c13
              clear c13
              have H' := Aside0.mk H
              clear H
              have p994 : 0 ≤ (x29_3 : Int) := ofA
              have q994 : x29_3 < ((rd_L4 l0 x23_2).length : Int) := ofA
              obtain ⟨ad994, e994, hx994_0⟩ := Kd.at_int HR993_0.out x29_3 p994 q994
              cases e994
              replace hx994_0 := (HB.out.cell (World.block_lt_of_cell? w _ hx994_0)).trans hx994_0
              replace p994 := eq_true p994
              replace q994 := eq_true q994
              have p995 : 0 ≤ (x29_3 : Int) := ofA
              have q995 : x29_3 < (l1.length : Int) := ofA
              obtain ⟨ad995, e995, hx995_0⟩ := Kd.at_int HR1.out x29_3 p995 q995
              cases e995
              replace hx995_0 := (HB.out.cell (World.block_lt_of_cell? w _ hx995_0)).trans hx995_0
              replace p995 := eq_true p995
              replace q995 := eq_true q995
              go_wp2
              go_roundg k3
              case measure => have := HJ2.out; have := HK2.out; have := HK3.out; omega
              case rel => exact ⟨(wrap64 (x8_3 + (wrap64 ((rd (rd_L4 l0 x23_2) x29_3) * (rd l1 x29_3))))), (wrap64 (x29_3 + 1)), eqA, eqA, H', ⟨by have := HJ2.out; have := HK2.out; have := HK3.out; omega⟩, ⟨by exact Rz HO_5⟩, ⟨by exact Lz HB⟩⟩
             rw [if_neg c13] at H
             exact absurd H (by simp)
            rw [if_neg c12] at H
            exact absurd H (by simp)
           rw [if_neg c11] at H
           exact absurd H (by simp)
          rw [if_neg c10] at H
          have c10b0 : decide (x29_3 < ((rd_L4 l0 x23_2).length : Int)) = false := decide_eq_false c10
          clear c10
          by_cases c14 : x5_2.length < 17592186044416
          ·rw [if_pos c14] at H
           have LMc14 := Aside0.mk c14
           clear c14
           obtain ⟨y996, hy996⟩ : ∃ y_ : List Int, y_ = (x5_2 ++ [x8_3]) := ⟨_, rfl⟩
           replace H : (impl_TimesVector.l0 k3 l1 y996 l0 (l0.length : Int) (wrap64 (x23_2 + 1))) = some r := by first | (rw [hy996]; with_reducible exact H) | (have H2_ := (Option.bind_some _ _).symm.trans H; rw [hy996]; with_reducible exact H2_) | (have H2_ := (Option.bind_some _ _).symm.trans H; with_reducible exact H2_) | with_reducible exact H | (rw [hy996]; exact H) | exact H
           have Ny996 := Aside0.mk hy996
           clear hy996
           have H' := Aside0.mk H
           clear H
           go_wp2_with (first | ((with_reducible refine gate_builtin (b := .append) (xs := #[.tmp 43, .tmp 45]) rfl ?_); (try (refine gate_guard (by rfl) ?_; dsimp only)); at_builtin; refine Kd.R_append (Kd.int .i64) (w0 := w) w.heap.size rfl (.tmp 43) (.tmp 45) 25 3 (.int .i64 0) 8 rfl Try.underlying25 info3 rfl (by decide) (by omega) u5 x5_2 x8_3 [.int .i64 x8_3] (fun _ => True) (fun _ => False) rfl rfl ?aP (fun _ hk => hk.elim) ?aF ?aO ?aB ?aS ?aL ?_; (case aP => exact rfl); (case aB => exact (Lz HB)); (case aF => exact (fun _ _ => trivial)); (case aO => exact (Rz HO_5)); (case aS => exact (below_size (Lz HB))); (case aL => have := LMc14.out; omega); intro v997 w15 ho hb hg hat; rw [← Ny996.out] at ho; replace HB := Aside0.mk (hb); have HO998 := Aside0.mk (ho); clear HO_5; clear ho hb hg hat))
           go_roundg k3
           case measure => have := HJ2.out; have := HK2.out; have := HK3.out; omega
           case rel => exact ⟨(y996), (wrap64 (x23_2 + 1)), eqA, H', ⟨by have := HJ2.out; have := HK2.out; have := HK3.out; omega⟩, ⟨by exact Rz HO998⟩, ⟨by exact Lz HB⟩⟩
          rw [if_neg c14] at H
          exact absurd H (by simp)
       rw [if_neg c9] at H
       exact absurd H (by simp)
      rw [if_neg c8] at H
      exact absurd H (by simp)
     rw [if_neg c7] at H
     have c7b0 : decide (x23_2 < (l0.length : Int)) = false := decide_eq_false c7
     clear c7
     obtain rfl := Option.some.inj H
     go_wp2
     go_ret
     exact ⟨_, by first | rfl | (simp [errW_none, errW_some] <;> rfl) | (simp [*, errW_none, errW_some] <;> rfl), by exact Rz HO_5, by exact Lz HB⟩
mutual
def impl_LaplacianOf.l0 : Nat → List (List Int) → Int → Int → List (S67) → Option ((List (List Int)))
 | 0, _, _, _, _ => none
 | k + 1, x3, x4, x1000000, x1000001 => if x4 < x1000000 then (if 0 ≤ x1000000 then (if (x1000000 : Int).toNat ≤ 35184372088832 then ((some (List.replicate (x1000000 : Int).toNat 0 : List Int)).bind fun y1001 => (impl_LaplacianOf.l1 k x3 x4 y1001 (y1001.length : Int) 0 x1000000 x1000001)) else (none)) else (none)) else (some x3)
def impl_LaplacianOf.l1 : Nat → List (List Int) → Int → List Int → Int → Int → Int → List (S67) → Option ((List (List Int)))
 | 0, _, _, _, _, _, _, _ => none
 | k + 1, x3, x4, x5, x20, x21, x1000000, x1000001 => if x21 < x20 then ((impl_Multiplicity.f k x1000000 x1000001 x4 x21).bind fun t1004 => (if 0 ≤ x21 then (if x21 < (x5.length : Int) then (impl_LaplacianOf.l1 k x3 x4 (x5.set (x21 : Int).toNat (wrap64 (-t1004))) x20 (wrap64 (x21 + 1)) x1000000 x1000001) else (none)) else (none))) else ((impl_Valence.f k x1000000 x1000001 x4).bind fun t1006 => (if 0 ≤ x4 then (if x4 < (x5.length : Int) then (if x3.length < 5864062014805 then (impl_LaplacianOf.l0 k (x3 ++ [(x5.set (x4 : Int).toNat t1006)]) (wrap64 (x4 + 1)) x1000000 x1000001) else (none)) else (none)) else (none)))
end
def impl_LaplacianOf.f (k : Nat) (a0_0 : Int) (l0_1 : List (S67)) : Option ((List (List Int))) := (impl_GraphOk.f k a0_0 l0_1).bind fun t1000 => (if t1000 = true then (impl_LaplacianOf.l0 k ([] : List (List Int)) 0 a0_0 l0_1) else (some ([] : List (List Int))))
set_option maxHeartbeats 8000000 in
set_option maxRecDepth 100000 in
theorem impl_LaplacianOf.calls (k : Nat) (a0_0 : Int) (A0_1 : Option Addr) (c0_1 : Nat) (l0_1 : List (S67)) (r : List (List Int)) (w : World) (hr0_1 : Kd.C k67 w A0_1 l0_1.length l0_1) (hc0_1 : l0_1.length ≤ c0_1) (h : impl_LaplacianOf.f k a0_0 l0_1 = some r) :
  Calls Try.prog 43 #[.agg #[.int .i64 a0_0, .slice A0_1 l0_1.length c0_1]] w fun e w' => ∃ v0_ : Value, e = .returned (v0_) ∧ Kd.S (Kd.slice 3 (Kd.int .i64)) 25 w' w.heap.size (fun _ => True) v0_ r ∧ Below w.heap.size w w' := by
 have hu31 := Try.underlying31
 have HR0_1 := Aside0.mk hr0_1
 have HC0_1 := Aside0.mk hc0_1
 clear hr0_1 hc0_1
 have HB := Aside0.mk (Below.refl w.heap.size w)
 have H : ((impl_GraphOk.f k a0_0 l0_1).bind fun t1000 => (if t1000 = true then (impl_LaplacianOf.l0 k ([] : List (List Int)) 0 a0_0 l0_1) else (some ([] : List (List Int))))) = some r := h
 clear h
 replace H := Option.bind_eq_some_iff.mp H
 obtain ⟨t1000, A20, H⟩ := H
 replace H : (if t1000 = true then (impl_LaplacianOf.l0 k ([] : List (List Int)) 0 a0_0 l0_1) else (some ([] : List (List Int)))) = some r := H
 have A2 := Aside0.mk A20
 clear A20
 by_cases c3 : t1000 = true
 ·subst c3
  have H1 : (impl_LaplacianOf.l0 k ([] : List (List Int)) 0 a0_0 l0_1) = some r := by rw [if_pos rfl] at H; exact H
  clear H
  have H := H1
  clear H1
  have H' := Aside0.mk H
  clear H
  go_enter Try.func43, Try.ntmps43
  go_wp2_with (first | ((with_reducible refine gate_dst (N := 1) rfl ?_); refine box_event ?hg (N := 1) ?hd (cs := #[.int .i64 a0_0, .slice A0_1 l0_1.length c0_1]) (t := 31) ?hr ?_; (case hd => rfl); (case hg => rfl); (case hr => first | (go_simp; done) | (go_simp; rfl)); intro gb999 hg w4 hbox hb; have BK999 := Aside0.mk (hbox); have GW999 := Aside0.mk ((by rw [hg]; exact (below_size (Lz HB)) : w.heap.size ≤ gb999)); have GE999 := Aside0.mk ((by rw [hg]; exact (below_size (Lz HB)) : w.heap.size ≤ gb999)); replace HB := Aside0.mk (below_step (Lz HB) hb); clear hb hbox hg; have hcz5_0 : w4.cell? ⟨gb999, 0, none⟩ = some (.int .i64 a0_0) := (blk_cell BK999.out 0).trans rfl; have hcz5_1 : w4.cell? ⟨gb999, 1, none⟩ = some (.slice A0_1 l0_1.length c0_1) := (blk_cell BK999.out 1).trans rfl; have hfz5_0 := blk_frozen BK999.out 0; have hfz5_1 := blk_frozen BK999.out 1) | ((with_reducible refine gate_callee (f := 50) rfl ?_); refine goesM_ (some 8) rfl rfl Try.func50 (by kernel_rfl) rfl #[.agg #[.int .i64 a0_0, .slice A0_1 l0_1.length c0_1]] rfl ?_; (with_reducible refine (impl_GraphOk.calls k a0_0 _ _ l0_1 true _ ?side1 ?side2 A2.out).mono ?_); (case side1 => exact Cz ((Kd.C_below HR0_1.out HB.out))); (case side2 => exact HC0_1.out); rintro e w6 ⟨rfl, hb⟩; refine ⟨_, rfl, ?_⟩; replace BK999 := Aside0.mk (blk_below (g := gb999) (o := .cells #[.int .i64 a0_0, .slice A0_1 l0_1.length c0_1] 31 (0, 0)) (Bz BK999) hb); replace HB := Aside0.mk (below_step (by exact Lz1 HB GE999) hb); (try clear hb); (try clear hb2); (try clear hk); (try clear hi)))
  go_loopg [3, 4] k (fun kq v3 v4 w' => ∃ (x3_1 : List (List Int)) (x4_1 : Int), v4 = .int .i64 x4_1 ∧ Aside0 (impl_LaplacianOf.l0 kq x3_1 x4_1 a0_0 l0_1 = some r) ∧ Aside0 (kq ≤ k) ∧ Aside0 (Kd.S (Kd.slice 3 (Kd.int .i64)) 25 w' w.heap.size (fun _ => True) v3 x3_1) ∧ Aside0 (w'.heap[gb999]? = some (.cells #[.int .i64 a0_0, (.slice A0_1 l0_1.length c0_1)] 31 (0, 0))) ∧ Aside0 (Below w.heap.size w w'))
  case atStart => exact ⟨(([] : List (List Int))), (0), eqA, H', ⟨Nat.le_refl _⟩, ⟨by first | exact Kd.S_nil _ _ _ _ _ | exact Kd.N_nil _ _ _ _ _ | exact Kd.V_nil _ _ _ _ _ | exact Kd.Q_nil _ _ _ _ _ | exact Kd.R_nil _ _ _ _ _⟩, ⟨by exact Bz BK999⟩, ⟨by exact Lz1 HB GE999⟩⟩
  case round =>
   clear H'
   try clear c3
   obtain ⟨x3_1, x4_1, rfl, HA, HK1, HO_3, BK999, HB⟩ := hrel
   cases gk with
   | zero => exact absurd HA.out (by simp [impl_LaplacianOf.l0])
   | succ k1 =>
    have H := HA.out
    clear HA
    simp only [impl_LaplacianOf.l0] at H
    by_cases c7 : x4_1 < a0_0
    ·rw [if_pos c7] at H
     have c7b0 : decide (x4_1 < a0_0) = true := decide_eq_true c7
     clear c7
     by_cases c8 : 0 ≤ a0_0
     ·rw [if_pos c8] at H
      have c8b0 := eq_true c8
      have c8b1 : decide (0 ≤ a0_0) = true := decide_eq_true c8
      clear c8
      by_cases c9 : (a0_0 : Int).toNat ≤ 35184372088832
      ·rw [if_pos c9] at H
       have c9b0 := eq_true c9
       have c9b1 : decide ((a0_0 : Int).toNat ≤ 35184372088832) = true := decide_eq_true c9
       clear c9
       obtain ⟨y1001, hy1001⟩ : ∃ y_ : List Int, y_ = (List.replicate (a0_0 : Int).toNat 0) := ⟨_, rfl⟩
       replace H : (impl_LaplacianOf.l1 k1 x3_1 x4_1 y1001 (y1001.length : Int) 0 a0_0 l0_1) = some r := by first | (rw [hy1001]; with_reducible exact H) | (have H2_ := (Option.bind_some _ _).symm.trans H; rw [hy1001]; with_reducible exact H2_) | (have H2_ := (Option.bind_some _ _).symm.trans H; with_reducible exact H2_) | with_reducible exact H | (rw [hy1001]; exact H) | exact H
       have Ny1001 := Aside0.mk hy1001
       clear hy1001
       have H' := Aside0.mk H
       clear H
       have hcz10_0 : wr.cell? ⟨gb999, 0, none⟩ = some (.int .i64 a0_0) := (blk_cell BK999.out 0).trans rfl
       have hcz10_1 : wr.cell? ⟨gb999, 1, none⟩ = some (.slice A0_1 l0_1.length c0_1) := (blk_cell BK999.out 1).trans rfl
       have hfz10_0 := blk_frozen BK999.out 0
       have hfz10_1 := blk_frozen BK999.out 1
       go_wp2_with (first | ((with_reducible refine gate_dst (N := 18) rfl ?_); refine Kd.R_make (Kd.int .i64) _ 3 rfl (N := 18) rfl 25 _ _ rfl a0_0 rfl rfl Try.underlying25 (.int .i64 0) 8 info3 rfl (by decide) (by omega) 0 (ok := fun _ => True) (okp := fun _ => True) rfl (fun _ hk => hk) trivial (ofA) (Nat.le_trans (Nat.mul_le_mul_right _ (ofA : a0_0.toNat ≤ 35184372088832)) (by omega)) (Below.refl _ _) (Nat.le_refl _) ?_; intro v1002 w11 ho12 hb hg_ hnew_; clear hg_ hnew_; (first | rw [← Ny1001.out] at ho12 | (simp only [Int.reduceToNat] at ho12; rw [← Ny1001.out] at ho12)); replace HO_3 := Aside0.mk (Kd.S_elder' (by (with_reducible repeat (first | apply Kd.S_alloc | apply Kd.S_drewN | apply Kd.S_drew)); exact HO_3.out) (Kd.R_base ho12) hb); have HO1003 := Aside0.mk (Kd.R_lower ho12 (below_size (by exact Lz1 HB GE999))); replace BK999 := Aside0.mk (blk_below (g := gb999) (o := .cells #[.int .i64 a0_0, .slice A0_1 l0_1.length c0_1] 31 (0, 0)) (Bz BK999) hb); replace HB := Aside0.mk (below_step (by exact Lz1 HB GE999) hb); clear hb ho12; obtain ⟨Ao13, co13, eo13⟩ := Kd.R_slice HO1003.out; subst eo13))
       go_loopg [21] k1 (fun kq v21 w' => ∃ (x5_2 : List Int) (x21_2 : Int), v21 = .int .i64 x21_2 ∧ Aside0 (impl_LaplacianOf.l1 kq x3_1 x4_1 x5_2 (y1001.length : Int) x21_2 a0_0 l0_1 = some r) ∧ Aside0 (kq ≤ k1) ∧ Aside0 (Kd.S (Kd.slice 3 (Kd.int .i64)) 25 w' w.heap.size (fun k_ => some k_ ≠ ((.slice Ao13 y1001.length co13) : Value).ownBlock) u3 x3_1) ∧ Aside0 (Kd.R (Kd.int .i64) 3 w' w.heap.size (fun _ => True) (.slice Ao13 y1001.length co13) x5_2) ∧ Aside0 (w'.heap[gb999]? = some (.cells #[.int .i64 a0_0, (.slice A0_1 l0_1.length c0_1)] 31 (0, 0))) ∧ Aside0 (Below w.heap.size w w'))
       case atStart => exact ⟨(y1001), (0), eqA, H', ⟨Nat.le_refl _⟩, ⟨by (with_reducible repeat (first | apply Kd.S_alloc | apply Kd.S_drewN | apply Kd.S_drew)); exact Kd.S_mono HO_3.out (fun _ hk => hk.2)⟩, ⟨by exact Rz HO1003⟩, ⟨by exact Bz BK999⟩, ⟨by exact Lz1 HB GE999⟩⟩
       case round =>
        clear H'
        try clear c3
        try clear c7
        try clear c7b0
        try clear c8
        try clear c8b0
        try clear c8b1
        try clear c9
        try clear c9b0
        try clear c9b1
        obtain ⟨x5_2, x21_2, rfl, HA, HK2, HO_3, HO_5, BK999, HB⟩ := hrel
        have hl5_2 := (Kd.R_reads' HO_5.out).1
        rw [hl5_2] at HO_5
        (try simp only [hl5_2])
        (try simp only [hl5_2] at BK999)
        (try simp only [hl5_2] at HO_3)
        cases gk with
        | zero => exact absurd HA.out (by simp [impl_LaplacianOf.l1])
        | succ k2 =>
         have H := HA.out
         clear HA
         simp only [impl_LaplacianOf.l1] at H
         by_cases c14 : x21_2 < (y1001.length : Int)
         ·rw [if_pos c14] at H
          have c14b0 : decide (x21_2 < (y1001.length : Int)) = true := decide_eq_true c14
          (try simp only [hl5_2] at c14b0)
          clear c14
          replace H := Option.bind_eq_some_iff.mp H
          obtain ⟨t1004, A150, H⟩ := H
          replace H : (if 0 ≤ x21_2 then (if x21_2 < (x5_2.length : Int) then (impl_LaplacianOf.l1 k2 x3_1 x4_1 (x5_2.set (x21_2 : Int).toNat (wrap64 (-t1004))) (y1001.length : Int) (wrap64 (x21_2 + 1)) a0_0 l0_1) else (none)) else (none)) = some r := H
          have A15 := Aside0.mk A150
          clear A150
          by_cases c16 : 0 ≤ x21_2
          ·rw [if_pos c16] at H
           have c16b0 : decide (0 ≤ x21_2) = true := decide_eq_true c16
           clear c16
           by_cases c17 : x21_2 < (x5_2.length : Int)
           ·rw [if_pos c17] at H
            have c17b0 : decide (x21_2 < (x5_2.length : Int)) = true := decide_eq_true c17
            (try simp only [hl5_2] at c17b0)
            clear c17
            obtain ⟨y1005, hy1005⟩ : ∃ y_ : List Int, y_ = (x5_2.set (x21_2 : Int).toNat (wrap64 (-t1004))) := ⟨_, rfl⟩
            replace H : (impl_LaplacianOf.l1 k2 x3_1 x4_1 y1005 (y1001.length : Int) (wrap64 (x21_2 + 1)) a0_0 l0_1) = some r := by first | (rw [hy1005]; with_reducible exact H) | (have H2_ := (Option.bind_some _ _).symm.trans H; rw [hy1005]; with_reducible exact H2_) | (have H2_ := (Option.bind_some _ _).symm.trans H; with_reducible exact H2_) | with_reducible exact H | (rw [hy1005]; exact H) | exact H
            have Ny1005 := Aside0.mk hy1005
            clear hy1005
            have H' := Aside0.mk H
            clear H
            have hcz19_0 : wr.cell? ⟨gb999, 0, none⟩ = some (.int .i64 a0_0) := (blk_cell BK999.out 0).trans rfl
            have hcz19_1 : wr.cell? ⟨gb999, 1, none⟩ = some (.slice A0_1 l0_1.length c0_1) := (blk_cell BK999.out 1).trans rfl
            have hfz19_0 := blk_frozen BK999.out 0
            have hfz19_1 := blk_frozen BK999.out 1
            go_wp2_with (first | ((with_reducible refine gate_callee (f := 46) rfl ?_); refine goesM_ (some 29) rfl rfl Try.func46 (by kernel_rfl) rfl #[.agg #[.int .i64 a0_0, .slice A0_1 l0_1.length c0_1], .int .i64 x4_1, .int .i64 x21_2] rfl ?_; (with_reducible refine (impl_Multiplicity.calls k2 a0_0 _ _ l0_1 x4_1 x21_2 t1004 _ ?side1 ?side2 A15.out).mono ?_); (case side1 => exact Cz ((Kd.C_below HR0_1.out HB.out))); (case side2 => exact HC0_1.out); rintro e w20 ⟨rfl, hb⟩; refine ⟨_, rfl, ?_⟩; replace HO_3 := Aside0.mk (Kd.S_below (by (with_reducible repeat (first | apply Kd.S_alloc | apply Kd.S_drewN | apply Kd.S_drew)); exact HO_3.out) hb); replace HO_5 := Aside0.mk (Kd.R_below (Rz HO_5) hb); replace BK999 := Aside0.mk (blk_below (g := gb999) (o := .cells #[.int .i64 a0_0, .slice A0_1 l0_1.length c0_1] 31 (0, 0)) (Bz BK999) hb); replace HB := Aside0.mk (below_step (by exact Lz1 HB GE999) hb); (try clear hb); (try clear hb2); (try clear hk); (try clear hi); have p18 : 0 ≤ (x21_2 : Int) := ofA; have q18 : (x21_2 : Int) < ((x5_2.length : Int) : Int) := ofA; obtain ⟨go18, co18, eo18, gb18, gl18, cl18, HG18⟩ := Kd.R_form HO_5.out (by omega); (first | cases eo18 | (injection eo18 with ea_ en_ ec_; (first | subst ea_ | (injection ea_ with ea_; subst ea_)); subst ec_; clear en_)); have GB18 := Aside0.mk gb18; have GG18 := Aside0.mk HG18; clear gb18 gl18 HG18; obtain ⟨hx18_0, hf18_0⟩ := Kd.R_celln 0 HO_5.out (x21_2 : Int) p18 q18; replace p18 := eq_true p18; replace q18 := eq_true q18; obtain ⟨hy21_, hz21_⟩ := Kd.R_celln 0 HO_5.out (x21_2 : Int) (ofA) (ofA); have HP21 := Kd.R_putg HO_5.out (x21_2 : Int) (wrap64 (-t1004))) | ((with_reducible refine gate_store (t := 3) (p := 31) rfl ?_); refine store_event (t := 3) (p := 31) (v := ?vo_w22) (w1 := (w20.setCell ⟨go18, (x21_2 : Int).toNat, none⟩ (.int .i64 (wrap64 (-t1004))))) ?hg ?ho ?hn ?hr ?_; (case ho => rfl); (case hg => rfl); (case hn => rfl); (case hr => first | (go_simp; done) | (go_simp; rfl)); intro w22 hw; have hg : w20.grownBy w22 (some go18) := (by rw [hw]; exact HP21.2); have hp_ : Kd.R (Kd.int .i64) 3 w22 w.heap.size (fun _ => True) (.slice (some ⟨go18, 0, none⟩) x5_2.length co13) y1005 := (by rw [hw, Ny1005.out]; exact HP21.1); clear HP21; replace HO_3 := Aside0.mk (Kd.S_after (v := (.slice (some ⟨go18, 0, none⟩) x5_2.length co13)) (v1 := (.slice (some ⟨go18, 0, none⟩) x5_2.length co13)) (ok := (fun _ => True)) (by (with_reducible repeat (first | apply Kd.S_alloc | apply Kd.S_drewN | apply Kd.S_drew)); exact Kd.S_mono HO_3.out (fun _ hk => ⟨trivial, hk⟩)) hg (.inl rfl)); replace BK999 := Aside0.mk (blk_grown (g := gb999) (o := .cells #[.int .i64 a0_0, .slice A0_1 l0_1.length c0_1] 31 (0, 0)) (Bz BK999) hg (Kd.R_ne HO_5.out BK999.out (by decide))); replace HO_5 := Aside0.mk (hp_); replace HB := Aside0.mk ((by rw [hw]; exact below_set (HB.out) GB18.out : Below w.heap.size w w22)); clear hg hw hp_))
            (try simp only [← hl5_2])
            go_roundg k2
            case measure => have := HK1.out; have := HK2.out; omega
            case rel => exact ⟨(y1005), (wrap64 (x21_2 + 1)), eqA, H', ⟨by have := HK1.out; have := HK2.out; omega⟩, ⟨by (try simp only [hl5_2]); (with_reducible repeat (first | apply Kd.S_alloc | apply Kd.S_drewN | apply Kd.S_drew)); exact Kd.S_mono HO_3.out (fun _ hk => hk.2)⟩, ⟨by (try simp only [hl5_2]); exact Rz HO_5⟩, ⟨by (try simp only [hl5_2]); exact Bz BK999⟩, ⟨by exact Lz1 HB GE999⟩⟩
           rw [if_neg c17] at H
           exact absurd H (by simp)
          rw [if_neg c16] at H
          exact absurd H (by simp)
         rw [if_neg c14] at H
         have c14b0 : decide (x21_2 < (y1001.length : Int)) = false := decide_eq_false c14
         (try simp only [hl5_2] at c14b0)
         clear c14
         replace H := Option.bind_eq_some_iff.mp H
         obtain ⟨t1006, A230, H⟩ := H
         replace H : (if 0 ≤ x4_1 then (if x4_1 < (x5_2.length : Int) then (if x3_1.length < 5864062014805 then (impl_LaplacianOf.l0 k2 (x3_1 ++ [(x5_2.set (x4_1 : Int).toNat t1006)]) (wrap64 (x4_1 + 1)) a0_0 l0_1) else (none)) else (none)) else (none)) = some r := H
         have A23 := Aside0.mk A230
         clear A230
         by_cases c24 : 0 ≤ x4_1
         ·rw [if_pos c24] at H
          have c24b0 : decide (0 ≤ x4_1) = true := decide_eq_true c24
          clear c24
          by_cases c25 : x4_1 < (x5_2.length : Int)
          ·rw [if_pos c25] at H
           have c25b0 : decide (x4_1 < (x5_2.length : Int)) = true := decide_eq_true c25
           (try simp only [hl5_2] at c25b0)
           clear c25
           obtain ⟨y1007, hy1007⟩ : ∃ y_ : List Int, y_ = (x5_2.set (x4_1 : Int).toNat t1006) := ⟨_, rfl⟩
           replace H : (if x3_1.length < 5864062014805 then (impl_LaplacianOf.l0 k2 (x3_1 ++ [y1007]) (wrap64 (x4_1 + 1)) a0_0 l0_1) else (none)) = some r := by first | (rw [hy1007]; with_reducible exact H) | (have H2_ := (Option.bind_some _ _).symm.trans H; rw [hy1007]; with_reducible exact H2_) | (have H2_ := (Option.bind_some _ _).symm.trans H; with_reducible exact H2_) | with_reducible exact H | (rw [hy1007]; exact H) | exact H
           have Ny1007 := Aside0.mk hy1007
           clear hy1007
           by_cases c27 : x3_1.length < 5864062014805
           ·rw [if_pos c27] at H
            have LMc27 := Aside0.mk c27
            clear c27
            obtain ⟨y1008, hy1008⟩ : ∃ y_ : List (List Int), y_ = (x3_1 ++ [y1007]) := ⟨_, rfl⟩
            replace H : (impl_LaplacianOf.l0 k2 y1008 (wrap64 (x4_1 + 1)) a0_0 l0_1) = some r := by first | (rw [hy1008]; with_reducible exact H) | (have H2_ := (Option.bind_some _ _).symm.trans H; rw [hy1008]; with_reducible exact H2_) | (have H2_ := (Option.bind_some _ _).symm.trans H; with_reducible exact H2_) | with_reducible exact H | (rw [hy1008]; exact H) | exact H
            have Ny1008 := Aside0.mk hy1008
            clear hy1008
            have H' := Aside0.mk H
            clear H
            have hcz28_0 : wr.cell? ⟨gb999, 0, none⟩ = some (.int .i64 a0_0) := (blk_cell BK999.out 0).trans rfl
            have hcz28_1 : wr.cell? ⟨gb999, 1, none⟩ = some (.slice A0_1 l0_1.length c0_1) := (blk_cell BK999.out 1).trans rfl
            have hfz28_0 := blk_frozen BK999.out 0
            have hfz28_1 := blk_frozen BK999.out 1
            go_wp2_with (first | ((with_reducible refine gate_callee (f := 47) rfl ?_); refine goesM_ (some 37) rfl rfl Try.func47 (by kernel_rfl) rfl #[.agg #[.int .i64 a0_0, .slice A0_1 l0_1.length c0_1], .int .i64 x4_1] rfl ?_; (with_reducible refine (impl_Valence.calls k2 a0_0 _ _ l0_1 x4_1 t1006 _ ?side1 ?side2 A23.out).mono ?_); (case side1 => exact Cz ((Kd.C_below HR0_1.out HB.out))); (case side2 => exact HC0_1.out); rintro e w29 ⟨rfl, hb⟩; refine ⟨_, rfl, ?_⟩; replace HO_3 := Aside0.mk (Kd.S_below (by (with_reducible repeat (first | apply Kd.S_alloc | apply Kd.S_drewN | apply Kd.S_drew)); exact HO_3.out) hb); replace HO_5 := Aside0.mk (Kd.R_below (Rz HO_5) hb); replace BK999 := Aside0.mk (blk_below (g := gb999) (o := .cells #[.int .i64 a0_0, .slice A0_1 l0_1.length c0_1] 31 (0, 0)) (Bz BK999) hb); replace HB := Aside0.mk (below_step (by exact Lz1 HB GE999) hb); (try clear hb); (try clear hb2); (try clear hk); (try clear hi); have p26 : 0 ≤ (x4_1 : Int) := ofA; have q26 : (x4_1 : Int) < ((x5_2.length : Int) : Int) := ofA; obtain ⟨go26, co26, eo26, gb26, gl26, cl26, HG26⟩ := Kd.R_form HO_5.out (by omega); (first | cases eo26 | (injection eo26 with ea_ en_ ec_; (first | subst ea_ | (injection ea_ with ea_; subst ea_)); subst ec_; clear en_)); have GB26 := Aside0.mk gb26; have GG26 := Aside0.mk HG26; clear gb26 gl26 HG26; obtain ⟨hx26_0, hf26_0⟩ := Kd.R_celln 0 HO_5.out (x4_1 : Int) p26 q26; replace p26 := eq_true p26; replace q26 := eq_true q26; obtain ⟨hy30_, hz30_⟩ := Kd.R_celln 0 HO_5.out (x4_1 : Int) (ofA) (ofA); have HP30 := Kd.R_putg HO_5.out (x4_1 : Int) t1006) | ((with_reducible refine gate_store (t := 3) (p := 38) rfl ?_); refine store_event (t := 3) (p := 38) (v := ?vo_w31) (w1 := (w29.setCell ⟨go26, (x4_1 : Int).toNat, none⟩ (.int .i64 t1006))) ?hg ?ho ?hn ?hr ?_; (case ho => rfl); (case hg => rfl); (case hn => rfl); (case hr => first | (go_simp; done) | (go_simp; rfl)); intro w31 hw; have hg : w29.grownBy w31 (some go26) := (by rw [hw]; exact HP30.2); have hp_ : Kd.R (Kd.int .i64) 3 w31 w.heap.size (fun _ => True) (.slice (some ⟨go26, 0, none⟩) x5_2.length co13) y1007 := (by rw [hw, Ny1007.out]; exact HP30.1); clear HP30; replace HO_3 := Aside0.mk (Kd.S_after (v := (.slice (some ⟨go26, 0, none⟩) x5_2.length co13)) (v1 := (.slice (some ⟨go26, 0, none⟩) x5_2.length co13)) (ok := (fun _ => True)) (by (with_reducible repeat (first | apply Kd.S_alloc | apply Kd.S_drewN | apply Kd.S_drew)); exact Kd.S_mono HO_3.out (fun _ hk => ⟨trivial, hk⟩)) hg (.inl rfl)); replace BK999 := Aside0.mk (blk_grown (g := gb999) (o := .cells #[.int .i64 a0_0, .slice A0_1 l0_1.length c0_1] 31 (0, 0)) (Bz BK999) hg (Kd.R_ne HO_5.out BK999.out (by decide))); replace HO_5 := Aside0.mk (hp_); replace HB := Aside0.mk ((by rw [hw]; exact below_set (HB.out) GB26.out : Below w.heap.size w w31)); clear hg hw hp_) | ((with_reducible refine gate_builtin (b := .append) (xs := #[.tmp 39, .tmp 41]) rfl ?_); at_builtin; refine Kd.S_append (Kd.slice 3 (Kd.int .i64)) (w0 := w) w.heap.size rfl (.tmp 39) (.tmp 41) 57 25 (.slice none 0 0) 24 rfl Try.underlying57 info25 rfl (by decide) (by omega) u3 x3_1 y1007 [.slice (some ⟨go26, 0, none⟩) x5_2.length co13] (fun _ => True) (fun k_ => some k_ = (.slice (some ⟨go26, 0, none⟩) x5_2.length co13 : Value).ownBlock) rfl rfl ?aP (fun k_ hk_ => ((Kd.R_mono (ok' := fun k_ => ((fun _ => True)) k_ ∧ some k_ ≠ (u3 : Value).ownBlock) (Kd.R_apart' (HO_5.out) (Kd.S_typed HO_3.out) (by decide)) (fun k_ hk => ⟨trivial, hk.2⟩))).1 k_ hk_.symm) ?aF ?aO ?aB ?aS ?aL ?_; (case aP => exact Kd.M_row (Kd.R_mono (Kd.R_tight rfl (Kd.R_mono (ok' := fun k_ => ((fun _ => True)) k_ ∧ some k_ ≠ (u3 : Value).ownBlock) (Kd.R_apart' (HO_5.out) (Kd.S_typed HO_3.out) (by decide)) (fun k_ hk => ⟨trivial, hk.2⟩))) (fun _ h_ => h_))); (case aB => exact (by exact Lz1 HB GE999)); (case aF => exact (fun _ _ => trivial)); (case aO => exact (by (with_reducible repeat (first | apply Kd.S_alloc | apply Kd.S_drewN | apply Kd.S_drew)); exact Kd.S_mono HO_3.out (fun k_ hk => ⟨trivial, fun e_ => hk.2 e_⟩))); (case aS => exact (below_size (by exact Lz1 HB GE999))); (case aL => have := LMc27.out; omega); intro v1009 w32 ho hb hg hat; rw [← Ny1008.out] at ho; replace BK999 := Aside0.mk (blk_grown (g := gb999) (o := .cells #[.int .i64 a0_0, .slice A0_1 l0_1.length c0_1] 31 (0, 0)) (Bz BK999) hg (Kd.S_ne HO_3.out BK999.out (by decide))); replace HB := Aside0.mk (hb); have HO1010 := Aside0.mk (ho); clear HO_3 HO_5; clear ho hb hg hat))
            (try simp only [← hl5_2])
            go_roundg k2
            case measure => have := HK1.out; have := HK2.out; omega
            case rel => exact ⟨(y1008), (wrap64 (x4_1 + 1)), eqA, H', ⟨by have := HK1.out; have := HK2.out; omega⟩, ⟨by (try simp only [hl5_2]); (with_reducible repeat (first | apply Kd.S_alloc | apply Kd.S_drewN | apply Kd.S_drew)); exact HO1010.out⟩, ⟨by (try simp only [hl5_2]); exact Bz BK999⟩, ⟨by exact Lz1 HB GE999⟩⟩
           rw [if_neg c27] at H
           exact absurd H (by simp)
          rw [if_neg c25] at H
          exact absurd H (by simp)
         rw [if_neg c24] at H
         exact absurd H (by simp)
      rw [if_neg c9] at H
      exact absurd H (by simp)
     rw [if_neg c8] at H
     exact absurd H (by simp)
    rw [if_neg c7] at H
    have c7b0 : decide (x4_1 < a0_0) = false := decide_eq_false c7
    clear c7
    obtain rfl := Option.some.inj H
    have hcz33_0 : wr.cell? ⟨gb999, 0, none⟩ = some (.int .i64 a0_0) := (blk_cell BK999.out 0).trans rfl
    have hcz33_1 : wr.cell? ⟨gb999, 1, none⟩ = some (.slice A0_1 l0_1.length c0_1) := (blk_cell BK999.out 1).trans rfl
    have hfz33_0 := blk_frozen BK999.out 0
    have hfz33_1 := blk_frozen BK999.out 1
    go_wp2
    go_ret
    exact ⟨_, by first | rfl | (simp [errW_none, errW_some] <;> rfl) | (simp [*, errW_none, errW_some] <;> rfl), by (with_reducible repeat (first | apply Kd.S_alloc | apply Kd.S_drewN | apply Kd.S_drew)); exact HO_3.out, by exact Lz1 HB GE999⟩
 replace c3 := Bool.eq_false_iff.mpr c3
 subst c3
 have H1 : (some ([] : List (List Int))) = some r := by rw [if_neg (show ¬ (false = true) by decide)] at H; exact H
 clear H
 have H := H1
 clear H1
 obtain rfl := Option.some.inj H
 go_enter Try.func43, Try.ntmps43
 go_wp2_with (first | ((with_reducible refine gate_dst (N := 1) rfl ?_); refine box_event ?hg (N := 1) ?hd (cs := #[.int .i64 a0_0, .slice A0_1 l0_1.length c0_1]) (t := 31) ?hr ?_; (case hd => rfl); (case hg => rfl); (case hr => first | (go_simp; done) | (go_simp; rfl)); intro gb999 hg w34 hbox hb; have BK999 := Aside0.mk (hbox); have GW999 := Aside0.mk ((by rw [hg]; exact (below_size (Lz HB)) : w.heap.size ≤ gb999)); have GE999 := Aside0.mk ((by rw [hg]; exact (below_size (Lz HB)) : w.heap.size ≤ gb999)); replace HB := Aside0.mk (below_step (Lz HB) hb); clear hb hbox hg; have hcz35_0 : w34.cell? ⟨gb999, 0, none⟩ = some (.int .i64 a0_0) := (blk_cell BK999.out 0).trans rfl; have hcz35_1 : w34.cell? ⟨gb999, 1, none⟩ = some (.slice A0_1 l0_1.length c0_1) := (blk_cell BK999.out 1).trans rfl; have hfz35_0 := blk_frozen BK999.out 0; have hfz35_1 := blk_frozen BK999.out 1) | ((with_reducible refine gate_callee (f := 50) rfl ?_); refine goesM_ (some 8) rfl rfl Try.func50 (by kernel_rfl) rfl #[.agg #[.int .i64 a0_0, .slice A0_1 l0_1.length c0_1]] rfl ?_; (with_reducible refine (impl_GraphOk.calls k a0_0 _ _ l0_1 false _ ?side1 ?side2 A2.out).mono ?_); (case side1 => exact Cz ((Kd.C_below HR0_1.out HB.out))); (case side2 => exact HC0_1.out); rintro e w36 ⟨rfl, hb⟩; refine ⟨_, rfl, ?_⟩; replace BK999 := Aside0.mk (blk_below (g := gb999) (o := .cells #[.int .i64 a0_0, .slice A0_1 l0_1.length c0_1] 31 (0, 0)) (Bz BK999) hb); replace HB := Aside0.mk (below_step (by exact Lz1 HB GE999) hb); (try clear hb); (try clear hb2); (try clear hk); (try clear hi)))
 go_ret
 exact ⟨_, by first | rfl | (simp [errW_none, errW_some] <;> rfl) | (simp [*, errW_none, errW_some] <;> rfl), by first | exact Kd.S_nil _ _ _ _ _ | exact Kd.N_nil _ _ _ _ _ | exact Kd.V_nil _ _ _ _ _ | exact Kd.Q_nil _ _ _ _ _ | exact Kd.R_nil _ _ _ _ _, by exact Lz1 HB GE999⟩
def impl_sumOf.l0 : Nat → Int → List Int → Int → Int → Option (Int)
 | 0, _, _, _, _ => none
 | k + 1, x3, x6, x7, x8 => if x8 < x7 then (if 0 ≤ x8 then (if x8 < (x6.length : Int) then (impl_sumOf.l0 k (wrap64 (x3 + (rd x6 x8))) x6 x7 (wrap64 (x8 + 1))) else (none)) else (none)) else (some x3)
def impl_sumOf.f (k : Nat) (l0 : List Int) : Option (Int) := impl_sumOf.l0 k 0 l0 (l0.length : Int) 0
set_option maxHeartbeats 8000000 in
set_option maxRecDepth 100000 in
theorem impl_sumOf.calls (k : Nat) (A0 : Option Addr) (c0 : Nat) (l0 : List Int) (r : Int) (w : World) (hr0 : Kd.C (Kd.int .i64) w A0 l0.length l0) (hc0 : l0.length ≤ c0) (h : impl_sumOf.f k l0 = some r) :
  Calls Try.prog 83 #[.slice A0 l0.length c0] w fun e w' => e = .returned (.int .i64 r) ∧ Drawn0 w w' := by
 have HR0 := Aside0.mk hr0
 have HC0 := Aside0.mk hc0
 clear hr0 hc0
 have H : (impl_sumOf.l0 k 0 l0 (l0.length : Int) 0) = some r := h
 clear h
 have H' := Aside0.mk H
 clear H
 go_enter Try.func83, Try.ntmps83
 go_wp2
 go_loopg [3, 8] k (fun kq v3 v8 w' => ∃ (x3_1 : Int) (x8_1 : Int), v3 = .int .i64 x3_1 ∧ v8 = .int .i64 x8_1 ∧ Aside0 (impl_sumOf.l0 kq x3_1 l0 (l0.length : Int) x8_1 = some r) ∧ Aside0 (kq ≤ k) ∧ Drawn0 w w')
 case atStart => exact ⟨(0), (0), eqA, eqA, H', ⟨Nat.le_refl _⟩, by repeat (first | exact Drawn0.refl _ | apply Drawn0.step)⟩
 case round =>
  clear H'
  obtain ⟨x3_1, x8_1, rfl, rfl, HA, HK1, ⟨m1, rfl⟩⟩ := hrel
  cases gk with
  | zero => exact absurd HA.out (by simp [impl_sumOf.l0])
  | succ k1 =>
   have H := HA.out
   clear HA
   simp only [impl_sumOf.l0] at H
   by_cases c2 : x8_1 < (l0.length : Int)
   ·rw [if_pos c2] at H
    have c2b0 : decide (x8_1 < (l0.length : Int)) = true := decide_eq_true c2
    clear c2
    by_cases c3 : 0 ≤ x8_1
    ·rw [if_pos c3] at H
     have c3b0 : decide (0 ≤ x8_1) = true := decide_eq_true c3
     clear c3
     by_cases c4 : x8_1 < (l0.length : Int)
     ·rw [if_pos c4] at H
      have c4b0 : decide (x8_1 < (l0.length : Int)) = true := decide_eq_true c4
      clear c4
      have H' := Aside0.mk H
      clear H
      have p346 : 0 ≤ (x8_1 : Int) := ofA
      have q346 : x8_1 < (l0.length : Int) := ofA
      obtain ⟨ad346, e346, hx346_0⟩ := Kd.at_int HR0.out x8_1 p346 q346
      cases e346
      replace p346 := eq_true p346
      replace q346 := eq_true q346
      go_wp2
      go_roundg k1
      case measure => have := HK1.out; omega
      case rel => exact ⟨(wrap64 (x3_1 + (rd l0 x8_1))), (wrap64 (x8_1 + 1)), eqA, eqA, H', ⟨by have := HK1.out; omega⟩, by repeat (first | exact Drawn0.refl _ | apply Drawn0.step)⟩
     rw [if_neg c4] at H
     exact absurd H (by simp)
    rw [if_neg c3] at H
    exact absurd H (by simp)
   rw [if_neg c2] at H
   have c2b0 : decide (x8_1 < (l0.length : Int)) = false := decide_eq_false c2
   clear c2
   obtain rfl := Option.some.inj H
   go_wp2
   go_ret
   exact ⟨eqA, by repeat (first | exact Drawn0.refl _ | apply Drawn0.step)⟩
def impl_DegreeOf.f (k : Nat) (l0 : List Int) : Option (Int) := (impl_sumOf.f k l0).bind fun t1011 => (some t1011)
set_option maxHeartbeats 8000000 in
set_option maxRecDepth 100000 in
theorem impl_DegreeOf.calls (k : Nat) (A0 : Option Addr) (c0 : Nat) (l0 : List Int) (r : Int) (w : World) (hr0 : Kd.C (Kd.int .i64) w A0 l0.length l0) (hc0 : l0.length ≤ c0) (h : impl_DegreeOf.f k l0 = some r) :
  Calls Try.prog 44 #[.slice A0 l0.length c0] w fun e w' => e = .returned (.int .i64 r) ∧ Drawn0 w w' := by
 have HR0 := Aside0.mk hr0
 have HC0 := Aside0.mk hc0
 clear hr0 hc0
 have H : ((impl_sumOf.f k l0).bind fun t1011 => (some t1011)) = some r := h
 clear h
 replace H := Option.bind_eq_some_iff.mp H
 obtain ⟨t1011, A20, H⟩ := H
 replace H : (some t1011) = some r := H
 have A2 := Aside0.mk A20
 clear A20
 obtain rfl := Option.some.inj H
 go_enter Try.func44, Try.ntmps44
 go_wp2_with (first | ((with_reducible refine gate_callee (f := 83) rfl ?_); refine goesM_ (some 4) rfl rfl Try.func83 (by kernel_rfl) rfl #[.slice A0 l0.length c0] rfl ?_; (with_reducible refine (impl_sumOf.calls k _ _ l0 t1011 _ ?side1 ?side2 A2.out).mono ?_); (case side1 => exact Cz (HR0.out)); (case side2 => exact HC0.out); rintro e w' ⟨rfl, ⟨nd, rfl⟩⟩; refine ⟨_, rfl, ?_⟩))
 go_ret
 exact ⟨eqA, by repeat (first | exact Drawn0.refl _ | apply Drawn0.step)⟩
end Go.Proofs.Ytbcfccdoffbncaa.P
end
