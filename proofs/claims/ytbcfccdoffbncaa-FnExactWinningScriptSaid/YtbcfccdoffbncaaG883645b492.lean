/- Functions of the program as plain Lean functions and that the machine's calls answer as they do, the words of the print that these use, lemmas and plain proofs of laws. Put together by a program of this work that leaves out what nothing uses; Lean checks it. -/
import Derived.Test.YtbcfccdoffbncaaG91cfef8bc8
import Derived.Test.YtbcfccdoffbncaaGf5a3b49cd5
import Derived.Test.YtbcfccdoffbncaaGb6f675d6d4
import Derived.Test.YtbcfccdoffbncaaGaf92878072
import Derived.Test.YtbcfccdoffbncaaG5ad5ad0716
import Derived.Test.YtbcfccdoffbncaaG850dd489cc
section
namespace Go.Proofs.Ytbcfccdoffbncaa.P
open Go.RowKit Go.Proofs.YtbcfccdoffbncaaW.PrintWords Go.Proofs.YtbcfccdoffbncaaW.PrintLast Go.Proofs.YtbcfccdoffbncaaW.PrintMore
attribute [local go_sem] max2_int min2_int max_two min_two max_three min_three max_four min_four
set_option linter.unusedVariables false
set_option linter.unusedSimpArgs false
def spec_ReducedOf.f (k : Nat) (a0_0 : Int) (l0_1 : List (S67)) (l1 : List Int) (a2 : Int) : Option (List Int × Bool) := (spec_l05Ok.f k a0_0 l0_1 l1 a2).bind fun t210 => (if t210 = true then ((spec_l05Reduce.f k a0_0 l0_1 l1 a2).bind fun bt211 => (some (bt211.1, true))) else (some (([] : List Int), false)))
set_option maxHeartbeats 8000000 in
set_option maxRecDepth 100000 in
theorem spec_ReducedOf.calls (k : Nat) (a0_0 : Int) (A0_1 : Option Addr) (c0_1 : Nat) (l0_1 : List (S67)) (A1 : Option Addr) (c1 : Nat) (l1 : List Int) (a2 : Int) (r1 : List Int) (r2 : Bool) (w : World) (hr0_1 : Kd.C k67 w A0_1 l0_1.length l0_1) (hc0_1 : l0_1.length ≤ c0_1) (hr1 : Kd.C (Kd.int .i64) w A1 l1.length l1) (hc1 : l1.length ≤ c1) (h : spec_ReducedOf.f k a0_0 l0_1 l1 a2 = some (r1, r2)) :
  Calls Try.prog 114 #[.agg #[.int .i64 a0_0, .slice A0_1 l0_1.length c0_1], .slice A1 l1.length c1, .int .i64 a2] w fun e w' => ∃ v0_ : Value, e = .returned (.tuple #[v0_, .bool r2]) ∧ Kd.R (Kd.int .i64) 3 w' w.heap.size (fun _ => True) v0_ r1 ∧ Below w.heap.size w w' := by
 have hu31 := Try.underlying31
 have HR0_1 := Aside0.mk hr0_1
 have HC0_1 := Aside0.mk hc0_1
 clear hr0_1 hc0_1
 have HR1 := Aside0.mk hr1
 have HC1 := Aside0.mk hc1
 clear hr1 hc1
 have HB := Aside0.mk (Below.refl w.heap.size w)
 have H : ((spec_l05Ok.f k a0_0 l0_1 l1 a2).bind fun t210 => (if t210 = true then ((spec_l05Reduce.f k a0_0 l0_1 l1 a2).bind fun bt211 => (some (bt211.1, true))) else (some (([] : List Int), false)))) = some (r1, r2) := h
 clear h
 replace H := Option.bind_eq_some_iff.mp H
 obtain ⟨t210, A40, H⟩ := H
 replace H : (if t210 = true then ((spec_l05Reduce.f k a0_0 l0_1 l1 a2).bind fun bt211 => (some (bt211.1, true))) else (some (([] : List Int), false))) = some (r1, r2) := H
 have A4 := Aside0.mk A40
 clear A40
 by_cases c5 : t210 = true
 ·subst c5
  have H1 : ((spec_l05Reduce.f k a0_0 l0_1 l1 a2).bind fun bt211 => (some (bt211.1, true))) = some (r1, r2) := by rw [if_pos rfl] at H; exact H
  clear H
  have H := H1
  clear H1
  replace H := Option.bind_eq_some_iff.mp H
  obtain ⟨⟨t211, t214⟩, A60, H⟩ := H
  replace H : (some (t211, true)) = some (r1, r2) := H
  have A6 := Aside0.mk A60
  clear A60
  simp only [Option.some.injEq, Prod.mk.injEq] at H
  obtain ⟨rfl, rfl⟩ := H
  go_enter Try.func114, Try.ntmps114
  go_wp2_with (first | ((with_reducible refine gate_dst (N := 3) rfl ?_); refine box_event ?hg (N := 3) ?hd (cs := #[.int .i64 a0_0, .slice A0_1 l0_1.length c0_1]) (t := 31) ?hr ?_; (case hd => rfl); (case hg => rfl); (case hr => first | (go_simp; done) | (go_simp; rfl)); intro gb209 hg w7 hbox hb; have BK209 := Aside0.mk (hbox); have GW209 := Aside0.mk ((by rw [hg]; exact (below_size (Lz HB)) : w.heap.size ≤ gb209)); have GE209 := Aside0.mk ((by rw [hg]; exact (below_size (Lz HB)) : w.heap.size ≤ gb209)); replace HB := Aside0.mk (below_step (Lz HB) hb); clear hb hbox hg; have hcz8_0 : w7.cell? ⟨gb209, 0, none⟩ = some (.int .i64 a0_0) := (blk_cell BK209.out 0).trans rfl; have hcz8_1 : w7.cell? ⟨gb209, 1, none⟩ = some (.slice A0_1 l0_1.length c0_1) := (blk_cell BK209.out 1).trans rfl; have hfz8_0 := blk_frozen BK209.out 0; have hfz8_1 := blk_frozen BK209.out 1) | ((with_reducible refine gate_callee (f := 130) rfl ?_); refine goesM_ (some 13) rfl rfl Try.func130 (by kernel_rfl) rfl #[.agg #[.int .i64 a0_0, .slice A0_1 l0_1.length c0_1], .slice A1 l1.length c1, .int .i64 a2] rfl ?_; (with_reducible refine (spec_l05Ok.calls k a0_0 _ _ l0_1 _ _ l1 a2 true _ ?side1 ?side2 ?side3 ?side4 A4.out).mono ?_); (case side1 => exact Cz ((Kd.C_below HR0_1.out HB.out))); (case side2 => exact HC0_1.out); (case side3 => exact Cz ((Kd.C_below HR1.out HB.out))); (case side4 => exact HC1.out); rintro e w9 ⟨rfl, hb⟩; refine ⟨_, rfl, ?_⟩; replace BK209 := Aside0.mk (blk_below (g := gb209) (o := .cells #[.int .i64 a0_0, .slice A0_1 l0_1.length c0_1] 31 (0, 0)) (Bz BK209) hb); replace HB := Aside0.mk (below_step (by exact Lz1 HB GE209) hb); (try clear hb); (try clear hb2); (try clear hk); (try clear hi); have hcz10_0 : w9.cell? ⟨gb209, 0, none⟩ = some (.int .i64 a0_0) := (blk_cell BK209.out 0).trans rfl; have hcz10_1 : w9.cell? ⟨gb209, 1, none⟩ = some (.slice A0_1 l0_1.length c0_1) := (blk_cell BK209.out 1).trans rfl; have hfz10_0 := blk_frozen BK209.out 0; have hfz10_1 := blk_frozen BK209.out 1) | ((with_reducible refine gate_callee (f := 56) rfl ?_); refine goesM_ (some 19) rfl rfl Try.func56 (by kernel_rfl) rfl #[.agg #[.int .i64 a0_0, .slice A0_1 l0_1.length c0_1], .slice A1 l1.length c1, .int .i64 a2] rfl ?_; (with_reducible refine (spec_l05Reduce.calls k a0_0 _ _ l0_1 _ _ l1 a2 t211 t214 _ ?side1 ?side2 ?side3 ?side4 A6.out).mono ?_); (case side1 => exact Cz ((Kd.C_below HR0_1.out HB.out))); (case side2 => exact HC0_1.out); (case side3 => exact Cz ((Kd.C_below HR1.out HB.out))); (case side4 => exact HC1.out); rintro e w11 ⟨v212, v215, rfl, ho0, ho1, hb⟩; refine ⟨_, rfl, ?_⟩; have HO213 := Aside0.mk (Kd.R_lower ho0 (below_size (by exact Lz1 HB GE209))); have HO216 := Aside0.mk (Kd.R_lower ho1 (below_size (by exact Lz1 HB GE209))); replace BK209 := Aside0.mk (blk_below (g := gb209) (o := .cells #[.int .i64 a0_0, .slice A0_1 l0_1.length c0_1] 31 (0, 0)) (Bz BK209) hb); replace HB := Aside0.mk (below_step (by exact Lz1 HB GE209) hb); (try clear hb); (try clear ho0); (try clear ho1)))
  go_ret2
  exact ⟨_, by first | rfl | (simp [errW_none, errW_some] <;> rfl) | (simp [*, errW_none, errW_some] <;> rfl), by (with_reducible repeat (first | apply Kd.R_alloc | apply Kd.R_drewN | apply Kd.R_drew)); exact Kd.R_mono HO213.out (fun _ hk => trivial), by exact Lz1 HB GE209⟩
 replace c5 := Bool.eq_false_iff.mpr c5
 subst c5
 have H1 : (some (([] : List Int), false)) = some (r1, r2) := by rw [if_neg (show ¬ (false = true) by decide)] at H; exact H
 clear H
 have H := H1
 clear H1
 simp only [Option.some.injEq, Prod.mk.injEq] at H
 obtain ⟨rfl, rfl⟩ := H
 go_enter Try.func114, Try.ntmps114
 go_wp2_with (first | ((with_reducible refine gate_dst (N := 3) rfl ?_); refine box_event ?hg (N := 3) ?hd (cs := #[.int .i64 a0_0, .slice A0_1 l0_1.length c0_1]) (t := 31) ?hr ?_; (case hd => rfl); (case hg => rfl); (case hr => first | (go_simp; done) | (go_simp; rfl)); intro gb209 hg w12 hbox hb; have BK209 := Aside0.mk (hbox); have GW209 := Aside0.mk ((by rw [hg]; exact (below_size (Lz HB)) : w.heap.size ≤ gb209)); have GE209 := Aside0.mk ((by rw [hg]; exact (below_size (Lz HB)) : w.heap.size ≤ gb209)); replace HB := Aside0.mk (below_step (Lz HB) hb); clear hb hbox hg; have hcz13_0 : w12.cell? ⟨gb209, 0, none⟩ = some (.int .i64 a0_0) := (blk_cell BK209.out 0).trans rfl; have hcz13_1 : w12.cell? ⟨gb209, 1, none⟩ = some (.slice A0_1 l0_1.length c0_1) := (blk_cell BK209.out 1).trans rfl; have hfz13_0 := blk_frozen BK209.out 0; have hfz13_1 := blk_frozen BK209.out 1) | ((with_reducible refine gate_callee (f := 130) rfl ?_); refine goesM_ (some 13) rfl rfl Try.func130 (by kernel_rfl) rfl #[.agg #[.int .i64 a0_0, .slice A0_1 l0_1.length c0_1], .slice A1 l1.length c1, .int .i64 a2] rfl ?_; (with_reducible refine (spec_l05Ok.calls k a0_0 _ _ l0_1 _ _ l1 a2 false _ ?side1 ?side2 ?side3 ?side4 A4.out).mono ?_); (case side1 => exact Cz ((Kd.C_below HR0_1.out HB.out))); (case side2 => exact HC0_1.out); (case side3 => exact Cz ((Kd.C_below HR1.out HB.out))); (case side4 => exact HC1.out); rintro e w14 ⟨rfl, hb⟩; refine ⟨_, rfl, ?_⟩; replace BK209 := Aside0.mk (blk_below (g := gb209) (o := .cells #[.int .i64 a0_0, .slice A0_1 l0_1.length c0_1] 31 (0, 0)) (Bz BK209) hb); replace HB := Aside0.mk (below_step (by exact Lz1 HB GE209) hb); (try clear hb); (try clear hb2); (try clear hk); (try clear hi)))
 go_ret2
 exact ⟨_, by first | rfl | (simp [errW_none, errW_some] <;> rfl) | (simp [*, errW_none, errW_some] <;> rfl), by first | exact Kd.R_nil _ _ _ _ _ | exact Kd.N_nil _ _ _ _ _ | exact Kd.V_nil _ _ _ _ _ | exact Kd.Q_nil _ _ _ _ _ | exact Kd.S_nil _ _ _ _ _, by exact Lz1 HB GE209⟩
end Go.Proofs.Ytbcfccdoffbncaa.P
end
section
namespace Go.Proofs.Ytbcfccdoffbncaa.P
open Go.RowKit Go.Proofs.YtbcfccdoffbncaaW.PrintWords Go.Proofs.YtbcfccdoffbncaaW.PrintLast Go.Proofs.YtbcfccdoffbncaaW.PrintMore
attribute [local go_sem] max2_int min2_int max_two min_two max_three min_three max_four min_four
set_option linter.unusedVariables false
set_option linter.unusedSimpArgs false
def spec_ChipsAt.f (k : Nat) (a0_0 : Int) (l0_1 : List (S67)) (l1 : List Int) (a2 : Int) : Option (Int × Bool) := (spec_ReducedOf.f k a0_0 l0_1 l1 a2).bind fun bt218 => (if bt218.2 = true then (if 0 ≤ a2 then (if a2 < (bt218.1.length : Int) then (some (rd bt218.1 a2, true)) else (none)) else (none)) else (some (0, false)))
set_option maxHeartbeats 8000000 in
set_option maxRecDepth 100000 in
theorem spec_ChipsAt.calls (k : Nat) (a0_0 : Int) (A0_1 : Option Addr) (c0_1 : Nat) (l0_1 : List (S67)) (A1 : Option Addr) (c1 : Nat) (l1 : List Int) (a2 : Int) (r1 : Int) (r2 : Bool) (w : World) (hr0_1 : Kd.C k67 w A0_1 l0_1.length l0_1) (hc0_1 : l0_1.length ≤ c0_1) (hr1 : Kd.C (Kd.int .i64) w A1 l1.length l1) (hc1 : l1.length ≤ c1) (h : spec_ChipsAt.f k a0_0 l0_1 l1 a2 = some (r1, r2)) :
  Calls Try.prog 94 #[.agg #[.int .i64 a0_0, .slice A0_1 l0_1.length c0_1], .slice A1 l1.length c1, .int .i64 a2] w fun e w' => e = .returned (.tuple #[.int .i64 r1, .bool r2]) ∧ Below w.heap.size w w' := by
 have hu31 := Try.underlying31
 have HR0_1 := Aside0.mk hr0_1
 have HC0_1 := Aside0.mk hc0_1
 clear hr0_1 hc0_1
 have HR1 := Aside0.mk hr1
 have HC1 := Aside0.mk hc1
 clear hr1 hc1
 have HB := Aside0.mk (Below.refl w.heap.size w)
 have H : ((spec_ReducedOf.f k a0_0 l0_1 l1 a2).bind fun bt218 => (if bt218.2 = true then (if 0 ≤ a2 then (if a2 < (bt218.1.length : Int) then (some (rd bt218.1 a2, true)) else (none)) else (none)) else (some (0, false)))) = some (r1, r2) := h
 clear h
 replace H := Option.bind_eq_some_iff.mp H
 obtain ⟨⟨t218, t221⟩, A40, H⟩ := H
 replace H : (if t221 = true then (if 0 ≤ a2 then (if a2 < (t218.length : Int) then (some (rd t218 a2, true)) else (none)) else (none)) else (some (0, false))) = some (r1, r2) := H
 have A4 := Aside0.mk A40
 clear A40
 by_cases c5 : t221 = true
 ·subst c5
  have H1 : (if 0 ≤ a2 then (if a2 < (t218.length : Int) then (some (rd t218 a2, true)) else (none)) else (none)) = some (r1, r2) := by rw [if_pos rfl] at H; exact H
  clear H
  have H := H1
  clear H1
  by_cases c6 : 0 ≤ a2
  ·rw [if_pos c6] at H
   have c6b0 : decide (0 ≤ a2) = true := decide_eq_true c6
   clear c6
   by_cases c7 : a2 < (t218.length : Int)
   ·rw [if_pos c7] at H
    have c7b0 : decide (a2 < (t218.length : Int)) = true := decide_eq_true c7
    clear c7
    simp only [Option.some.injEq, Prod.mk.injEq] at H
    obtain ⟨rfl, rfl⟩ := H
    go_enter Try.func94, Try.ntmps94
    go_wp2_with (first | ((with_reducible refine gate_dst (N := 3) rfl ?_); refine box_event ?hg (N := 3) ?hd (cs := #[.int .i64 a0_0, .slice A0_1 l0_1.length c0_1]) (t := 31) ?hr ?_; (case hd => rfl); (case hg => rfl); (case hr => first | (go_simp; done) | (go_simp; rfl)); intro gb217 hg w8 hbox hb; have BK217 := Aside0.mk (hbox); have GW217 := Aside0.mk ((by rw [hg]; exact (below_size (Lz HB)) : w.heap.size ≤ gb217)); have GE217 := Aside0.mk ((by rw [hg]; exact (below_size (Lz HB)) : w.heap.size ≤ gb217)); replace HB := Aside0.mk (below_step (Lz HB) hb); clear hb hbox hg; have hcz9_0 : w8.cell? ⟨gb217, 0, none⟩ = some (.int .i64 a0_0) := (blk_cell BK217.out 0).trans rfl; have hcz9_1 : w8.cell? ⟨gb217, 1, none⟩ = some (.slice A0_1 l0_1.length c0_1) := (blk_cell BK217.out 1).trans rfl; have hfz9_0 := blk_frozen BK217.out 0; have hfz9_1 := blk_frozen BK217.out 1) | ((with_reducible refine gate_callee (f := 114) rfl ?_); refine goesM_ (some 14) rfl rfl Try.func114 (by kernel_rfl) rfl #[.agg #[.int .i64 a0_0, .slice A0_1 l0_1.length c0_1], .slice A1 l1.length c1, .int .i64 a2] rfl ?_; (with_reducible refine (spec_ReducedOf.calls k a0_0 _ _ l0_1 _ _ l1 a2 t218 true _ ?side1 ?side2 ?side3 ?side4 A4.out).mono ?_); (case side1 => exact Cz ((Kd.C_below HR0_1.out HB.out))); (case side2 => exact HC0_1.out); (case side3 => exact Cz ((Kd.C_below HR1.out HB.out))); (case side4 => exact HC1.out); rintro e w10 ⟨v219, rfl, ho0, hb⟩; refine ⟨_, rfl, ?_⟩; have HO220 := Aside0.mk (Kd.R_lower ho0 (below_size (by exact Lz1 HB GE217))); replace BK217 := Aside0.mk (blk_below (g := gb217) (o := .cells #[.int .i64 a0_0, .slice A0_1 l0_1.length c0_1] 31 (0, 0)) (Bz BK217) hb); replace HB := Aside0.mk (below_step (by exact Lz1 HB GE217) hb); (try clear hb); (try clear ho0); obtain ⟨Ao11, co11, eo11⟩ := Kd.R_slice HO220.out; subst eo11; have p222 : 0 ≤ (a2 : Int) := of_decide_eq_true (by first | (with_reducible assumption) | assumption); have q222 : a2 < (t218.length : Int) := of_decide_eq_true (by first | (with_reducible assumption) | assumption); obtain ⟨ad222, e222, hx222_0⟩ := Kd.at_int (Kd.R_reads' HO220.out).2.2 a2 p222 q222; cases e222; replace p222 := eq_true p222; replace q222 := eq_true q222))
    go_ret2
    exact ⟨by first | rfl | (simp [errW_none, errW_some] <;> rfl) | (simp [*, errW_none, errW_some] <;> rfl), by exact Lz1 HB GE217⟩
   rw [if_neg c7] at H
   exact absurd H (by simp)
  rw [if_neg c6] at H
  exact absurd H (by simp)
 replace c5 := Bool.eq_false_iff.mpr c5
 subst c5
 have H1 : (some (0, false)) = some (r1, r2) := by rw [if_neg (show ¬ (false = true) by decide)] at H; exact H
 clear H
 have H := H1
 clear H1
 simp only [Option.some.injEq, Prod.mk.injEq] at H
 obtain ⟨rfl, rfl⟩ := H
 go_enter Try.func94, Try.ntmps94
 go_wp2_with (first | ((with_reducible refine gate_dst (N := 3) rfl ?_); refine box_event ?hg (N := 3) ?hd (cs := #[.int .i64 a0_0, .slice A0_1 l0_1.length c0_1]) (t := 31) ?hr ?_; (case hd => rfl); (case hg => rfl); (case hr => first | (go_simp; done) | (go_simp; rfl)); intro gb217 hg w12 hbox hb; have BK217 := Aside0.mk (hbox); have GW217 := Aside0.mk ((by rw [hg]; exact (below_size (Lz HB)) : w.heap.size ≤ gb217)); have GE217 := Aside0.mk ((by rw [hg]; exact (below_size (Lz HB)) : w.heap.size ≤ gb217)); replace HB := Aside0.mk (below_step (Lz HB) hb); clear hb hbox hg; have hcz13_0 : w12.cell? ⟨gb217, 0, none⟩ = some (.int .i64 a0_0) := (blk_cell BK217.out 0).trans rfl; have hcz13_1 : w12.cell? ⟨gb217, 1, none⟩ = some (.slice A0_1 l0_1.length c0_1) := (blk_cell BK217.out 1).trans rfl; have hfz13_0 := blk_frozen BK217.out 0; have hfz13_1 := blk_frozen BK217.out 1) | ((with_reducible refine gate_callee (f := 114) rfl ?_); refine goesM_ (some 14) rfl rfl Try.func114 (by kernel_rfl) rfl #[.agg #[.int .i64 a0_0, .slice A0_1 l0_1.length c0_1], .slice A1 l1.length c1, .int .i64 a2] rfl ?_; (with_reducible refine (spec_ReducedOf.calls k a0_0 _ _ l0_1 _ _ l1 a2 t218 false _ ?side1 ?side2 ?side3 ?side4 A4.out).mono ?_); (case side1 => exact Cz ((Kd.C_below HR0_1.out HB.out))); (case side2 => exact HC0_1.out); (case side3 => exact Cz ((Kd.C_below HR1.out HB.out))); (case side4 => exact HC1.out); rintro e w14 ⟨v219, rfl, ho0, hb⟩; refine ⟨_, rfl, ?_⟩; have HO220 := Aside0.mk (Kd.R_lower ho0 (below_size (by exact Lz1 HB GE217))); replace BK217 := Aside0.mk (blk_below (g := gb217) (o := .cells #[.int .i64 a0_0, .slice A0_1 l0_1.length c0_1] 31 (0, 0)) (Bz BK217) hb); replace HB := Aside0.mk (below_step (by exact Lz1 HB GE217) hb); (try clear hb); (try clear ho0)))
 go_ret2
 exact ⟨by first | rfl | (simp [errW_none, errW_some] <;> rfl) | (simp [*, errW_none, errW_some] <;> rfl), by exact Lz1 HB GE217⟩
end Go.Proofs.Ytbcfccdoffbncaa.P
end
section
namespace Go.Proofs.Ytbcfccdoffbncaa.P
open Go.RowKit Go.Proofs.YtbcfccdoffbncaaW.PrintWords Go.Proofs.YtbcfccdoffbncaaW.PrintLast Go.Proofs.YtbcfccdoffbncaaW.PrintMore
attribute [local go_sem] max2_int min2_int max_two min_two max_three min_three max_four min_four
set_option linter.unusedVariables false
set_option linter.unusedSimpArgs false
def spec_IsWinnable.f (k : Nat) (a0_0 : Int) (l0_1 : List (S67)) (l1 : List Int) : Option (Bool) := (spec_ChipsAt.f k a0_0 l0_1 l1 0).bind fun bt224 => (if bt224.2 = true then (some (decide (bt224.1 ≥ 0))) else (some false))
set_option maxHeartbeats 8000000 in
set_option maxRecDepth 100000 in
theorem spec_IsWinnable.calls (k : Nat) (a0_0 : Int) (A0_1 : Option Addr) (c0_1 : Nat) (l0_1 : List (S67)) (A1 : Option Addr) (c1 : Nat) (l1 : List Int) (r : Bool) (w : World) (hr0_1 : Kd.C k67 w A0_1 l0_1.length l0_1) (hc0_1 : l0_1.length ≤ c0_1) (hr1 : Kd.C (Kd.int .i64) w A1 l1.length l1) (hc1 : l1.length ≤ c1) (h : spec_IsWinnable.f k a0_0 l0_1 l1 = some r) :
  Calls Try.prog 55 #[.agg #[.int .i64 a0_0, .slice A0_1 l0_1.length c0_1], .slice A1 l1.length c1] w fun e w' => e = .returned (.bool r) ∧ Below w.heap.size w w' := by
 have hu31 := Try.underlying31
 have HR0_1 := Aside0.mk hr0_1
 have HC0_1 := Aside0.mk hc0_1
 clear hr0_1 hc0_1
 have HR1 := Aside0.mk hr1
 have HC1 := Aside0.mk hc1
 clear hr1 hc1
 have HB := Aside0.mk (Below.refl w.heap.size w)
 have H : ((spec_ChipsAt.f k a0_0 l0_1 l1 0).bind fun bt224 => (if bt224.2 = true then (some (decide (bt224.1 ≥ 0))) else (some false))) = some r := h
 clear h
 replace H := Option.bind_eq_some_iff.mp H
 obtain ⟨⟨t224, t225⟩, A30, H⟩ := H
 replace H : (if t225 = true then (some (decide (t224 ≥ 0))) else (some false)) = some r := H
 have A3 := Aside0.mk A30
 clear A30
 by_cases c4 : t225 = true
 ·subst c4
  have H1 : (some (decide (t224 ≥ 0))) = some r := by rw [if_pos rfl] at H; exact H
  clear H
  have H := H1
  clear H1
  obtain rfl := Option.some.inj H
  go_enter Try.func55, Try.ntmps55
  go_wp2_with (first | ((with_reducible refine gate_dst (N := 2) rfl ?_); refine box_event ?hg (N := 2) ?hd (cs := #[.int .i64 a0_0, .slice A0_1 l0_1.length c0_1]) (t := 31) ?hr ?_; (case hd => rfl); (case hg => rfl); (case hr => first | (go_simp; done) | (go_simp; rfl)); intro gb223 hg w5 hbox hb; have BK223 := Aside0.mk (hbox); have GW223 := Aside0.mk ((by rw [hg]; exact (below_size (Lz HB)) : w.heap.size ≤ gb223)); have GE223 := Aside0.mk ((by rw [hg]; exact (below_size (Lz HB)) : w.heap.size ≤ gb223)); replace HB := Aside0.mk (below_step (Lz HB) hb); clear hb hbox hg; have hcz6_0 : w5.cell? ⟨gb223, 0, none⟩ = some (.int .i64 a0_0) := (blk_cell BK223.out 0).trans rfl; have hcz6_1 : w5.cell? ⟨gb223, 1, none⟩ = some (.slice A0_1 l0_1.length c0_1) := (blk_cell BK223.out 1).trans rfl; have hfz6_0 := blk_frozen BK223.out 0; have hfz6_1 := blk_frozen BK223.out 1) | ((with_reducible refine gate_callee (f := 94) rfl ?_); refine goesM_ (some 10) rfl rfl Try.func94 (by kernel_rfl) rfl #[.agg #[.int .i64 a0_0, .slice A0_1 l0_1.length c0_1], .slice A1 l1.length c1, .int .i64 0] rfl ?_; (with_reducible refine (spec_ChipsAt.calls k a0_0 _ _ l0_1 _ _ l1 0 t224 true _ ?side1 ?side2 ?side3 ?side4 A3.out).mono ?_); (case side1 => exact Cz ((Kd.C_below HR0_1.out HB.out))); (case side2 => exact HC0_1.out); (case side3 => exact Cz ((Kd.C_below HR1.out HB.out))); (case side4 => exact HC1.out); rintro e w7 ⟨rfl, hb⟩; refine ⟨_, rfl, ?_⟩; replace BK223 := Aside0.mk (blk_below (g := gb223) (o := .cells #[.int .i64 a0_0, .slice A0_1 l0_1.length c0_1] 31 (0, 0)) (Bz BK223) hb); replace HB := Aside0.mk (below_step (by exact Lz1 HB GE223) hb); (try clear hb); (try clear hb2); (try clear hk); (try clear hi)))
  go_ret
  exact ⟨by first | rfl | (simp [errW_none, errW_some] <;> rfl) | (simp [*, errW_none, errW_some] <;> rfl), by exact Lz1 HB GE223⟩
 replace c4 := Bool.eq_false_iff.mpr c4
 subst c4
 have H1 : (some false) = some r := by rw [if_neg (show ¬ (false = true) by decide)] at H; exact H
 clear H
 have H := H1
 clear H1
 obtain rfl := Option.some.inj H
 go_enter Try.func55, Try.ntmps55
 go_wp2_with (first | ((with_reducible refine gate_dst (N := 2) rfl ?_); refine box_event ?hg (N := 2) ?hd (cs := #[.int .i64 a0_0, .slice A0_1 l0_1.length c0_1]) (t := 31) ?hr ?_; (case hd => rfl); (case hg => rfl); (case hr => first | (go_simp; done) | (go_simp; rfl)); intro gb223 hg w8 hbox hb; have BK223 := Aside0.mk (hbox); have GW223 := Aside0.mk ((by rw [hg]; exact (below_size (Lz HB)) : w.heap.size ≤ gb223)); have GE223 := Aside0.mk ((by rw [hg]; exact (below_size (Lz HB)) : w.heap.size ≤ gb223)); replace HB := Aside0.mk (below_step (Lz HB) hb); clear hb hbox hg; have hcz9_0 : w8.cell? ⟨gb223, 0, none⟩ = some (.int .i64 a0_0) := (blk_cell BK223.out 0).trans rfl; have hcz9_1 : w8.cell? ⟨gb223, 1, none⟩ = some (.slice A0_1 l0_1.length c0_1) := (blk_cell BK223.out 1).trans rfl; have hfz9_0 := blk_frozen BK223.out 0; have hfz9_1 := blk_frozen BK223.out 1) | ((with_reducible refine gate_callee (f := 94) rfl ?_); refine goesM_ (some 10) rfl rfl Try.func94 (by kernel_rfl) rfl #[.agg #[.int .i64 a0_0, .slice A0_1 l0_1.length c0_1], .slice A1 l1.length c1, .int .i64 0] rfl ?_; (with_reducible refine (spec_ChipsAt.calls k a0_0 _ _ l0_1 _ _ l1 0 t224 false _ ?side1 ?side2 ?side3 ?side4 A3.out).mono ?_); (case side1 => exact Cz ((Kd.C_below HR0_1.out HB.out))); (case side2 => exact HC0_1.out); (case side3 => exact Cz ((Kd.C_below HR1.out HB.out))); (case side4 => exact HC1.out); rintro e w10 ⟨rfl, hb⟩; refine ⟨_, rfl, ?_⟩; replace BK223 := Aside0.mk (blk_below (g := gb223) (o := .cells #[.int .i64 a0_0, .slice A0_1 l0_1.length c0_1] 31 (0, 0)) (Bz BK223) hb); replace HB := Aside0.mk (below_step (by exact Lz1 HB GE223) hb); (try clear hb); (try clear hb2); (try clear hk); (try clear hi)))
 go_ret
 exact ⟨by first | rfl | (simp [errW_none, errW_some] <;> rfl) | (simp [*, errW_none, errW_some] <;> rfl), by exact Lz1 HB GE223⟩
end Go.Proofs.Ytbcfccdoffbncaa.P
end
section
namespace Go.Proofs.Ytbcfccdoffbncaa.P
open Go.RowKit Go.Proofs.YtbcfccdoffbncaaW.PrintWords Go.Proofs.YtbcfccdoffbncaaW.PrintLast Go.Proofs.YtbcfccdoffbncaaW.PrintMore
attribute [local go_sem] max2_int min2_int max_two min_two max_three min_three max_four min_four
set_option linter.unusedVariables false
set_option linter.unusedSimpArgs false
def spec_WinningScript.f (k : Nat) (a0_0 : Int) (l0_1 : List (S67)) (l1 : List Int) : Option (List Int × Bool) := (spec_IsWinnable.f k a0_0 l0_1 l1).bind fun t236 => (if t236 = true then ((spec_l05Reduce.f k a0_0 l0_1 l1 0).bind fun bt237 => ((spec_l06Lift.f k bt237.2).bind fun t243 => (some (t243, true)))) else (some (([] : List Int), false)))
set_option maxHeartbeats 8000000 in
set_option maxRecDepth 100000 in
theorem spec_WinningScript.calls (k : Nat) (a0_0 : Int) (A0_1 : Option Addr) (c0_1 : Nat) (l0_1 : List (S67)) (A1 : Option Addr) (c1 : Nat) (l1 : List Int) (r1 : List Int) (r2 : Bool) (w : World) (hr0_1 : Kd.C k67 w A0_1 l0_1.length l0_1) (hc0_1 : l0_1.length ≤ c0_1) (hr1 : Kd.C (Kd.int .i64) w A1 l1.length l1) (hc1 : l1.length ≤ c1) (h : spec_WinningScript.f k a0_0 l0_1 l1 = some (r1, r2)) :
  Calls Try.prog 11 #[.agg #[.int .i64 a0_0, .slice A0_1 l0_1.length c0_1], .slice A1 l1.length c1] w fun e w' => ∃ v0_ : Value, e = .returned (.tuple #[v0_, .bool r2]) ∧ Kd.R (Kd.int .i64) 3 w' w.heap.size (fun _ => True) v0_ r1 ∧ Below w.heap.size w w' := by
 have hu31 := Try.underlying31
 have HR0_1 := Aside0.mk hr0_1
 have HC0_1 := Aside0.mk hc0_1
 clear hr0_1 hc0_1
 have HR1 := Aside0.mk hr1
 have HC1 := Aside0.mk hc1
 clear hr1 hc1
 have HB := Aside0.mk (Below.refl w.heap.size w)
 have H : ((spec_IsWinnable.f k a0_0 l0_1 l1).bind fun t236 => (if t236 = true then ((spec_l05Reduce.f k a0_0 l0_1 l1 0).bind fun bt237 => ((spec_l06Lift.f k bt237.2).bind fun t243 => (some (t243, true)))) else (some (([] : List Int), false)))) = some (r1, r2) := h
 clear h
 replace H := Option.bind_eq_some_iff.mp H
 obtain ⟨t236, A30, H⟩ := H
 replace H : (if t236 = true then ((spec_l05Reduce.f k a0_0 l0_1 l1 0).bind fun bt237 => ((spec_l06Lift.f k bt237.2).bind fun t243 => (some (t243, true)))) else (some (([] : List Int), false))) = some (r1, r2) := H
 have A3 := Aside0.mk A30
 clear A30
 by_cases c4 : t236 = true
 ·subst c4
  have H1 : ((spec_l05Reduce.f k a0_0 l0_1 l1 0).bind fun bt237 => ((spec_l06Lift.f k bt237.2).bind fun t243 => (some (t243, true)))) = some (r1, r2) := by rw [if_pos rfl] at H; exact H
  clear H
  have H := H1
  clear H1
  replace H := Option.bind_eq_some_iff.mp H
  obtain ⟨⟨t237, t240⟩, A50, H⟩ := H
  replace H : ((spec_l06Lift.f k t240).bind fun t243 => (some (t243, true))) = some (r1, r2) := H
  have A5 := Aside0.mk A50
  clear A50
  replace H := Option.bind_eq_some_iff.mp H
  obtain ⟨t243, A60, H⟩ := H
  replace H : (some (t243, true)) = some (r1, r2) := H
  have A6 := Aside0.mk A60
  clear A60
  simp only [Option.some.injEq, Prod.mk.injEq] at H
  obtain ⟨rfl, rfl⟩ := H
  go_enter Try.func11, Try.ntmps11
  go_wp2_with (first | ((with_reducible refine gate_dst (N := 2) rfl ?_); refine box_event ?hg (N := 2) ?hd (cs := #[.int .i64 a0_0, .slice A0_1 l0_1.length c0_1]) (t := 31) ?hr ?_; (case hd => rfl); (case hg => rfl); (case hr => first | (go_simp; done) | (go_simp; rfl)); intro gb235 hg w7 hbox hb; have BK235 := Aside0.mk (hbox); have GW235 := Aside0.mk ((by rw [hg]; exact (below_size (Lz HB)) : w.heap.size ≤ gb235)); have GE235 := Aside0.mk ((by rw [hg]; exact (below_size (Lz HB)) : w.heap.size ≤ gb235)); replace HB := Aside0.mk (below_step (Lz HB) hb); clear hb hbox hg; have hcz8_0 : w7.cell? ⟨gb235, 0, none⟩ = some (.int .i64 a0_0) := (blk_cell BK235.out 0).trans rfl; have hcz8_1 : w7.cell? ⟨gb235, 1, none⟩ = some (.slice A0_1 l0_1.length c0_1) := (blk_cell BK235.out 1).trans rfl; have hfz8_0 := blk_frozen BK235.out 0; have hfz8_1 := blk_frozen BK235.out 1) | ((with_reducible refine gate_callee (f := 55) rfl ?_); refine goesM_ (some 10) rfl rfl Try.func55 (by kernel_rfl) rfl #[.agg #[.int .i64 a0_0, .slice A0_1 l0_1.length c0_1], .slice A1 l1.length c1] rfl ?_; (with_reducible refine (spec_IsWinnable.calls k a0_0 _ _ l0_1 _ _ l1 true _ ?side1 ?side2 ?side3 ?side4 A3.out).mono ?_); (case side1 => exact Cz ((Kd.C_below HR0_1.out HB.out))); (case side2 => exact HC0_1.out); (case side3 => exact Cz ((Kd.C_below HR1.out HB.out))); (case side4 => exact HC1.out); rintro e w9 ⟨rfl, hb⟩; refine ⟨_, rfl, ?_⟩; replace BK235 := Aside0.mk (blk_below (g := gb235) (o := .cells #[.int .i64 a0_0, .slice A0_1 l0_1.length c0_1] 31 (0, 0)) (Bz BK235) hb); replace HB := Aside0.mk (below_step (by exact Lz1 HB GE235) hb); (try clear hb); (try clear hb2); (try clear hk); (try clear hi); have hcz10_0 : w9.cell? ⟨gb235, 0, none⟩ = some (.int .i64 a0_0) := (blk_cell BK235.out 0).trans rfl; have hcz10_1 : w9.cell? ⟨gb235, 1, none⟩ = some (.slice A0_1 l0_1.length c0_1) := (blk_cell BK235.out 1).trans rfl; have hfz10_0 := blk_frozen BK235.out 0; have hfz10_1 := blk_frozen BK235.out 1) | ((with_reducible refine gate_callee (f := 56) rfl ?_); refine goesM_ (some 15) rfl rfl Try.func56 (by kernel_rfl) rfl #[.agg #[.int .i64 a0_0, .slice A0_1 l0_1.length c0_1], .slice A1 l1.length c1, .int .i64 0] rfl ?_; (with_reducible refine (spec_l05Reduce.calls k a0_0 _ _ l0_1 _ _ l1 0 t237 t240 _ ?side1 ?side2 ?side3 ?side4 A5.out).mono ?_); (case side1 => exact Cz ((Kd.C_below HR0_1.out HB.out))); (case side2 => exact HC0_1.out); (case side3 => exact Cz ((Kd.C_below HR1.out HB.out))); (case side4 => exact HC1.out); rintro e w11 ⟨v238, v241, rfl, ho0, ho1, hb⟩; refine ⟨_, rfl, ?_⟩; have HO239 := Aside0.mk (Kd.R_lower ho0 (below_size (by exact Lz1 HB GE235))); have HO242 := Aside0.mk (Kd.R_lower ho1 (below_size (by exact Lz1 HB GE235))); replace BK235 := Aside0.mk (blk_below (g := gb235) (o := .cells #[.int .i64 a0_0, .slice A0_1 l0_1.length c0_1] 31 (0, 0)) (Bz BK235) hb); replace HB := Aside0.mk (below_step (by exact Lz1 HB GE235) hb); (try clear hb); (try clear ho0); (try clear ho1); obtain ⟨Ao12, co12, eo12⟩ := Kd.R_slice HO242.out; subst eo12) | ((with_reducible refine gate_callee (f := 57) rfl ?_); refine goesM_ (some 19) rfl rfl Try.func57 (by kernel_rfl) rfl #[.slice Ao12 t240.length co12] rfl ?_; (with_reducible refine (spec_l06Lift.calls k _ _ t240 t243 _ ?side1 ?side2 A6.out).mono ?_); (case side1 => exact Cz ((Kd.R_reads' HO242.out).2.2)); (case side2 => exact (Kd.R_reads' HO242.out).2.1); rintro e w13 ⟨v244, rfl, ho0, hb⟩; refine ⟨_, rfl, ?_⟩; have HO245 := Aside0.mk (Kd.R_lower (Kd.R_new' (Kd.R_new' ho0 (Kd.R_lt (Rz HO239))) (Kd.R_lt (Rz HO242))) (below_size (by exact Lz1 HB GE235))); replace HO239 := Aside0.mk (Kd.R_elder' (Rz HO239) (Kd.R_base ho0) hb); replace HO242 := Aside0.mk (Kd.R_elder' (Rz HO242) (Kd.R_base ho0) hb); replace BK235 := Aside0.mk (blk_below (g := gb235) (o := .cells #[.int .i64 a0_0, .slice A0_1 l0_1.length c0_1] 31 (0, 0)) (Bz BK235) hb); replace HB := Aside0.mk (below_step (by exact Lz1 HB GE235) hb); (try clear hb); (try clear ho0)))
  go_ret2
  exact ⟨_, by first | rfl | (simp [errW_none, errW_some] <;> rfl) | (simp [*, errW_none, errW_some] <;> rfl), by (with_reducible repeat (first | apply Kd.R_alloc | apply Kd.R_drewN | apply Kd.R_drew)); exact Kd.R_mono HO245.out (fun _ hk => trivial), by exact Lz1 HB GE235⟩
 replace c4 := Bool.eq_false_iff.mpr c4
 subst c4
 have H1 : (some (([] : List Int), false)) = some (r1, r2) := by rw [if_neg (show ¬ (false = true) by decide)] at H; exact H
 clear H
 have H := H1
 clear H1
 simp only [Option.some.injEq, Prod.mk.injEq] at H
 obtain ⟨rfl, rfl⟩ := H
 go_enter Try.func11, Try.ntmps11
 go_wp2_with (first | ((with_reducible refine gate_dst (N := 2) rfl ?_); refine box_event ?hg (N := 2) ?hd (cs := #[.int .i64 a0_0, .slice A0_1 l0_1.length c0_1]) (t := 31) ?hr ?_; (case hd => rfl); (case hg => rfl); (case hr => first | (go_simp; done) | (go_simp; rfl)); intro gb235 hg w14 hbox hb; have BK235 := Aside0.mk (hbox); have GW235 := Aside0.mk ((by rw [hg]; exact (below_size (Lz HB)) : w.heap.size ≤ gb235)); have GE235 := Aside0.mk ((by rw [hg]; exact (below_size (Lz HB)) : w.heap.size ≤ gb235)); replace HB := Aside0.mk (below_step (Lz HB) hb); clear hb hbox hg; have hcz15_0 : w14.cell? ⟨gb235, 0, none⟩ = some (.int .i64 a0_0) := (blk_cell BK235.out 0).trans rfl; have hcz15_1 : w14.cell? ⟨gb235, 1, none⟩ = some (.slice A0_1 l0_1.length c0_1) := (blk_cell BK235.out 1).trans rfl; have hfz15_0 := blk_frozen BK235.out 0; have hfz15_1 := blk_frozen BK235.out 1) | ((with_reducible refine gate_callee (f := 55) rfl ?_); refine goesM_ (some 10) rfl rfl Try.func55 (by kernel_rfl) rfl #[.agg #[.int .i64 a0_0, .slice A0_1 l0_1.length c0_1], .slice A1 l1.length c1] rfl ?_; (with_reducible refine (spec_IsWinnable.calls k a0_0 _ _ l0_1 _ _ l1 false _ ?side1 ?side2 ?side3 ?side4 A3.out).mono ?_); (case side1 => exact Cz ((Kd.C_below HR0_1.out HB.out))); (case side2 => exact HC0_1.out); (case side3 => exact Cz ((Kd.C_below HR1.out HB.out))); (case side4 => exact HC1.out); rintro e w16 ⟨rfl, hb⟩; refine ⟨_, rfl, ?_⟩; replace BK235 := Aside0.mk (blk_below (g := gb235) (o := .cells #[.int .i64 a0_0, .slice A0_1 l0_1.length c0_1] 31 (0, 0)) (Bz BK235) hb); replace HB := Aside0.mk (below_step (by exact Lz1 HB GE235) hb); (try clear hb); (try clear hb2); (try clear hk); (try clear hi)))
 go_ret2
 exact ⟨_, by first | rfl | (simp [errW_none, errW_some] <;> rfl) | (simp [*, errW_none, errW_some] <;> rfl), by first | exact Kd.R_nil _ _ _ _ _ | exact Kd.N_nil _ _ _ _ _ | exact Kd.V_nil _ _ _ _ _ | exact Kd.Q_nil _ _ _ _ _ | exact Kd.S_nil _ _ _ _ _, by exact Lz1 HB GE235⟩
end Go.Proofs.Ytbcfccdoffbncaa.P
end
section
namespace Go.Proofs.Ytbcfccdoffbncaa.P
open Go.RowKit Go.Proofs.YtbcfccdoffbncaaW.PrintWords Go.Proofs.YtbcfccdoffbncaaW.PrintLast Go.Proofs.YtbcfccdoffbncaaW.PrintMore
attribute [local go_sem] max2_int min2_int max_two min_two max_three min_three max_four min_four
set_option linter.unusedVariables false
set_option linter.unusedSimpArgs false
def impl_sumOf.l0 : Nat → Int → List Int → Int → Int → Option (Int)
 | 0, _, _, _, _ => none
 | k + 1, x3, x6, x7, x8 => if x8 < x7 then (if 0 ≤ x8 then (if x8 < (x6.length : Int) then (impl_sumOf.l0 k (wrap64 (x3 + (rd x6 x8))) x6 x7 (wrap64 (x8 + 1))) else (none)) else (none)) else (some x3)
def impl_sumOf.f (k : Nat) (l0 : List Int) : Option (Int) := impl_sumOf.l0 k 0 l0 (l0.length : Int) 0
set_option maxHeartbeats 8000000 in
set_option maxRecDepth 100000 in
theorem impl_sumOf.calls (k : Nat) (A0 : Option Addr) (c0 : Nat) (l0 : List Int) (r : Int) (w : World) (hr0 : Kd.C (Kd.int .i64) w A0 l0.length l0) (hc0 : l0.length ≤ c0) (h : impl_sumOf.f k l0 = some r) :
  Calls Try.prog 83 #[.slice A0 l0.length c0] w fun e w' => e = .returned (.int .i64 r) ∧ Drawn0 w w' := by
 have HR0 := Aside0.mk hr0
 have HC0 := Aside0.mk hc0
 clear hr0 hc0
 have H : (impl_sumOf.l0 k 0 l0 (l0.length : Int) 0) = some r := h
 clear h
 have H' := Aside0.mk H
 clear H
 go_enter Try.func83, Try.ntmps83
 go_wp2
 go_loopg [3, 8] k (fun kq v3 v8 w' => ∃ (x3_1 : Int) (x8_1 : Int), v3 = .int .i64 x3_1 ∧ v8 = .int .i64 x8_1 ∧ Aside0 (impl_sumOf.l0 kq x3_1 l0 (l0.length : Int) x8_1 = some r) ∧ Aside0 (kq ≤ k) ∧ Drawn0 w w')
 case atStart => exact ⟨(0), (0), (by first | rfl | (simp; done) | (simp [*]; done)), (by first | rfl | (simp; done) | (simp [*]; done)), H', ⟨Nat.le_refl _⟩, by repeat (first | exact Drawn0.refl _ | apply Drawn0.step)⟩
 case round =>
  clear H'
  obtain ⟨x3_1, x8_1, rfl, rfl, HA, HK1, ⟨m1, rfl⟩⟩ := hrel
  cases gk with
  | zero => exact absurd HA.out (by simp [impl_sumOf.l0])
  | succ k1 =>
   have H := HA.out
   clear HA
   simp only [impl_sumOf.l0] at H
   by_cases c2 : x8_1 < (l0.length : Int)
   ·rw [if_pos c2] at H
    have c2b0 : decide (x8_1 < (l0.length : Int)) = true := decide_eq_true c2
    clear c2
    by_cases c3 : 0 ≤ x8_1
    ·rw [if_pos c3] at H
     have c3b0 : decide (0 ≤ x8_1) = true := decide_eq_true c3
     clear c3
     by_cases c4 : x8_1 < (l0.length : Int)
     ·rw [if_pos c4] at H
      have c4b0 : decide (x8_1 < (l0.length : Int)) = true := decide_eq_true c4
      clear c4
      have H' := Aside0.mk H
      clear H
      have p346 : 0 ≤ (x8_1 : Int) := of_decide_eq_true (by first | (with_reducible assumption) | assumption)
      have q346 : x8_1 < (l0.length : Int) := of_decide_eq_true (by first | (with_reducible assumption) | assumption)
      obtain ⟨ad346, e346, hx346_0⟩ := Kd.at_int HR0.out x8_1 p346 q346
      cases e346
      replace p346 := eq_true p346
      replace q346 := eq_true q346
      go_wp2
      go_roundg k1
      case measure => have := HK1.out; omega
      case rel => exact ⟨(wrap64 (x3_1 + (rd l0 x8_1))), (wrap64 (x8_1 + 1)), (by first | rfl | (simp; done) | (simp [*]; done)), (by first | rfl | (simp; done) | (simp [*]; done)), H', ⟨by have := HK1.out; omega⟩, by repeat (first | exact Drawn0.refl _ | apply Drawn0.step)⟩
     rw [if_neg c4] at H
     exact absurd H (by simp)
    rw [if_neg c3] at H
    exact absurd H (by simp)
   rw [if_neg c2] at H
   have c2b0 : decide (x8_1 < (l0.length : Int)) = false := decide_eq_false c2
   clear c2
   obtain rfl := Option.some.inj H
   go_wp2
   go_ret
   exact ⟨by first | rfl | (simp; done) | (simp [*]; done), by repeat (first | exact Drawn0.refl _ | apply Drawn0.step)⟩
end Go.Proofs.Ytbcfccdoffbncaa.P
end
section
namespace Go.Proofs.Ytbcfccdoffbncaa.P
open Go.RowKit Go.Proofs.YtbcfccdoffbncaaW.PrintWords Go.Proofs.YtbcfccdoffbncaaW.PrintLast Go.Proofs.YtbcfccdoffbncaaW.PrintMore
attribute [local go_sem] max2_int min2_int max_two min_two max_three min_three max_four min_four
set_option linter.unusedVariables false
set_option linter.unusedSimpArgs false
def impl_winnable.f (k : Nat) (a0_0 : Int) (l0_1 : List (S67)) (l1 : List Int) : Option (Bool) := (impl_sumOf.f k l1).bind fun t348 => (if t348 < 0 then (some false) else ((impl_reduce.f k a0_0 l0_1 l1 0).bind fun bt349 => (if 0 < (bt349.1.length : Int) then (some (decide ((rd bt349.1 0) ≥ 0))) else (none))))
set_option maxHeartbeats 8000000 in
set_option maxRecDepth 100000 in
theorem impl_winnable.calls (k : Nat) (a0_0 : Int) (A0_1 : Option Addr) (c0_1 : Nat) (l0_1 : List (S67)) (A1 : Option Addr) (c1 : Nat) (l1 : List Int) (r : Bool) (w : World) (hr0_1 : Kd.C k67 w A0_1 l0_1.length l0_1) (hc0_1 : l0_1.length ≤ c0_1) (hr1 : Kd.C (Kd.int .i64) w A1 l1.length l1) (hc1 : l1.length ≤ c1) (h : impl_winnable.f k a0_0 l0_1 l1 = some r) :
  Calls Try.prog 100 #[.agg #[.int .i64 a0_0, .slice A0_1 l0_1.length c0_1], .slice A1 l1.length c1] w fun e w' => e = .returned (.bool r) ∧ Below w.heap.size w w' := by
 have hu31 := Try.underlying31
 have HR0_1 := Aside0.mk hr0_1
 have HC0_1 := Aside0.mk hc0_1
 clear hr0_1 hc0_1
 have HR1 := Aside0.mk hr1
 have HC1 := Aside0.mk hc1
 clear hr1 hc1
 have HB := Aside0.mk (Below.refl w.heap.size w)
 have H : ((impl_sumOf.f k l1).bind fun t348 => (if t348 < 0 then (some false) else ((impl_reduce.f k a0_0 l0_1 l1 0).bind fun bt349 => (if 0 < (bt349.1.length : Int) then (some (decide ((rd bt349.1 0) ≥ 0))) else (none))))) = some r := h
 clear h
 replace H := Option.bind_eq_some_iff.mp H
 obtain ⟨t348, A30, H⟩ := H
 replace H : (if t348 < 0 then (some false) else ((impl_reduce.f k a0_0 l0_1 l1 0).bind fun bt349 => (if 0 < (bt349.1.length : Int) then (some (decide ((rd bt349.1 0) ≥ 0))) else (none)))) = some r := H
 have A3 := Aside0.mk A30
 clear A30
 by_cases c4 : t348 < 0
 ·rw [if_pos c4] at H
  have c4b0 : decide (t348 < 0) = true := decide_eq_true c4
  clear c4
  obtain rfl := Option.some.inj H
  go_enter Try.func100, Try.ntmps100
  go_wp2_with (first | ((with_reducible refine gate_dst (N := 2) rfl ?_); refine box_event ?hg (N := 2) ?hd (cs := #[.int .i64 a0_0, .slice A0_1 l0_1.length c0_1]) (t := 31) ?hr ?_; (case hd => rfl); (case hg => rfl); (case hr => first | (go_simp; done) | (go_simp; rfl)); intro gb347 hg w5 hbox hb; have BK347 := Aside0.mk (hbox); have GW347 := Aside0.mk ((by rw [hg]; exact (below_size (Lz HB)) : w.heap.size ≤ gb347)); have GE347 := Aside0.mk ((by rw [hg]; exact (below_size (Lz HB)) : w.heap.size ≤ gb347)); replace HB := Aside0.mk (below_step (Lz HB) hb); clear hb hbox hg) | ((with_reducible refine gate_callee (f := 83) rfl ?_); refine goesM_ (some 8) rfl rfl Try.func83 (by kernel_rfl) rfl #[.slice A1 l1.length c1] rfl ?_; (with_reducible refine (impl_sumOf.calls k _ _ l1 t348 _ ?side1 ?side2 A3.out).mono ?_); (case side1 => exact Cz ((Kd.C_below HR1.out HB.out))); (case side2 => exact HC1.out); rintro e w' ⟨rfl, ⟨nd, rfl⟩⟩; refine ⟨_, rfl, ?_⟩))
  go_ret
  exact ⟨by first | rfl | (simp [errW_none, errW_some] <;> rfl) | (simp [*, errW_none, errW_some] <;> rfl), by exact Lz1 HB GE347⟩
 rw [if_neg c4] at H
 have c4b0 : decide (t348 < 0) = false := decide_eq_false c4
 clear c4
 replace H := Option.bind_eq_some_iff.mp H
 obtain ⟨⟨t349, t352⟩, A60, H⟩ := H
 replace H : (if 0 < (t349.length : Int) then (some (decide ((rd t349 0) ≥ 0))) else (none)) = some r := H
 have A6 := Aside0.mk A60
 clear A60
 by_cases c7 : 0 < (t349.length : Int)
 ·rw [if_pos c7] at H
  have c7b0 : decide (0 < (t349.length : Int)) = true := decide_eq_true c7
  have c7b1 : decide (0 < t349.length) = true := decide_eq_true (by omega)
  clear c7
  obtain rfl := Option.some.inj H
  go_enter Try.func100, Try.ntmps100
  go_wp2_with (first | ((with_reducible refine gate_dst (N := 2) rfl ?_); refine box_event ?hg (N := 2) ?hd (cs := #[.int .i64 a0_0, .slice A0_1 l0_1.length c0_1]) (t := 31) ?hr ?_; (case hd => rfl); (case hg => rfl); (case hr => first | (go_simp; done) | (go_simp; rfl)); intro gb347 hg w8 hbox hb; have BK347 := Aside0.mk (hbox); have GW347 := Aside0.mk ((by rw [hg]; exact (below_size (Lz HB)) : w.heap.size ≤ gb347)); have GE347 := Aside0.mk ((by rw [hg]; exact (below_size (Lz HB)) : w.heap.size ≤ gb347)); replace HB := Aside0.mk (below_step (Lz HB) hb); clear hb hbox hg) | ((with_reducible refine gate_callee (f := 83) rfl ?_); refine goesM_ (some 8) rfl rfl Try.func83 (by kernel_rfl) rfl #[.slice A1 l1.length c1] rfl ?_; (with_reducible refine (impl_sumOf.calls k _ _ l1 t348 _ ?side1 ?side2 A3.out).mono ?_); (case side1 => exact Cz ((Kd.C_below HR1.out HB.out))); (case side2 => exact HC1.out); rintro e w' ⟨rfl, ⟨nd, rfl⟩⟩; refine ⟨_, rfl, ?_⟩; have hcz9_0 : w8.cell? ⟨gb347, 0, none⟩ = some (.int .i64 a0_0) := (blk_cell BK347.out 0).trans rfl; have hcz9_1 : w8.cell? ⟨gb347, 1, none⟩ = some (.slice A0_1 l0_1.length c0_1) := (blk_cell BK347.out 1).trans rfl; have hfz9_0 := blk_frozen BK347.out 0; have hfz9_1 := blk_frozen BK347.out 1) | ((with_reducible refine gate_callee (f := 60) rfl ?_); refine goesM_ (some 13) rfl rfl Try.func60 (by kernel_rfl) rfl #[.agg #[.int .i64 a0_0, .slice A0_1 l0_1.length c0_1], .slice A1 l1.length c1, .int .i64 0] rfl ?_; (with_reducible refine (impl_reduce.calls k a0_0 _ _ l0_1 _ _ l1 0 t349 t352 _ ?side1 ?side2 ?side3 ?side4 A6.out).mono ?_); (case side1 => repeat (first | exact (Kd.C_below HR0_1.out (by exact Lz1 HB GE347)) | (with_reducible refine Kd.C_alloc ?_ _) | (with_reducible refine Kd.C_drewN ?_ _) | (with_reducible refine Kd.C_drew ?_))); (case side2 => exact HC0_1.out); (case side3 => repeat (first | exact (Kd.C_below HR1.out (by exact Lz1 HB GE347)) | (with_reducible refine Kd.C_alloc ?_ _) | (with_reducible refine Kd.C_drewN ?_ _) | (with_reducible refine Kd.C_drew ?_))); (case side4 => exact HC1.out); rintro e w10 ⟨v350, v353, rfl, ho0, ho1, hb⟩; refine ⟨_, rfl, ?_⟩; have HO351 := Aside0.mk (Kd.R_lower ho0 (below_size (by exact Lz1 HB GE347))); have HO354 := Aside0.mk (Kd.R_lower ho1 (below_size (by exact Lz1 HB GE347))); replace BK347 := Aside0.mk (blk_below (g := gb347) (o := .cells #[.int .i64 a0_0, .slice A0_1 l0_1.length c0_1] 31 (0, 0)) (Bz BK347) hb); replace HB := Aside0.mk (below_step (by exact Lz1 HB GE347) hb); (try clear hb); (try clear ho0); (try clear ho1); obtain ⟨Ao11, co11, eo11⟩ := Kd.R_slice HO351.out; subst eo11; have p355 : 0 ≤ (0 : Int) := (by omega); have q355 : 0 < (t349.length : Int) := of_decide_eq_true (by first | (with_reducible assumption) | assumption); obtain ⟨ad355, e355, hx355_0⟩ := Kd.at_int (Kd.R_reads' HO351.out).2.2 0 p355 q355; cases e355; have qi355 : (0 < t349.length) = True := eq_true (by omega); (try rw [show ((0 : Int)).toNat = 0 from rfl] at hx355_0); (try rw [Addr.add_zero'] at hx355_0); replace p355 := eq_true p355; replace q355 := eq_true q355))
  go_ret
  exact ⟨by first | rfl | (simp [errW_none, errW_some] <;> rfl) | (simp [*, errW_none, errW_some] <;> rfl), by exact Lz1 HB GE347⟩
 rw [if_neg c7] at H
 exact absurd H (by simp)
end Go.Proofs.Ytbcfccdoffbncaa.P
end
section
namespace Go.Proofs.Ytbcfccdoffbncaa.P
open Go.RowKit Go.Proofs.YtbcfccdoffbncaaW.PrintWords Go.Proofs.YtbcfccdoffbncaaW.PrintLast Go.Proofs.YtbcfccdoffbncaaW.PrintMore
attribute [local go_sem] max2_int min2_int max_two min_two max_three min_three max_four min_four
set_option linter.unusedVariables false
set_option linter.unusedSimpArgs false
def impl_IsWinnable.f (k : Nat) (a0_0 : Int) (l0_1 : List (S67)) (l1 : List Int) : Option (Bool) := (impl_DivisorOk.f k a0_0 l0_1 l1).bind fun t357 => (if t357 = true then ((impl_winnable.f k a0_0 l0_1 l1).bind fun t358 => (some t358)) else (some false))
set_option maxHeartbeats 8000000 in
set_option maxRecDepth 100000 in
theorem impl_IsWinnable.calls (k : Nat) (a0_0 : Int) (A0_1 : Option Addr) (c0_1 : Nat) (l0_1 : List (S67)) (A1 : Option Addr) (c1 : Nat) (l1 : List Int) (r : Bool) (w : World) (hr0_1 : Kd.C k67 w A0_1 l0_1.length l0_1) (hc0_1 : l0_1.length ≤ c0_1) (hr1 : Kd.C (Kd.int .i64) w A1 l1.length l1) (hc1 : l1.length ≤ c1) (h : impl_IsWinnable.f k a0_0 l0_1 l1 = some r) :
  Calls Try.prog 59 #[.agg #[.int .i64 a0_0, .slice A0_1 l0_1.length c0_1], .slice A1 l1.length c1] w fun e w' => e = .returned (.bool r) ∧ Below w.heap.size w w' := by
 have hu31 := Try.underlying31
 have HR0_1 := Aside0.mk hr0_1
 have HC0_1 := Aside0.mk hc0_1
 clear hr0_1 hc0_1
 have HR1 := Aside0.mk hr1
 have HC1 := Aside0.mk hc1
 clear hr1 hc1
 have HB := Aside0.mk (Below.refl w.heap.size w)
 have H : ((impl_DivisorOk.f k a0_0 l0_1 l1).bind fun t357 => (if t357 = true then ((impl_winnable.f k a0_0 l0_1 l1).bind fun t358 => (some t358)) else (some false))) = some r := h
 clear h
 replace H := Option.bind_eq_some_iff.mp H
 obtain ⟨t357, A30, H⟩ := H
 replace H : (if t357 = true then ((impl_winnable.f k a0_0 l0_1 l1).bind fun t358 => (some t358)) else (some false)) = some r := H
 have A3 := Aside0.mk A30
 clear A30
 by_cases c4 : t357 = true
 ·subst c4
  have H1 : ((impl_winnable.f k a0_0 l0_1 l1).bind fun t358 => (some t358)) = some r := by rw [if_pos rfl] at H; exact H
  clear H
  have H := H1
  clear H1
  replace H := Option.bind_eq_some_iff.mp H
  obtain ⟨t358, A50, H⟩ := H
  replace H : (some t358) = some r := H
  have A5 := Aside0.mk A50
  clear A50
  obtain rfl := Option.some.inj H
  go_enter Try.func59, Try.ntmps59
  go_wp2_with (first | ((with_reducible refine gate_dst (N := 2) rfl ?_); refine box_event ?hg (N := 2) ?hd (cs := #[.int .i64 a0_0, .slice A0_1 l0_1.length c0_1]) (t := 31) ?hr ?_; (case hd => rfl); (case hg => rfl); (case hr => first | (go_simp; done) | (go_simp; rfl)); intro gb356 hg w6 hbox hb; have BK356 := Aside0.mk (hbox); have GW356 := Aside0.mk ((by rw [hg]; exact (below_size (Lz HB)) : w.heap.size ≤ gb356)); have GE356 := Aside0.mk ((by rw [hg]; exact (below_size (Lz HB)) : w.heap.size ≤ gb356)); replace HB := Aside0.mk (below_step (Lz HB) hb); clear hb hbox hg; have hcz7_0 : w6.cell? ⟨gb356, 0, none⟩ = some (.int .i64 a0_0) := (blk_cell BK356.out 0).trans rfl; have hcz7_1 : w6.cell? ⟨gb356, 1, none⟩ = some (.slice A0_1 l0_1.length c0_1) := (blk_cell BK356.out 1).trans rfl; have hfz7_0 := blk_frozen BK356.out 0; have hfz7_1 := blk_frozen BK356.out 1) | ((with_reducible refine gate_callee (f := 71) rfl ?_); refine goesM_ (some 7) rfl rfl Try.func71 (by kernel_rfl) rfl #[.agg #[.int .i64 a0_0, .slice A0_1 l0_1.length c0_1], .slice A1 l1.length c1] rfl ?_; (with_reducible refine (impl_DivisorOk.calls k a0_0 _ _ l0_1 _ _ l1 true _ ?side1 ?side2 ?side3 ?side4 A3.out).mono ?_); (case side1 => exact Cz ((Kd.C_below HR0_1.out HB.out))); (case side2 => exact HC0_1.out); (case side3 => exact Cz ((Kd.C_below HR1.out HB.out))); (case side4 => exact HC1.out); rintro e w8 ⟨rfl, hb⟩; refine ⟨_, rfl, ?_⟩; replace BK356 := Aside0.mk (blk_below (g := gb356) (o := .cells #[.int .i64 a0_0, .slice A0_1 l0_1.length c0_1] 31 (0, 0)) (Bz BK356) hb); replace HB := Aside0.mk (below_step (by exact Lz1 HB GE356) hb); (try clear hb); (try clear hb2); (try clear hk); (try clear hi); have hcz9_0 : w8.cell? ⟨gb356, 0, none⟩ = some (.int .i64 a0_0) := (blk_cell BK356.out 0).trans rfl; have hcz9_1 : w8.cell? ⟨gb356, 1, none⟩ = some (.slice A0_1 l0_1.length c0_1) := (blk_cell BK356.out 1).trans rfl; have hfz9_0 := blk_frozen BK356.out 0; have hfz9_1 := blk_frozen BK356.out 1) | (go_at_call 100; (with_reducible refine (impl_winnable.calls k a0_0 _ _ l0_1 _ _ l1 t358 _ ?side1 ?side2 ?side3 ?side4 A5.out).mono ?_); (case side1 => exact Cz ((Kd.C_below HR0_1.out HB.out))); (case side2 => exact HC0_1.out); (case side3 => exact Cz ((Kd.C_below HR1.out HB.out))); (case side4 => exact HC1.out); rintro e w10 ⟨rfl, hb⟩; replace BK356 := Aside0.mk (blk_below (g := gb356) (o := .cells #[.int .i64 a0_0, .slice A0_1 l0_1.length c0_1] 31 (0, 0)) (Bz BK356) hb); replace HB := Aside0.mk (below_step (by exact Lz1 HB GE356) hb); (try clear hb); (try clear hb2); (try clear hk); (try clear hi)))
  go_ret
  exact ⟨by first | rfl | (simp [errW_none, errW_some] <;> rfl) | (simp [*, errW_none, errW_some] <;> rfl), by exact Lz1 HB GE356⟩
 replace c4 := Bool.eq_false_iff.mpr c4
 subst c4
 have H1 : (some false) = some r := by rw [if_neg (show ¬ (false = true) by decide)] at H; exact H
 clear H
 have H := H1
 clear H1
 obtain rfl := Option.some.inj H
 go_enter Try.func59, Try.ntmps59
 go_wp2_with (first | ((with_reducible refine gate_dst (N := 2) rfl ?_); refine box_event ?hg (N := 2) ?hd (cs := #[.int .i64 a0_0, .slice A0_1 l0_1.length c0_1]) (t := 31) ?hr ?_; (case hd => rfl); (case hg => rfl); (case hr => first | (go_simp; done) | (go_simp; rfl)); intro gb356 hg w11 hbox hb; have BK356 := Aside0.mk (hbox); have GW356 := Aside0.mk ((by rw [hg]; exact (below_size (Lz HB)) : w.heap.size ≤ gb356)); have GE356 := Aside0.mk ((by rw [hg]; exact (below_size (Lz HB)) : w.heap.size ≤ gb356)); replace HB := Aside0.mk (below_step (Lz HB) hb); clear hb hbox hg; have hcz12_0 : w11.cell? ⟨gb356, 0, none⟩ = some (.int .i64 a0_0) := (blk_cell BK356.out 0).trans rfl; have hcz12_1 : w11.cell? ⟨gb356, 1, none⟩ = some (.slice A0_1 l0_1.length c0_1) := (blk_cell BK356.out 1).trans rfl; have hfz12_0 := blk_frozen BK356.out 0; have hfz12_1 := blk_frozen BK356.out 1) | ((with_reducible refine gate_callee (f := 71) rfl ?_); refine goesM_ (some 7) rfl rfl Try.func71 (by kernel_rfl) rfl #[.agg #[.int .i64 a0_0, .slice A0_1 l0_1.length c0_1], .slice A1 l1.length c1] rfl ?_; (with_reducible refine (impl_DivisorOk.calls k a0_0 _ _ l0_1 _ _ l1 false _ ?side1 ?side2 ?side3 ?side4 A3.out).mono ?_); (case side1 => exact Cz ((Kd.C_below HR0_1.out HB.out))); (case side2 => exact HC0_1.out); (case side3 => exact Cz ((Kd.C_below HR1.out HB.out))); (case side4 => exact HC1.out); rintro e w13 ⟨rfl, hb⟩; refine ⟨_, rfl, ?_⟩; replace BK356 := Aside0.mk (blk_below (g := gb356) (o := .cells #[.int .i64 a0_0, .slice A0_1 l0_1.length c0_1] 31 (0, 0)) (Bz BK356) hb); replace HB := Aside0.mk (below_step (by exact Lz1 HB GE356) hb); (try clear hb); (try clear hb2); (try clear hk); (try clear hi)))
 go_ret
 exact ⟨by first | rfl | (simp [errW_none, errW_some] <;> rfl) | (simp [*, errW_none, errW_some] <;> rfl), by exact Lz1 HB GE356⟩
end Go.Proofs.Ytbcfccdoffbncaa.P
end
section
namespace Go.Proofs.Ytbcfccdoffbncaa.P
open Go.RowKit Go.Proofs.YtbcfccdoffbncaaW.PrintWords Go.Proofs.YtbcfccdoffbncaaW.PrintLast Go.Proofs.YtbcfccdoffbncaaW.PrintMore
attribute [local go_sem] max2_int min2_int max_two min_two max_three min_three max_four min_four
set_option linter.unusedVariables false
set_option linter.unusedSimpArgs false
def impl_WinningScript.f (k : Nat) (a0_0 : Int) (l0_1 : List (S67)) (l1 : List Int) : Option (List Int × Bool) := (impl_IsWinnable.f k a0_0 l0_1 l1).bind fun t366 => (if t366 = true then ((impl_reduce.f k a0_0 l0_1 l1 0).bind fun bt367 => ((impl_fromZero.f k bt367.2).bind fun t373 => (some (t373, true)))) else (some (([] : List Int), false)))
set_option maxHeartbeats 8000000 in
set_option maxRecDepth 100000 in
theorem impl_WinningScript.calls (k : Nat) (a0_0 : Int) (A0_1 : Option Addr) (c0_1 : Nat) (l0_1 : List (S67)) (A1 : Option Addr) (c1 : Nat) (l1 : List Int) (r1 : List Int) (r2 : Bool) (w : World) (hr0_1 : Kd.C k67 w A0_1 l0_1.length l0_1) (hc0_1 : l0_1.length ≤ c0_1) (hr1 : Kd.C (Kd.int .i64) w A1 l1.length l1) (hc1 : l1.length ≤ c1) (h : impl_WinningScript.f k a0_0 l0_1 l1 = some (r1, r2)) :
  Calls Try.prog 14 #[.agg #[.int .i64 a0_0, .slice A0_1 l0_1.length c0_1], .slice A1 l1.length c1] w fun e w' => ∃ v0_ : Value, e = .returned (.tuple #[v0_, .bool r2]) ∧ Kd.R (Kd.int .i64) 3 w' w.heap.size (fun _ => True) v0_ r1 ∧ Below w.heap.size w w' := by
 have hu31 := Try.underlying31
 have HR0_1 := Aside0.mk hr0_1
 have HC0_1 := Aside0.mk hc0_1
 clear hr0_1 hc0_1
 have HR1 := Aside0.mk hr1
 have HC1 := Aside0.mk hc1
 clear hr1 hc1
 have HB := Aside0.mk (Below.refl w.heap.size w)
 have H : ((impl_IsWinnable.f k a0_0 l0_1 l1).bind fun t366 => (if t366 = true then ((impl_reduce.f k a0_0 l0_1 l1 0).bind fun bt367 => ((impl_fromZero.f k bt367.2).bind fun t373 => (some (t373, true)))) else (some (([] : List Int), false)))) = some (r1, r2) := h
 clear h
 replace H := Option.bind_eq_some_iff.mp H
 obtain ⟨t366, A30, H⟩ := H
 replace H : (if t366 = true then ((impl_reduce.f k a0_0 l0_1 l1 0).bind fun bt367 => ((impl_fromZero.f k bt367.2).bind fun t373 => (some (t373, true)))) else (some (([] : List Int), false))) = some (r1, r2) := H
 have A3 := Aside0.mk A30
 clear A30
 by_cases c4 : t366 = true
 ·subst c4
  have H1 : ((impl_reduce.f k a0_0 l0_1 l1 0).bind fun bt367 => ((impl_fromZero.f k bt367.2).bind fun t373 => (some (t373, true)))) = some (r1, r2) := by rw [if_pos rfl] at H; exact H
  clear H
  have H := H1
  clear H1
  replace H := Option.bind_eq_some_iff.mp H
  obtain ⟨⟨t367, t370⟩, A50, H⟩ := H
  replace H : ((impl_fromZero.f k t370).bind fun t373 => (some (t373, true))) = some (r1, r2) := H
  have A5 := Aside0.mk A50
  clear A50
  replace H := Option.bind_eq_some_iff.mp H
  obtain ⟨t373, A60, H⟩ := H
  replace H : (some (t373, true)) = some (r1, r2) := H
  have A6 := Aside0.mk A60
  clear A60
  simp only [Option.some.injEq, Prod.mk.injEq] at H
  obtain ⟨rfl, rfl⟩ := H
  go_enter Try.func14, Try.ntmps14
  go_wp2_with (first | ((with_reducible refine gate_dst (N := 2) rfl ?_); refine box_event ?hg (N := 2) ?hd (cs := #[.int .i64 a0_0, .slice A0_1 l0_1.length c0_1]) (t := 31) ?hr ?_; (case hd => rfl); (case hg => rfl); (case hr => first | (go_simp; done) | (go_simp; rfl)); intro gb365 hg w7 hbox hb; have BK365 := Aside0.mk (hbox); have GW365 := Aside0.mk ((by rw [hg]; exact (below_size (Lz HB)) : w.heap.size ≤ gb365)); have GE365 := Aside0.mk ((by rw [hg]; exact (below_size (Lz HB)) : w.heap.size ≤ gb365)); replace HB := Aside0.mk (below_step (Lz HB) hb); clear hb hbox hg; have hcz8_0 : w7.cell? ⟨gb365, 0, none⟩ = some (.int .i64 a0_0) := (blk_cell BK365.out 0).trans rfl; have hcz8_1 : w7.cell? ⟨gb365, 1, none⟩ = some (.slice A0_1 l0_1.length c0_1) := (blk_cell BK365.out 1).trans rfl; have hfz8_0 := blk_frozen BK365.out 0; have hfz8_1 := blk_frozen BK365.out 1) | ((with_reducible refine gate_callee (f := 59) rfl ?_); refine goesM_ (some 10) rfl rfl Try.func59 (by kernel_rfl) rfl #[.agg #[.int .i64 a0_0, .slice A0_1 l0_1.length c0_1], .slice A1 l1.length c1] rfl ?_; (with_reducible refine (impl_IsWinnable.calls k a0_0 _ _ l0_1 _ _ l1 true _ ?side1 ?side2 ?side3 ?side4 A3.out).mono ?_); (case side1 => exact Cz ((Kd.C_below HR0_1.out HB.out))); (case side2 => exact HC0_1.out); (case side3 => exact Cz ((Kd.C_below HR1.out HB.out))); (case side4 => exact HC1.out); rintro e w9 ⟨rfl, hb⟩; refine ⟨_, rfl, ?_⟩; replace BK365 := Aside0.mk (blk_below (g := gb365) (o := .cells #[.int .i64 a0_0, .slice A0_1 l0_1.length c0_1] 31 (0, 0)) (Bz BK365) hb); replace HB := Aside0.mk (below_step (by exact Lz1 HB GE365) hb); (try clear hb); (try clear hb2); (try clear hk); (try clear hi); have hcz10_0 : w9.cell? ⟨gb365, 0, none⟩ = some (.int .i64 a0_0) := (blk_cell BK365.out 0).trans rfl; have hcz10_1 : w9.cell? ⟨gb365, 1, none⟩ = some (.slice A0_1 l0_1.length c0_1) := (blk_cell BK365.out 1).trans rfl; have hfz10_0 := blk_frozen BK365.out 0; have hfz10_1 := blk_frozen BK365.out 1) | ((with_reducible refine gate_callee (f := 60) rfl ?_); refine goesM_ (some 15) rfl rfl Try.func60 (by kernel_rfl) rfl #[.agg #[.int .i64 a0_0, .slice A0_1 l0_1.length c0_1], .slice A1 l1.length c1, .int .i64 0] rfl ?_; (with_reducible refine (impl_reduce.calls k a0_0 _ _ l0_1 _ _ l1 0 t367 t370 _ ?side1 ?side2 ?side3 ?side4 A5.out).mono ?_); (case side1 => exact Cz ((Kd.C_below HR0_1.out HB.out))); (case side2 => exact HC0_1.out); (case side3 => exact Cz ((Kd.C_below HR1.out HB.out))); (case side4 => exact HC1.out); rintro e w11 ⟨v368, v371, rfl, ho0, ho1, hb⟩; refine ⟨_, rfl, ?_⟩; have HO369 := Aside0.mk (Kd.R_lower ho0 (below_size (by exact Lz1 HB GE365))); have HO372 := Aside0.mk (Kd.R_lower ho1 (below_size (by exact Lz1 HB GE365))); replace BK365 := Aside0.mk (blk_below (g := gb365) (o := .cells #[.int .i64 a0_0, .slice A0_1 l0_1.length c0_1] 31 (0, 0)) (Bz BK365) hb); replace HB := Aside0.mk (below_step (by exact Lz1 HB GE365) hb); (try clear hb); (try clear ho0); (try clear ho1); obtain ⟨Ao12, co12, eo12⟩ := Kd.R_slice HO372.out; subst eo12) | ((with_reducible refine gate_callee (f := 61) rfl ?_); refine goesM_ (some 19) rfl rfl Try.func61 (by kernel_rfl) rfl #[.slice Ao12 t370.length co12] rfl ?_; (with_reducible refine (impl_fromZero.calls k _ _ t370 t373 _ ?side1 ?side2 A6.out).mono ?_); (case side1 => exact Cz ((Kd.R_reads' HO372.out).2.2)); (case side2 => exact (Kd.R_reads' HO372.out).2.1); rintro e w13 ⟨v374, rfl, ho0, hb⟩; refine ⟨_, rfl, ?_⟩; have HO375 := Aside0.mk (Kd.R_lower (Kd.R_new' (Kd.R_new' ho0 (Kd.R_lt (Rz HO369))) (Kd.R_lt (Rz HO372))) (below_size (by exact Lz1 HB GE365))); replace HO369 := Aside0.mk (Kd.R_elder' (Rz HO369) (Kd.R_base ho0) hb); replace HO372 := Aside0.mk (Kd.R_elder' (Rz HO372) (Kd.R_base ho0) hb); replace BK365 := Aside0.mk (blk_below (g := gb365) (o := .cells #[.int .i64 a0_0, .slice A0_1 l0_1.length c0_1] 31 (0, 0)) (Bz BK365) hb); replace HB := Aside0.mk (below_step (by exact Lz1 HB GE365) hb); (try clear hb); (try clear ho0)))
  go_ret2
  exact ⟨_, by first | rfl | (simp [errW_none, errW_some] <;> rfl) | (simp [*, errW_none, errW_some] <;> rfl), by (with_reducible repeat (first | apply Kd.R_alloc | apply Kd.R_drewN | apply Kd.R_drew)); exact Kd.R_mono HO375.out (fun _ hk => trivial), by exact Lz1 HB GE365⟩
 replace c4 := Bool.eq_false_iff.mpr c4
 subst c4
 have H1 : (some (([] : List Int), false)) = some (r1, r2) := by rw [if_neg (show ¬ (false = true) by decide)] at H; exact H
 clear H
 have H := H1
 clear H1
 simp only [Option.some.injEq, Prod.mk.injEq] at H
 obtain ⟨rfl, rfl⟩ := H
 go_enter Try.func14, Try.ntmps14
 go_wp2_with (first | ((with_reducible refine gate_dst (N := 2) rfl ?_); refine box_event ?hg (N := 2) ?hd (cs := #[.int .i64 a0_0, .slice A0_1 l0_1.length c0_1]) (t := 31) ?hr ?_; (case hd => rfl); (case hg => rfl); (case hr => first | (go_simp; done) | (go_simp; rfl)); intro gb365 hg w14 hbox hb; have BK365 := Aside0.mk (hbox); have GW365 := Aside0.mk ((by rw [hg]; exact (below_size (Lz HB)) : w.heap.size ≤ gb365)); have GE365 := Aside0.mk ((by rw [hg]; exact (below_size (Lz HB)) : w.heap.size ≤ gb365)); replace HB := Aside0.mk (below_step (Lz HB) hb); clear hb hbox hg; have hcz15_0 : w14.cell? ⟨gb365, 0, none⟩ = some (.int .i64 a0_0) := (blk_cell BK365.out 0).trans rfl; have hcz15_1 : w14.cell? ⟨gb365, 1, none⟩ = some (.slice A0_1 l0_1.length c0_1) := (blk_cell BK365.out 1).trans rfl; have hfz15_0 := blk_frozen BK365.out 0; have hfz15_1 := blk_frozen BK365.out 1) | ((with_reducible refine gate_callee (f := 59) rfl ?_); refine goesM_ (some 10) rfl rfl Try.func59 (by kernel_rfl) rfl #[.agg #[.int .i64 a0_0, .slice A0_1 l0_1.length c0_1], .slice A1 l1.length c1] rfl ?_; (with_reducible refine (impl_IsWinnable.calls k a0_0 _ _ l0_1 _ _ l1 false _ ?side1 ?side2 ?side3 ?side4 A3.out).mono ?_); (case side1 => exact Cz ((Kd.C_below HR0_1.out HB.out))); (case side2 => exact HC0_1.out); (case side3 => exact Cz ((Kd.C_below HR1.out HB.out))); (case side4 => exact HC1.out); rintro e w16 ⟨rfl, hb⟩; refine ⟨_, rfl, ?_⟩; replace BK365 := Aside0.mk (blk_below (g := gb365) (o := .cells #[.int .i64 a0_0, .slice A0_1 l0_1.length c0_1] 31 (0, 0)) (Bz BK365) hb); replace HB := Aside0.mk (below_step (by exact Lz1 HB GE365) hb); (try clear hb); (try clear hb2); (try clear hk); (try clear hi)))
 go_ret2
 exact ⟨_, by first | rfl | (simp [errW_none, errW_some] <;> rfl) | (simp [*, errW_none, errW_some] <;> rfl), by first | exact Kd.R_nil _ _ _ _ _ | exact Kd.N_nil _ _ _ _ _ | exact Kd.V_nil _ _ _ _ _ | exact Kd.Q_nil _ _ _ _ _ | exact Kd.S_nil _ _ _ _ _, by exact Lz1 HB GE365⟩
end Go.Proofs.Ytbcfccdoffbncaa.P
end
section
namespace Go.Proofs.Ytbcfccdoffbncaa.P
open Go.RowKit Go.Proofs.YtbcfccdoffbncaaW.PrintWords Go.Proofs.YtbcfccdoffbncaaW.PrintLast Go.Proofs.YtbcfccdoffbncaaW.PrintMore
attribute [local go_sem] max2_int min2_int max_two min_two max_three min_three max_four min_four
set_option linter.unusedVariables false
set_option linter.unusedSimpArgs false
mutual
def laws_FnExactWinningScript.j0 : Nat → List Int → Int → List (S96) → Option (Bool)
 | 0, _, _, _ => none
 | k + 1, x1, x394000, x394001 => (laws_szGraph.f x394000 x394001 1048576).bind fun t394 => (if t394 < 0 then (some true) else (laws_FnExactWinningScript.j1 k x1 x394000 x394001))
def laws_FnExactWinningScript.j1 : Nat → List Int → Int → List (S96) → Option (Bool)
 | 0, _, _, _ => none
 | k + 1, x1, x394000, x394001 => (laws_toGraph.f k x394000 x394001).bind fun bt395 => ((laws_toIntS.f k x1).bind fun t399 => ((spec_WinningScript.f k bt395.1 bt395.2 t399).bind fun bt402 => ((laws_toGraph.f k x394000 x394001).bind fun bt406 => ((laws_toIntS.f k x1).bind fun t411 => ((impl_WinningScript.f k bt406.1 bt406.2 t411).bind fun bt414 => ((laws_eqIntS.f k bt414.1 bt402.1).bind fun t418 => (if t418 = true then (laws_FnExactWinningScript.j2 k x1 bt402.1 bt402.2 t411 bt414.1 bt414.2 (bt414.2 != bt402.2) x394000 x394001 bt406.1 bt406.2) else (laws_FnExactWinningScript.j2 k x1 bt402.1 bt402.2 t411 bt414.1 bt414.2 true x394000 x394001 bt406.1 bt406.2))))))))
def laws_FnExactWinningScript.j2 : Nat → List Int → List Int → Bool → List Int → List Int → Bool → Bool → Int → List (S96) → Int → List (S67) → Option (Bool)
 | 0, _, _, _, _, _, _, _, _, _, _, _ => none
 | k + 1, x1, x6, x7, x9, x10, x11, x51, x394000, x394001, x411000, x411001 => if x51 = true then (some false) else (laws_FnExactWinningScript.j3 k x1 x6 x7 x9 x10 x11 x394000 x394001 x411000 x411001)
def laws_FnExactWinningScript.j3 : Nat → List Int → List Int → Bool → List Int → List Int → Bool → Int → List (S96) → Int → List (S67) → Option (Bool)
 | 0, _, _, _, _, _, _, _, _, _, _ => none
 | k + 1, x1, x6, x7, x9, x10, x11, x394000, x394001, x411000, x411001 => (laws_toGraph.f k x394000 x394001).bind fun bt419 => ((laws_eqGraph.f k x411000 x411001 bt419.1 bt419.2).bind fun t423 => (if t423 = true then (laws_FnExactWinningScript.j4 k x1 x6 x7 x9 x10 x11 x394000 x394001 x411000 x411001) else (some false)))
def laws_FnExactWinningScript.j4 : Nat → List Int → List Int → Bool → List Int → List Int → Bool → Int → List (S96) → Int → List (S67) → Option (Bool)
 | 0, _, _, _, _, _, _, _, _, _, _ => none
 | k + 1, x1, x6, x7, x9, x10, x11, x394000, x394001, x411000, x411001 => (laws_toIntS.f k x1).bind fun t424 => ((laws_eqIntS.f k x9 t424).bind fun t427 => (if t427 = true then (laws_FnExactWinningScript.j5 k x1 x6 x7 x9 x10 x11 x394000 x394001 x411000 x411001) else (some false)))
def laws_FnExactWinningScript.j5 : Nat → List Int → List Int → Bool → List Int → List Int → Bool → Int → List (S96) → Int → List (S67) → Option (Bool)
 | 0, _, _, _, _, _, _, _, _, _, _ => none
 | k + 1, x1, x6, x7, x9, x10, x11, x394000, x394001, x411000, x411001 => (laws_markGraph.f k x411000 x411001 1).bind fun bt428 => ((laws_markIntS.f k x9 bt428.1).bind fun bt430 => (if bt430.1 < 0 then (laws_FnExactWinningScript.j6 k x1 x6 x7 x10 true x394000 x394001) else ((laws_eqIntS.f k x10 x6).bind fun t432 => (if t432 = true then (laws_FnExactWinningScript.j6 k x1 x6 x7 x10 (x11 != x7) x394000 x394001) else (laws_FnExactWinningScript.j6 k x1 x6 x7 x10 true x394000 x394001)))))
def laws_FnExactWinningScript.j6 : Nat → List Int → List Int → Bool → List Int → Bool → Int → List (S96) → Option (Bool)
 | 0, _, _, _, _, _, _, _ => none
 | k + 1, x1, x6, x7, x10, x80, x394000, x394001 => if x80 = true then (some false) else (laws_FnExactWinningScript.j7 k x1 x6 x7 x10 x394000 x394001)
def laws_FnExactWinningScript.j7 : Nat → List Int → List Int → Bool → List Int → Int → List (S96) → Option (Bool)
 | 0, _, _, _, _, _, _ => none
 | k + 1, x1, x6, x7, x10, x394000, x394001 => (laws_markIntS.f k x10 1).bind fun bt433 => ((laws_heldIntS.f k bt433.2 1).bind fun t435 => (if t435 < 0 then (some false) else (laws_FnExactWinningScript.j8 k x1 x6 x7 bt433.2 bt433.1 t435 x394000 x394001)))
def laws_FnExactWinningScript.j8 : Nat → List Int → List Int → Bool → List Int → Int → Int → Int → List (S96) → Option (Bool)
 | 0, _, _, _, _, _, _, _, _ => none
 | k + 1, x1, x6, x7, x10, x13, x14, x394000, x394001 => if x14 = x13 then (laws_FnExactWinningScript.j9 k x1 x6 x7 x10 x13 x394000 x394001) else (some false)
def laws_FnExactWinningScript.j9 : Nat → List Int → List Int → Bool → List Int → Int → Int → List (S96) → Option (Bool)
 | 0, _, _, _, _, _, _, _ => none
 | k + 1, x1, x6, x7, x10, x13, x394000, x394001 => (laws_toGraph.f k x394000 x394001).bind fun bt436 => ((laws_toIntS.f k x1).bind fun t440 => ((impl_WinningScript.f k bt436.1 bt436.2 t440).bind fun bt443 => ((laws_eqIntS.f k bt443.1 x6).bind fun t447 => (if t447 = true then (laws_FnExactWinningScript.j10 k x10 x13 (bt443.2 != x7)) else (laws_FnExactWinningScript.j10 k x10 x13 true)))))
def laws_FnExactWinningScript.j10 : Nat → List Int → Int → Bool → Option (Bool)
 | 0, _, _, _ => none
 | k + 1, x10, x13, x108 => if x108 = true then (some false) else (laws_FnExactWinningScript.j11 k x10 x13)
def laws_FnExactWinningScript.j11 : Nat → List Int → Int → Option (Bool)
 | 0, _, _ => none
 | k + 1, x10, x13 => (laws_heldIntS.f k x10 1).bind fun t448 => (if t448 < 0 then (some false) else (laws_FnExactWinningScript.j12 k x13 t448))
def laws_FnExactWinningScript.j12 : Nat → Int → Int → Option (Bool)
 | 0, _, _ => none
 | k + 1, x13, x14 => if x14 = x13 then (some true) else (some false)
end
def laws_FnExactWinningScript.f (k : Nat) (a0_0 : Int) (l0_1 : List (S96)) (l1 : List Int) : Option (Bool) := if (l1.length : Int) > 1048576 then (some true) else (laws_FnExactWinningScript.j0 k l1 a0_0 l0_1)
set_option maxHeartbeats 8000000 in
set_option maxRecDepth 100000 in
theorem laws_FnExactWinningScript.calls (k : Nat) (a0_0 : Int) (A0_1 : Option Addr) (c0_1 : Nat) (l0_1 : List (S96)) (A1 : Option Addr) (c1 : Nat) (l1 : List Int) (r : Bool) (w : World) (hr0_1 : Kd.C k96 w A0_1 l0_1.length l0_1) (hc0_1 : l0_1.length ≤ c0_1) (hr1 : Kd.C (Kd.int .i64) w A1 l1.length l1) (hc1 : l1.length ≤ c1) (h : laws_FnExactWinningScript.f k a0_0 l0_1 l1 = some r) :
  Calls Try.prog 3 #[.agg #[.int .i64 a0_0, .slice A0_1 l0_1.length c0_1], .slice A1 l1.length c1] w fun e w' => e = .returned (.bool r) ∧ Below w.heap.size w w' := by
 have hu24 := Try.underlying24
 have hu31 := Try.underlying31
 have HR0_1 := Aside0.mk hr0_1
 have HC0_1 := Aside0.mk hc0_1
 clear hr0_1 hc0_1
 have HR1 := Aside0.mk hr1
 have HC1 := Aside0.mk hc1
 clear hr1 hc1
 have HB := Aside0.mk (Below.refl w.heap.size w)
 have H : (if (l1.length : Int) > 1048576 then (some true) else (laws_FnExactWinningScript.j0 k l1 a0_0 l0_1)) = some r := h
 clear h
 have HC3 := Aside0.mk H
 clear H
 go_enter Try.func3, Try.ntmps3
 go_upto_if 19 with (first | ((with_reducible refine gate_dst (N := 2) rfl ?_); refine box_event ?hg (N := 2) ?hd (cs := #[.int .i64 a0_0, .slice A0_1 l0_1.length c0_1]) (t := 24) ?hr ?_; (case hd => rfl); (case hg => rfl); (case hr => first | (go_simp; done) | (go_simp; rfl)); intro gb393 hg w4 hbox hb; have BK393 := Aside0.mk (hbox); have GW393 := Aside0.mk ((by rw [hg]; exact (below_size (Lz HB)) : w.heap.size ≤ gb393)); have GE393 := Aside0.mk ((by rw [hg]; exact (below_size (Lz HB)) : w.heap.size ≤ gb393)); replace HB := Aside0.mk (below_step (Lz HB) hb); clear hb hbox hg))
 (try simp only [Act.put, List.setIfInBounds_toArray, List.set_cons_zero, List.set_cons_succ])
 go_cut [] (fun wc => ∃ (kq : Nat), Aside0 (laws_FnExactWinningScript.j0 kq l1 a0_0 l0_1 = some r) ∧ Aside0 (kq ≤ k) ∧ Aside0 (wc.heap[gb393]? = some (.cells #[.int .i64 a0_0, (.slice A0_1 l0_1.length c0_1)] 24 (0, 0))) ∧ Aside0 (Below w.heap.size w wc))
 case first =>
  have H := HC3.out
  clear HC3
  by_cases c5 : (l1.length : Int) > 1048576
  ·rw [if_pos c5] at H
   have c5b0 : decide (1048576 < (l1.length : Int)) = true := decide_eq_true c5
   (try simp only [hl411001_57, hl10_73] at c5b0)
   have c5b1 : decide (1048576 < l1.length) = true := decide_eq_true (by omega)
   (try simp only [hl411001_57, hl10_73] at c5b1)
   clear c5
   (first | rw [c5b0] | (simp only [i64_w, i32_w]; rw [c5b0]) | skip)
   obtain rfl := Option.some.inj H
   go_wp2
   go_ret
   exact ⟨by first | rfl | (simp [errW_none, errW_some] <;> rfl) | (simp [*, errW_none, errW_some] <;> rfl), by exact Lz1 HB GE393⟩
  rw [if_neg c5] at H
  have c5b0 : decide (1048576 < (l1.length : Int)) = false := decide_eq_false c5
  (try simp only [hl411001_57, hl10_73] at c5b0)
  have c5b1 : decide (1048576 < l1.length) = false := decide_eq_false (by omega)
  (try simp only [hl411001_57, hl10_73] at c5b1)
  clear c5
  (first | rw [c5b0] | (simp only [i64_w, i32_w]; rw [c5b0]) | skip)
  have H' := Aside0.mk H
  clear H
  go_wp2
  go_meet
  case rel => exact ⟨_, H', ⟨by first | omega | exact Nat.le_refl _⟩, ⟨by exact Bz BK393⟩, ⟨by exact Lz1 HB GE393⟩⟩
 case rest =>
  clear HC3
  try clear c1
  try clear c5
  try clear c5b0
  try clear c5b1
  obtain ⟨kq, HA, HJ2, BK393, HB⟩ := hcut
  cases kq with
  | zero => exact absurd HA.out (by simp [laws_FnExactWinningScript.j0])
  | succ kj2 =>
   have H := HA.out
   clear HA
   simp only [laws_FnExactWinningScript.j0] at H
   replace H := Option.bind_eq_some_iff.mp H
   obtain ⟨t394, A60, H⟩ := H
   replace H : (if t394 < 0 then (some true) else (laws_FnExactWinningScript.j1 kj2 l1 a0_0 l0_1)) = some r := H
   have A6 := Aside0.mk A60
   clear A60
   have HC7 := Aside0.mk H
   clear H
   have hcz8_0 : wc.cell? ⟨gb393, 0, none⟩ = some (.int .i64 a0_0) := (blk_cell BK393.out 0).trans rfl
   have hcz8_1 : wc.cell? ⟨gb393, 1, none⟩ = some (.slice A0_1 l0_1.length c0_1) := (blk_cell BK393.out 1).trans rfl
   have hfz8_0 := blk_frozen BK393.out 0
   have hfz8_1 := blk_frozen BK393.out 1
   go_upto_if 24 with (first | ((with_reducible refine gate_callee (f := 10) rfl ?_); refine goesM_ (some 22) rfl rfl Try.func10 (by kernel_rfl) rfl #[.agg #[.int .i64 a0_0, .slice A0_1 l0_1.length c0_1], .int .i64 1048576] rfl ?_; (with_reducible refine (laws_szGraph.calls a0_0 _ _ l0_1 1048576 t394 _ ?side1 ?side2 A6.out).mono ?_); (case side1 => exact Cz ((Kd.C_below HR0_1.out HB.out))); (case side2 => exact HC0_1.out); rintro e w9 ⟨rfl, hb⟩; refine ⟨_, rfl, ?_⟩; replace BK393 := Aside0.mk (blk_below (g := gb393) (o := .cells #[.int .i64 a0_0, .slice A0_1 l0_1.length c0_1] 24 (0, 0)) (Bz BK393) hb); replace HB := Aside0.mk (below_step (by exact Lz1 HB GE393) hb); (try clear hb); (try clear hb2); (try clear hk); (try clear hi)))
   (try simp only [Act.put, List.setIfInBounds_toArray, List.set_cons_zero, List.set_cons_succ])
   go_cut [] (fun wc => ∃ (kq : Nat), Aside0 (laws_FnExactWinningScript.j1 kq l1 a0_0 l0_1 = some r) ∧ Aside0 (kq ≤ kj2) ∧ Aside0 (wc.heap[gb393]? = some (.cells #[.int .i64 a0_0, (.slice A0_1 l0_1.length c0_1)] 24 (0, 0))) ∧ Aside0 (Below w.heap.size w wc))
   case first =>
    have H := HC7.out
    clear HC7
    by_cases c10 : t394 < 0
    ·rw [if_pos c10] at H
     have c10b0 : decide (t394 < 0) = true := decide_eq_true c10
     clear c10
     (first | rw [c10b0] | (simp only [i64_w, i32_w]; rw [c10b0]) | skip)
     obtain rfl := Option.some.inj H
     go_wp2
     go_ret
     exact ⟨by first | rfl | (simp [errW_none, errW_some] <;> rfl) | (simp [*, errW_none, errW_some] <;> rfl), by exact Lz1 HB GE393⟩
    rw [if_neg c10] at H
    have c10b0 : decide (t394 < 0) = false := decide_eq_false c10
    clear c10
    (first | rw [c10b0] | (simp only [i64_w, i32_w]; rw [c10b0]) | skip)
    have H' := Aside0.mk H
    clear H
    go_wp2
    go_meet
    case rel => exact ⟨_, H', ⟨by have := HJ2.out; first | omega | exact Nat.le_refl _⟩, ⟨by exact Bz BK393⟩, ⟨by exact Lz1 HB GE393⟩⟩
   case rest =>
    clear HC7
    try clear c1
    try clear c5
    try clear c5b0
    try clear c5b1
    try clear c10
    try clear c10b0
    obtain ⟨kq, HA, HJ6, BK393, HB⟩ := hcut
    cases kq with
    | zero => exact absurd HA.out (by simp [laws_FnExactWinningScript.j1])
    | succ kj6 =>
     have H := HA.out
     clear HA
     simp only [laws_FnExactWinningScript.j1] at H
     replace H := Option.bind_eq_some_iff.mp H
     obtain ⟨⟨t395, t396⟩, A110, H⟩ := H
     replace H : ((laws_toIntS.f kj6 l1).bind fun t399 => ((spec_WinningScript.f kj6 t395 t396 t399).bind fun bt402 => ((laws_toGraph.f kj6 a0_0 l0_1).bind fun bt406 => ((laws_toIntS.f kj6 l1).bind fun t411 => ((impl_WinningScript.f kj6 bt406.1 bt406.2 t411).bind fun bt414 => ((laws_eqIntS.f kj6 bt414.1 bt402.1).bind fun t418 => (if t418 = true then (laws_FnExactWinningScript.j2 kj6 l1 bt402.1 bt402.2 t411 bt414.1 bt414.2 (bt414.2 != bt402.2) a0_0 l0_1 bt406.1 bt406.2) else (laws_FnExactWinningScript.j2 kj6 l1 bt402.1 bt402.2 t411 bt414.1 bt414.2 true a0_0 l0_1 bt406.1 bt406.2)))))))) = some r := H
     have A11 := Aside0.mk A110
     clear A110
     replace H := Option.bind_eq_some_iff.mp H
     obtain ⟨t399, A120, H⟩ := H
     replace H : ((spec_WinningScript.f kj6 t395 t396 t399).bind fun bt402 => ((laws_toGraph.f kj6 a0_0 l0_1).bind fun bt406 => ((laws_toIntS.f kj6 l1).bind fun t411 => ((impl_WinningScript.f kj6 bt406.1 bt406.2 t411).bind fun bt414 => ((laws_eqIntS.f kj6 bt414.1 bt402.1).bind fun t418 => (if t418 = true then (laws_FnExactWinningScript.j2 kj6 l1 bt402.1 bt402.2 t411 bt414.1 bt414.2 (bt414.2 != bt402.2) a0_0 l0_1 bt406.1 bt406.2) else (laws_FnExactWinningScript.j2 kj6 l1 bt402.1 bt402.2 t411 bt414.1 bt414.2 true a0_0 l0_1 bt406.1 bt406.2))))))) = some r := H
     have A12 := Aside0.mk A120
     clear A120
     replace H := Option.bind_eq_some_iff.mp H
     obtain ⟨⟨t402, t405⟩, A130, H⟩ := H
     replace H : ((laws_toGraph.f kj6 a0_0 l0_1).bind fun bt406 => ((laws_toIntS.f kj6 l1).bind fun t411 => ((impl_WinningScript.f kj6 bt406.1 bt406.2 t411).bind fun bt414 => ((laws_eqIntS.f kj6 bt414.1 t402).bind fun t418 => (if t418 = true then (laws_FnExactWinningScript.j2 kj6 l1 t402 t405 t411 bt414.1 bt414.2 (bt414.2 != t405) a0_0 l0_1 bt406.1 bt406.2) else (laws_FnExactWinningScript.j2 kj6 l1 t402 t405 t411 bt414.1 bt414.2 true a0_0 l0_1 bt406.1 bt406.2)))))) = some r := H
     have A13 := Aside0.mk A130
     clear A130
     replace H := Option.bind_eq_some_iff.mp H
     obtain ⟨⟨t406, t407⟩, A140, H⟩ := H
     replace H : ((laws_toIntS.f kj6 l1).bind fun t411 => ((impl_WinningScript.f kj6 t406 t407 t411).bind fun bt414 => ((laws_eqIntS.f kj6 bt414.1 t402).bind fun t418 => (if t418 = true then (laws_FnExactWinningScript.j2 kj6 l1 t402 t405 t411 bt414.1 bt414.2 (bt414.2 != t405) a0_0 l0_1 t406 t407) else (laws_FnExactWinningScript.j2 kj6 l1 t402 t405 t411 bt414.1 bt414.2 true a0_0 l0_1 t406 t407))))) = some r := H
     have A14 := Aside0.mk A140
     clear A140
     replace H := Option.bind_eq_some_iff.mp H
     obtain ⟨t411, A150, H⟩ := H
     replace H : ((impl_WinningScript.f kj6 t406 t407 t411).bind fun bt414 => ((laws_eqIntS.f kj6 bt414.1 t402).bind fun t418 => (if t418 = true then (laws_FnExactWinningScript.j2 kj6 l1 t402 t405 t411 bt414.1 bt414.2 (bt414.2 != t405) a0_0 l0_1 t406 t407) else (laws_FnExactWinningScript.j2 kj6 l1 t402 t405 t411 bt414.1 bt414.2 true a0_0 l0_1 t406 t407)))) = some r := H
     have A15 := Aside0.mk A150
     clear A150
     replace H := Option.bind_eq_some_iff.mp H
     obtain ⟨⟨t414, t417⟩, A160, H⟩ := H
     replace H : ((laws_eqIntS.f kj6 t414 t402).bind fun t418 => (if t418 = true then (laws_FnExactWinningScript.j2 kj6 l1 t402 t405 t411 t414 t417 (t417 != t405) a0_0 l0_1 t406 t407) else (laws_FnExactWinningScript.j2 kj6 l1 t402 t405 t411 t414 t417 true a0_0 l0_1 t406 t407))) = some r := H
     have A16 := Aside0.mk A160
     clear A160
     have HC17 := Aside0.mk H
     clear H
     have hcz18_0 : wc.cell? ⟨gb393, 0, none⟩ = some (.int .i64 a0_0) := (blk_cell BK393.out 0).trans rfl
     have hcz18_1 : wc.cell? ⟨gb393, 1, none⟩ = some (.slice A0_1 l0_1.length c0_1) := (blk_cell BK393.out 1).trans rfl
     have hfz18_0 := blk_frozen BK393.out 0
     have hfz18_1 := blk_frozen BK393.out 1
     go_upto_region 11 with (first | ((with_reducible refine gate_callee (f := 12) rfl ?_); refine goesM_ (some 27) rfl rfl Try.func12 (by kernel_rfl) rfl #[.agg #[.int .i64 a0_0, .slice A0_1 l0_1.length c0_1]] rfl ?_; (with_reducible refine (laws_toGraph.calls kj6 a0_0 _ _ l0_1 t395 t396 _ ?side1 ?side2 A11.out).mono ?_); (case side1 => exact Cz ((Kd.C_below HR0_1.out HB.out))); (case side2 => exact HC0_1.out); rintro e w19 ⟨v397, rfl, ho0, hb⟩; refine ⟨_, rfl, ?_⟩; have HO398 := Aside0.mk (Kd.R_lower ho0 (below_size (by exact Lz1 HB GE393))); replace BK393 := Aside0.mk (blk_below (g := gb393) (o := .cells #[.int .i64 a0_0, .slice A0_1 l0_1.length c0_1] 24 (0, 0)) (Bz BK393) hb); replace HB := Aside0.mk (below_step (by exact Lz1 HB GE393) hb); (try clear hb); (try clear ho0)) | ((with_reducible refine gate_callee (f := 13) rfl ?_); refine goesM_ (some 29) rfl rfl Try.func13 (by kernel_rfl) rfl #[.slice A1 l1.length c1] rfl ?_; (with_reducible refine (laws_toIntS.calls kj6 _ _ l1 t399 _ ?side1 ?side2 A12.out).mono ?_); (case side1 => exact Cz ((Kd.C_below HR1.out HB.out))); (case side2 => exact HC1.out); rintro e w20 ⟨v400, rfl, ho0, hb⟩; refine ⟨_, rfl, ?_⟩; replace HO398 := Aside0.mk (Kd.R_below (Rz HO398) hb); have HO401 := Aside0.mk (Kd.R_lower ho0 (below_size (by exact Lz1 HB GE393))); replace BK393 := Aside0.mk (blk_below (g := gb393) (o := .cells #[.int .i64 a0_0, .slice A0_1 l0_1.length c0_1] 24 (0, 0)) (Bz BK393) hb); replace HB := Aside0.mk (below_step (by exact Lz1 HB GE393) hb); (try clear hb); (try clear ho0); obtain ⟨Ao21, co21, eo21⟩ := Kd.R_slice HO398.out; subst eo21; obtain ⟨Ao22, co22, eo22⟩ := Kd.R_slice HO401.out; subst eo22) | ((with_reducible refine gate_callee (f := 11) rfl ?_); refine goesM_ (some 30) rfl rfl Try.func11 (by kernel_rfl) rfl #[.agg #[.int .i64 t395, .slice Ao21 t396.length co21], .slice Ao22 t399.length co22] rfl ?_; (with_reducible refine (spec_WinningScript.calls kj6 t395 _ _ t396 _ _ t399 t402 t405 _ ?side1 ?side2 ?side3 ?side4 A13.out).mono ?_); (case side1 => exact Cz ((Kd.R_reads' HO398.out).2.2)); (case side2 => exact (Kd.R_reads' HO398.out).2.1); (case side3 => exact Cz ((Kd.R_reads' HO401.out).2.2)); (case side4 => exact (Kd.R_reads' HO401.out).2.1); rintro e w23 ⟨v403, rfl, ho0, hb⟩; refine ⟨_, rfl, ?_⟩; replace HO398 := Aside0.mk (Kd.R_below (Rz HO398) hb); have HO404 := Aside0.mk (Kd.R_lower (Kd.R_new' ho0 (Kd.R_lt (Rz HO401))) (below_size (by exact Lz1 HB GE393))); replace HO401 := Aside0.mk (Kd.R_elder' (Rz HO401) (Kd.R_base ho0) hb); replace BK393 := Aside0.mk (blk_below (g := gb393) (o := .cells #[.int .i64 a0_0, .slice A0_1 l0_1.length c0_1] 24 (0, 0)) (Bz BK393) hb); replace HB := Aside0.mk (below_step (by exact Lz1 HB GE393) hb); (try clear hb); (try clear ho0); have hcz24_0 : w23.cell? ⟨gb393, 0, none⟩ = some (.int .i64 a0_0) := (blk_cell BK393.out 0).trans rfl; have hcz24_1 : w23.cell? ⟨gb393, 1, none⟩ = some (.slice A0_1 l0_1.length c0_1) := (blk_cell BK393.out 1).trans rfl; have hfz24_0 := blk_frozen BK393.out 0; have hfz24_1 := blk_frozen BK393.out 1) | ((with_reducible refine gate_callee (f := 12) rfl ?_); refine goesM_ (some 34) rfl rfl Try.func12 (by kernel_rfl) rfl #[.agg #[.int .i64 a0_0, .slice A0_1 l0_1.length c0_1]] rfl ?_; (with_reducible refine (laws_toGraph.calls kj6 a0_0 _ _ l0_1 t406 t407 _ ?side1 ?side2 A14.out).mono ?_); (case side1 => exact Cz ((Kd.C_below HR0_1.out HB.out))); (case side2 => exact HC0_1.out); rintro e w25 ⟨v408, rfl, ho0, hb⟩; refine ⟨_, rfl, ?_⟩; replace HO401 := Aside0.mk (Kd.R_below (Rz HO401) hb); replace HO404 := Aside0.mk (Kd.R_below (Rz HO404) hb); have HO409 := Aside0.mk (Kd.R_lower (Kd.R_new' ho0 (Kd.R_lt (Rz HO398))) (below_size (by exact Lz1 HB GE393))); replace HO398 := Aside0.mk (Kd.R_elder' (Rz HO398) (Kd.R_base ho0) hb); replace BK393 := Aside0.mk (blk_below (g := gb393) (o := .cells #[.int .i64 a0_0, .slice A0_1 l0_1.length c0_1] 24 (0, 0)) (Bz BK393) hb); replace HB := Aside0.mk (below_step (by exact Lz1 HB GE393) hb); (try clear hb); (try clear ho0)) | ((with_reducible refine gate_dst (N := 8) rfl ?_); refine box_event ?hg (N := 8) ?hd (cs := #[.int .i64 0, .slice none 0 0]) (t := 31) ?hr ?_; (case hd => rfl); (case hg => rfl); (case hr => first | (go_simp; done) | (go_simp; rfl)); intro gb410 hg w26 hbox hb; replace HO398 := Aside0.mk (Kd.R_below (Rz HO398) hb); replace HO401 := Aside0.mk (Kd.R_below (Rz HO401) hb); replace HO404 := Aside0.mk (Kd.R_below (Rz HO404) hb); replace HO409 := Aside0.mk (Kd.R_below (Rz HO409) hb); have BK410 := Aside0.mk (hbox); have GW410 := Aside0.mk ((by rw [hg]; exact (below_size (by exact Lz1 HB GE393)) : w.heap.size ≤ gb410)); have GE410 := Aside0.mk ((by rw [hg]; exact (below_size (by exact Lz1 HB GE393)) : w.heap.size ≤ gb410)); replace HB := Aside0.mk (below_step (by exact Lz1 HB GE393) hb); have NB393_410 := Aside0.mk ((by rw [hg]; exact Nat.ne_of_lt (blk_lt (g := gb393) (o := .cells #[.int .i64 a0_0, .slice A0_1 l0_1.length c0_1] 24 (0, 0)) (Bz BK393)) : gb393 ≠ gb410)); have NB410_393 := Aside0.mk ((by rw [hg]; exact Nat.ne_of_gt (blk_lt (g := gb393) (o := .cells #[.int .i64 a0_0, .slice A0_1 l0_1.length c0_1] 24 (0, 0)) (Bz BK393)) : gb410 ≠ gb393)); replace BK393 := Aside0.mk (blk_below (g := gb393) (o := .cells #[.int .i64 a0_0, .slice A0_1 l0_1.length c0_1] 24 (0, 0)) (Bz BK393) hb); clear hb hbox hg; have hnb27 := NB410_393.out; have hnc27 := NB393_410.out; have hcz28_0 : w26.cell? ⟨gb410, 0, none⟩ = some (.int .i64 0) := (blk_cell BK410.out 0).trans rfl; have hcz28_1 : w26.cell? ⟨gb410, 1, none⟩ = some (.slice none 0 0) := (blk_cell BK410.out 1).trans rfl; have hfz28_0 := blk_frozen BK410.out 0; have hfz28_1 := blk_frozen BK410.out 1; obtain ⟨Ao29, co29, eo29⟩ := Kd.R_slice HO409.out; subst eo29) | ((with_reducible refine gate_callee (f := 13) rfl ?_); refine goesM_ (some 36) rfl rfl Try.func13 (by kernel_rfl) rfl #[.slice A1 l1.length c1] rfl ?_; (with_reducible refine (laws_toIntS.calls kj6 _ _ l1 t411 _ ?side1 ?side2 A15.out).mono ?_); (case side1 => exact Kd.C_below HR1.out (by exact Lz2 HB GE393 GE410)); (case side2 => exact HC1.out); rintro e w30 ⟨v412, rfl, ho0, hb⟩; refine ⟨_, rfl, ?_⟩; replace HO398 := Aside0.mk (Kd.R_below (by (with_reducible repeat (first | apply Kd.R_alloc | apply Kd.R_drewN | apply Kd.R_drew)); exact (Kd.R_mono (Kd.R_far (p := ⟨gb410, 1, none⟩) (Kd.R_far (p := ⟨gb410, 0, none⟩) (Kd.R_types HO398.out BK410.out (by decide)) (fun _ hk => hk.2) (.int .i64 t406)) (fun _ hk => hk.2) (.slice Ao29 t407.length co29)) (fun _ h_ => h_.1))) hb); replace HO409 := Aside0.mk (Kd.R_below (by (with_reducible repeat (first | apply Kd.R_alloc | apply Kd.R_drewN | apply Kd.R_drew)); exact (Kd.R_mono (Kd.R_far (p := ⟨gb410, 1, none⟩) (Kd.R_far (p := ⟨gb410, 0, none⟩) (Kd.R_types HO409.out BK410.out (by decide)) (fun _ hk => hk.2) (.int .i64 t406)) (fun _ hk => hk.2) (.slice Ao29 t407.length co29)) (fun _ h_ => h_.1))) hb); have HO413 := Aside0.mk (Kd.R_lower (Kd.R_new' (Kd.R_new' ho0 (Kd.R_lt (by (with_reducible repeat (first | apply Kd.R_alloc | apply Kd.R_drewN | apply Kd.R_drew)); exact (Kd.R_mono (Kd.R_far (p := ⟨gb410, 1, none⟩) (Kd.R_far (p := ⟨gb410, 0, none⟩) (Kd.R_types HO401.out BK410.out (by decide)) (fun _ hk => hk.2) (.int .i64 t406)) (fun _ hk => hk.2) (.slice Ao29 t407.length co29)) (fun _ h_ => h_.1))))) (Kd.R_lt (by (with_reducible repeat (first | apply Kd.R_alloc | apply Kd.R_drewN | apply Kd.R_drew)); exact (Kd.R_mono (Kd.R_far (p := ⟨gb410, 1, none⟩) (Kd.R_far (p := ⟨gb410, 0, none⟩) (Kd.R_types HO404.out BK410.out (by decide)) (fun _ hk => hk.2) (.int .i64 t406)) (fun _ hk => hk.2) (.slice Ao29 t407.length co29)) (fun _ h_ => h_.1))))) (below_size (by exact Lz2 HB GE393 GE410))); replace HO401 := Aside0.mk (Kd.R_elder' (by (with_reducible repeat (first | apply Kd.R_alloc | apply Kd.R_drewN | apply Kd.R_drew)); exact (Kd.R_mono (Kd.R_far (p := ⟨gb410, 1, none⟩) (Kd.R_far (p := ⟨gb410, 0, none⟩) (Kd.R_types HO401.out BK410.out (by decide)) (fun _ hk => hk.2) (.int .i64 t406)) (fun _ hk => hk.2) (.slice Ao29 t407.length co29)) (fun _ h_ => h_.1))) (Kd.R_base ho0) hb); replace HO404 := Aside0.mk (Kd.R_elder' (by (with_reducible repeat (first | apply Kd.R_alloc | apply Kd.R_drewN | apply Kd.R_drew)); exact (Kd.R_mono (Kd.R_far (p := ⟨gb410, 1, none⟩) (Kd.R_far (p := ⟨gb410, 0, none⟩) (Kd.R_types HO404.out BK410.out (by decide)) (fun _ hk => hk.2) (.int .i64 t406)) (fun _ hk => hk.2) (.slice Ao29 t407.length co29)) (fun _ h_ => h_.1))) (Kd.R_base ho0) hb); replace BK393 := Aside0.mk (blk_below (g := gb393) (o := .cells #[.int .i64 a0_0, .slice A0_1 l0_1.length c0_1] 24 (0, 0)) (by (with_reducible repeat (first | refine blk_drewN ?_ _ | refine blk_drew ?_ | refine blk_alloc ?_ _)); refine blk_far ?_ NB393_410.out _; (with_reducible repeat (first | refine blk_drewN ?_ _ | refine blk_drew ?_ | refine blk_alloc ?_ _)); refine blk_far ?_ NB393_410.out _; exact Bz BK393) hb); replace BK410 := Aside0.mk (blk_below (g := gb410) (o := .cells #[.int .i64 t406, .slice Ao29 t407.length co29] 31 (0, 0)) (by (with_reducible repeat (first | refine blk_drewN ?_ _ | refine blk_drew ?_ | refine blk_alloc ?_ _)); refine blk_put (cs := #[.int .i64 t406, .slice none 0 0]) ?_ 1 _ rfl; (with_reducible repeat (first | refine blk_drewN ?_ _ | refine blk_drew ?_ | refine blk_alloc ?_ _)); refine blk_put (cs := #[.int .i64 0, .slice none 0 0]) ?_ 0 _ rfl; exact Bz BK410) hb); replace HB := Aside0.mk (below_step (by exact Lz2 HB GE393 GE410) hb); (try clear hb); (try clear ho0); have hcz31_0 : w30.cell? ⟨gb410, 0, none⟩ = some (.int .i64 t406) := (blk_cell BK410.out 0).trans rfl; have hcz31_1 : w30.cell? ⟨gb410, 1, none⟩ = some (.slice Ao29 t407.length co29) := (blk_cell BK410.out 1).trans rfl; have hfz31_0 := blk_frozen BK410.out 0; have hfz31_1 := blk_frozen BK410.out 1; obtain ⟨Ao32, co32, eo32⟩ := Kd.R_slice HO413.out; subst eo32) | ((with_reducible refine gate_callee (f := 14) rfl ?_); refine goesM_ (some 40) rfl rfl Try.func14 (by kernel_rfl) rfl #[.agg #[.int .i64 t406, .slice Ao29 t407.length co29], .slice Ao32 t411.length co32] rfl ?_; (with_reducible refine (impl_WinningScript.calls kj6 t406 _ _ t407 _ _ t411 t414 t417 _ ?side1 ?side2 ?side3 ?side4 A16.out).mono ?_); (case side1 => exact Cz ((Kd.R_reads' HO409.out).2.2)); (case side2 => exact (Kd.R_reads' HO409.out).2.1); (case side3 => exact Cz ((Kd.R_reads' HO413.out).2.2)); (case side4 => exact (Kd.R_reads' HO413.out).2.1); rintro e w33 ⟨v415, rfl, ho0, hb⟩; refine ⟨_, rfl, ?_⟩; replace HO398 := Aside0.mk (Kd.R_below (Rz HO398) hb); replace HO409 := Aside0.mk (Kd.R_below (Rz HO409) hb); have HO416 := Aside0.mk (Kd.R_lower (Kd.R_new' (Kd.R_new' (Kd.R_new' ho0 (Kd.R_lt (Rz HO401))) (Kd.R_lt (Rz HO404))) (Kd.R_lt (Rz HO413))) (below_size (by exact Lz2 HB GE393 GE410))); replace HO401 := Aside0.mk (Kd.R_elder' (Rz HO401) (Kd.R_base ho0) hb); replace HO404 := Aside0.mk (Kd.R_elder' (Rz HO404) (Kd.R_base ho0) hb); replace HO413 := Aside0.mk (Kd.R_elder' (Rz HO413) (Kd.R_base ho0) hb); replace BK393 := Aside0.mk (blk_below (g := gb393) (o := .cells #[.int .i64 a0_0, .slice A0_1 l0_1.length c0_1] 24 (0, 0)) (Bz BK393) hb); replace BK410 := Aside0.mk (blk_below (g := gb410) (o := .cells #[.int .i64 t406, .slice Ao29 t407.length co29] 31 (0, 0)) (Bz BK410) hb); replace HB := Aside0.mk (below_step (by exact Lz2 HB GE393 GE410) hb); (try clear hb); (try clear ho0)))
     (try simp only [Act.put, List.setIfInBounds_toArray, List.set_cons_zero, List.set_cons_succ])
     go_cut [51] (fun v51 wc => ∃ (kq : Nat) (x51_16 : Bool), v51 = .bool x51_16 ∧ Aside0 (laws_FnExactWinningScript.j2 kq l1 t402 t405 t411 t414 t417 x51_16 a0_0 l0_1 t406 t407 = some r) ∧ Aside0 (kq ≤ kj6) ∧ Aside0 (Kd.R (Kd.int .i64) 3 wc w.heap.size (fun k_ => some k_ ≠ ((.slice Ao32 t411.length co32) : Value).ownBlock ∧ some k_ ≠ (v415 : Value).ownBlock) v403 t402) ∧ Aside0 (Kd.R (Kd.int .i64) 3 wc w.heap.size (fun k_ => some k_ ≠ (v403 : Value).ownBlock ∧ some k_ ≠ (v415 : Value).ownBlock) (.slice Ao32 t411.length co32) t411) ∧ Aside0 (Kd.R (Kd.int .i64) 3 wc w.heap.size (fun k_ => some k_ ≠ (v403 : Value).ownBlock ∧ some k_ ≠ ((.slice Ao32 t411.length co32) : Value).ownBlock) v415 t414) ∧ Aside0 (Kd.R k67 67 wc w.heap.size (fun _ => True) (.slice Ao29 t407.length co29) t407) ∧ Aside0 (wc.heap[gb393]? = some (.cells #[.int .i64 a0_0, (.slice A0_1 l0_1.length c0_1)] 24 (0, 0))) ∧ Aside0 (wc.heap[gb410]? = some (.cells #[.int .i64 t406, (.slice Ao29 t407.length co29)] 31 (0, 0))) ∧ Aside0 (Below w.heap.size w wc))
     case first =>
      have H := HC17.out
      clear HC17
      replace H := Option.bind_eq_some_iff.mp H
      obtain ⟨t418, A340, H⟩ := H
      replace H : (if t418 = true then (laws_FnExactWinningScript.j2 kj6 l1 t402 t405 t411 t414 t417 (t417 != t405) a0_0 l0_1 t406 t407) else (laws_FnExactWinningScript.j2 kj6 l1 t402 t405 t411 t414 t417 true a0_0 l0_1 t406 t407)) = some r := H
      have A34 := Aside0.mk A340
      clear A340
      by_cases c35 : t418 = true
      ·subst c35
       have H1 : (laws_FnExactWinningScript.j2 kj6 l1 t402 t405 t411 t414 t417 (t417 != t405) a0_0 l0_1 t406 t407) = some r := by rw [if_pos rfl] at H; exact H
       clear H
       have H := H1
       clear H1
       have H' := Aside0.mk H
       clear H
       obtain ⟨Ao36, co36, eo36⟩ := Kd.R_slice HO416.out
       subst eo36
       obtain ⟨Ao37, co37, eo37⟩ := Kd.R_slice HO404.out
       subst eo37
       go_wp2_with (first | ((with_reducible refine gate_callee (f := 15) rfl ?_); refine goesM_ (some 45) rfl rfl Try.func15 (by kernel_rfl) rfl #[.slice Ao36 t414.length co36, .slice Ao37 t402.length co37] rfl ?_; (with_reducible refine (laws_eqIntS.calls kj6 _ _ t414 _ _ t402 true _ ?side1 ?side2 ?side3 ?side4 A34.out).mono ?_); (case side1 => exact Cz ((Kd.R_reads' HO416.out).2.2)); (case side2 => exact (Kd.R_reads' HO416.out).2.1); (case side3 => exact Cz ((Kd.R_reads' HO404.out).2.2)); (case side4 => exact (Kd.R_reads' HO404.out).2.1); rintro e w' ⟨rfl, ⟨nd, rfl⟩⟩; refine ⟨_, rfl, ?_⟩))
       go_meet
       case rel => exact ⟨_, ((t417 != t405)), (by first | rfl | (simp; done) | (simp [*]; done)), H', ⟨by have := HJ2.out; have := HJ6.out; first | omega | exact Nat.le_refl _⟩, ⟨by (with_reducible repeat (first | apply Kd.R_alloc | apply Kd.R_drewN | apply Kd.R_drew)); exact Kd.R_mono HO404.out (fun _ hk => ⟨hk.1.2, hk.2⟩)⟩, ⟨by (with_reducible repeat (first | apply Kd.R_alloc | apply Kd.R_drewN | apply Kd.R_drew)); exact Kd.R_mono HO413.out (fun _ hk => ⟨hk.1.2, hk.2⟩)⟩, ⟨by (with_reducible repeat (first | apply Kd.R_alloc | apply Kd.R_drewN | apply Kd.R_drew)); exact Kd.R_mono HO416.out (fun _ hk => ⟨hk.1.2, hk.2⟩)⟩, ⟨by (with_reducible repeat (first | apply Kd.R_alloc | apply Kd.R_drewN | apply Kd.R_drew)); exact Kd.R_mono HO409.out (fun _ hk => trivial)⟩, ⟨by exact Bz BK393⟩, ⟨by exact Bz BK410⟩, ⟨by exact Lz2 HB GE393 GE410⟩⟩
      replace c35 := Bool.eq_false_iff.mpr c35
      subst c35
      have H1 : (laws_FnExactWinningScript.j2 kj6 l1 t402 t405 t411 t414 t417 true a0_0 l0_1 t406 t407) = some r := by rw [if_neg (show ¬ (false = true) by decide)] at H; exact H
      clear H
      have H := H1
      clear H1
      have H' := Aside0.mk H
      clear H
      obtain ⟨Ao38, co38, eo38⟩ := Kd.R_slice HO416.out
      subst eo38
      obtain ⟨Ao39, co39, eo39⟩ := Kd.R_slice HO404.out
      subst eo39
      go_wp2_with (first | ((with_reducible refine gate_callee (f := 15) rfl ?_); refine goesM_ (some 45) rfl rfl Try.func15 (by kernel_rfl) rfl #[.slice Ao38 t414.length co38, .slice Ao39 t402.length co39] rfl ?_; (with_reducible refine (laws_eqIntS.calls kj6 _ _ t414 _ _ t402 false _ ?side1 ?side2 ?side3 ?side4 A34.out).mono ?_); (case side1 => exact Cz ((Kd.R_reads' HO416.out).2.2)); (case side2 => exact (Kd.R_reads' HO416.out).2.1); (case side3 => exact Cz ((Kd.R_reads' HO404.out).2.2)); (case side4 => exact (Kd.R_reads' HO404.out).2.1); rintro e w' ⟨rfl, ⟨nd, rfl⟩⟩; refine ⟨_, rfl, ?_⟩))
      go_meet
      case rel => exact ⟨_, (true), (by first | rfl | (simp; done) | (simp [*]; done)), H', ⟨by have := HJ2.out; have := HJ6.out; first | omega | exact Nat.le_refl _⟩, ⟨by (with_reducible repeat (first | apply Kd.R_alloc | apply Kd.R_drewN | apply Kd.R_drew)); exact Kd.R_mono HO404.out (fun _ hk => ⟨hk.1.2, hk.2⟩)⟩, ⟨by (with_reducible repeat (first | apply Kd.R_alloc | apply Kd.R_drewN | apply Kd.R_drew)); exact Kd.R_mono HO413.out (fun _ hk => ⟨hk.1.2, hk.2⟩)⟩, ⟨by (with_reducible repeat (first | apply Kd.R_alloc | apply Kd.R_drewN | apply Kd.R_drew)); exact Kd.R_mono HO416.out (fun _ hk => ⟨hk.1.2, hk.2⟩)⟩, ⟨by (with_reducible repeat (first | apply Kd.R_alloc | apply Kd.R_drewN | apply Kd.R_drew)); exact Kd.R_mono HO409.out (fun _ hk => trivial)⟩, ⟨by exact Bz BK393⟩, ⟨by exact Bz BK410⟩, ⟨by exact Lz2 HB GE393 GE410⟩⟩
     case rest =>
      clear HC17
      try clear c1
      try clear c5
      try clear c5b0
      try clear c5b1
      try clear c10
      try clear c10b0
      try clear c35
      obtain ⟨kq, x51_16, rfl, HA, HJ16, HO_6, HO_9, HO_10, HO_411001, BK393, BK410, HB⟩ := hcut
      cases kq with
      | zero => exact absurd HA.out (by simp [laws_FnExactWinningScript.j2])
      | succ kj16 =>
       have H := HA.out
       clear HA
       simp only [laws_FnExactWinningScript.j2] at H
       have HC40 := Aside0.mk H
       clear H
       go_upto_if 51 with (fail)
       go_cut [] (fun wc => ∃ (kq : Nat), Aside0 (laws_FnExactWinningScript.j3 kq l1 t402 t405 t411 t414 t417 a0_0 l0_1 t406 t407 = some r) ∧ Aside0 (kq ≤ kj16) ∧ Aside0 (Kd.R (Kd.int .i64) 3 wc w.heap.size (fun k_ => some k_ ≠ ((.slice Ao32 t411.length co32) : Value).ownBlock ∧ some k_ ≠ (v415 : Value).ownBlock) v403 t402) ∧ Aside0 (Kd.R (Kd.int .i64) 3 wc w.heap.size (fun k_ => some k_ ≠ (v403 : Value).ownBlock ∧ some k_ ≠ (v415 : Value).ownBlock) (.slice Ao32 t411.length co32) t411) ∧ Aside0 (Kd.R (Kd.int .i64) 3 wc w.heap.size (fun k_ => some k_ ≠ (v403 : Value).ownBlock ∧ some k_ ≠ ((.slice Ao32 t411.length co32) : Value).ownBlock) v415 t414) ∧ Aside0 (Kd.R k67 67 wc w.heap.size (fun _ => True) (.slice Ao29 t407.length co29) t407) ∧ Aside0 (wc.heap[gb393]? = some (.cells #[.int .i64 a0_0, (.slice A0_1 l0_1.length c0_1)] 24 (0, 0))) ∧ Aside0 (wc.heap[gb410]? = some (.cells #[.int .i64 t406, (.slice Ao29 t407.length co29)] 31 (0, 0))) ∧ Aside0 (Below w.heap.size w wc))
       case first =>
        have H := HC40.out
        clear HC40
        by_cases c41 : x51_16 = true
        ·subst c41
         have H1 : (some false) = some r := by rw [if_pos rfl] at H; exact H
         clear H
         have H := H1
         clear H1
         obtain rfl := Option.some.inj H
         go_wp2
         go_ret
         exact ⟨by first | rfl | (simp [errW_none, errW_some] <;> rfl) | (simp [*, errW_none, errW_some] <;> rfl), by exact Lz2 HB GE393 GE410⟩
        replace c41 := Bool.eq_false_iff.mpr c41
        subst c41
        have H1 : (laws_FnExactWinningScript.j3 kj16 l1 t402 t405 t411 t414 t417 a0_0 l0_1 t406 t407) = some r := by rw [if_neg (show ¬ (false = true) by decide)] at H; exact H
        clear H
        have H := H1
        clear H1
        have H' := Aside0.mk H
        clear H
        go_wp2
        go_meet
        case rel => exact ⟨_, H', ⟨by have := HJ2.out; have := HJ6.out; have := HJ16.out; first | omega | exact Nat.le_refl _⟩, ⟨by exact Rz HO_6⟩, ⟨by exact Rz HO_9⟩, ⟨by exact Rz HO_10⟩, ⟨by exact Rz HO_411001⟩, ⟨by exact Bz BK393⟩, ⟨by exact Bz BK410⟩, ⟨by exact Lz2 HB GE393 GE410⟩⟩
       case rest =>
        clear HC40
        try clear c1
        try clear c5
        try clear c5b0
        try clear c5b1
        try clear c10
        try clear c10b0
        try clear c35
        try clear c41
        obtain ⟨kq, HA, HJ39, HO_6, HO_9, HO_10, HO_411001, BK393, BK410, HB⟩ := hcut
        cases kq with
        | zero => exact absurd HA.out (by simp [laws_FnExactWinningScript.j3])
        | succ kj39 =>
         have H := HA.out
         clear HA
         simp only [laws_FnExactWinningScript.j3] at H
         replace H := Option.bind_eq_some_iff.mp H
         obtain ⟨⟨t419, t420⟩, A420, H⟩ := H
         replace H : ((laws_eqGraph.f kj39 t406 t407 t419 t420).bind fun t423 => (if t423 = true then (laws_FnExactWinningScript.j4 kj39 l1 t402 t405 t411 t414 t417 a0_0 l0_1 t406 t407) else (some false))) = some r := H
         have A42 := Aside0.mk A420
         clear A420
         replace H := Option.bind_eq_some_iff.mp H
         obtain ⟨t423, A430, H⟩ := H
         replace H : (if t423 = true then (laws_FnExactWinningScript.j4 kj39 l1 t402 t405 t411 t414 t417 a0_0 l0_1 t406 t407) else (some false)) = some r := H
         have A43 := Aside0.mk A430
         clear A430
         have HC44 := Aside0.mk H
         clear H
         try go_wp2
         replace HO_6 := Aside0.mk (Kd.R_drew HO_6.out)
         replace HO_9 := Aside0.mk (Kd.R_drew HO_9.out)
         replace HO_10 := Aside0.mk (Kd.R_drew HO_10.out)
         replace HO_411001 := Aside0.mk (Kd.R_drew HO_411001.out)
         replace BK393 := Aside0.mk (blk_drew BK393.out)
         replace BK410 := Aside0.mk (blk_drew BK410.out)
         replace HB := Aside0.mk (below_drew1 HB.out)
         refine start_ (n := 5) (S := fun w' => w'.cell? ⟨gb410, 0, none⟩ = some (.int .i64 t406) ∧ w'.cell? ⟨gb410, 1, none⟩ = some (.slice Ao29 t407.length co29) ∧ w'.cell? ⟨gb393, 0, none⟩ = some (.int .i64 a0_0) ∧ w'.cell? ⟨gb393, 1, none⟩ = some (.slice A0_1 l0_1.length c0_1)) (ds := []) #[false, false, false, false, false] (by kernel_rfl) rfl rfl ⟨(blk_cell BK410.out 0).trans rfl, (blk_cell BK410.out 1).trans rfl, (blk_cell BK393.out 0).trans rfl, (blk_cell BK393.out 1).trans rfl⟩ (fun hHeld => ?_)
         generalize wc.drew = w45 at HO_6 HO_9 HO_10 HO_411001 BK393 BK410 HB hHeld ⊢
         refine take_ (i := 0) (N := some 52) (v := ?_) (a' := ?_) #[true, false, false, false, false] rfl rfl (by kernel_rfl) (fun _ _ _ h => h) (Or.inl ⟨by rfl, ?_⟩) hHeld ?_ ?_
         rotate_left
         ·rintro w' ⟨s0, s1, s2, s3⟩
          go_simp
          with_reducible rfl
         rotate_left
         ·simp only [Act.put, List.setIfInBounds_toArray, List.set_cons_zero, List.set_cons_succ, i64_w, i32_w]
          rfl
         refine take_ (i := 1) (N := some 53) (v := ?_) (a' := ?_) #[true, true, false, false, false] rfl rfl (by kernel_rfl) (fun _ _ _ h => h) (Or.inl ⟨by rfl, ?_⟩) hHeld ?_ ?_
         rotate_left
         ·rintro w' ⟨s0, s1, s2, s3⟩
          go_simp
          with_reducible rfl
         rotate_left
         ·simp only [Act.put, List.setIfInBounds_toArray, List.set_cons_zero, List.set_cons_succ, i64_w, i32_w]
          rfl
         refine one_ (i := 2) (N := some 54) #[true, true, true, false, false] rfl rfl (by kernel_rfl) (by decide) (fun K hK => ?_)
         refine goes_ Try.func12 (by kernel_rfl) rfl #[.agg #[.int .i64 a0_0, .slice A0_1 l0_1.length c0_1]] (by rfl) rfl rfl (by (try simp only [List.map_toArray, List.map_cons, List.map_nil]); first | done | rfl | (simp only [List.length_drop, List.length_take]; rfl)) ?_
         with_reducible refine (laws_toGraph.calls kj39 a0_0 _ _ l0_1 t419 t420 _ ?side1 ?side2 A42.out).mono ?_
         (case side1 => exact Cz ((Kd.C_below HR0_1.out HB.out)))
         (case side2 => exact HC0_1.out)
         rintro e w46 ⟨v421, rfl, ho0, hb⟩
         refine ⟨_, rfl, ?_⟩
         replace HO_6 := Aside0.mk (Kd.R_below (Rz HO_6) hb)
         replace HO_9 := Aside0.mk (Kd.R_below (Rz HO_9) hb)
         replace HO_10 := Aside0.mk (Kd.R_below (Rz HO_10) hb)
         have HO422 := Aside0.mk (Kd.R_lower (Kd.R_new' ho0 (Kd.R_lt (Rz HO_411001))) (below_size (by exact Lz2 HB GE393 GE410)))
         replace HO_411001 := Aside0.mk (Kd.R_elder' (Rz HO_411001) (Kd.R_base ho0) hb)
         replace BK393 := Aside0.mk (blk_below (g := gb393) (o := .cells #[.int .i64 a0_0, .slice A0_1 l0_1.length c0_1] 24 (0, 0)) (Bz BK393) hb)
         replace BK410 := Aside0.mk (blk_below (g := gb410) (o := .cells #[.int .i64 t406, .slice Ao29 t407.length co29] 31 (0, 0)) (Bz BK410) hb)
         replace HB := Aside0.mk (below_step (by exact Lz2 HB GE393 GE410) hb)
         (try clear hb)
         (try clear hb2)
         (try clear hk)
         (try clear hi)
         (try clear ho0)
         obtain ⟨Ao47, co47, eo47⟩ := Kd.R_slice HO422.out
         (first | subst eo47 | (injection eo47 with f1_ f2_ f3_; have f4_ := f1_.symm; have f5_ := f3_.symm; clear f1_ f2_ f3_; subst f4_; subst f5_))
         refine hK.out _ _ ⟨(blk_cell BK410.out 0).trans rfl, (blk_cell BK410.out 1).trans rfl, (blk_cell BK393.out 0).trans rfl, (blk_cell BK393.out 1).trans rfl⟩ (fun hHeld => ?_)
         clear hK K
         refine norm_ (a' := ?_) ?_ ?_
         rotate_left
         ·show Act.put _ (some 54) _ = _
          simp only [Act.put, List.setIfInBounds_toArray, List.set_cons_zero, List.set_cons_succ, i64_w, i32_w]
          rfl
         refine one_ (i := 3) (N := some 55) #[true, true, true, true, false] rfl rfl (by kernel_rfl) (by decide) (fun K hK => ?_)
         refine goes_ Try.func16 (by kernel_rfl) rfl #[.agg #[.int .i64 t406, .slice Ao29 t407.length co29], .agg #[.int .i64 t419, .slice Ao47 t420.length co47]] (by rfl) rfl rfl (by (try simp only [List.map_toArray, List.map_cons, List.map_nil]); first | done | rfl | (simp only [List.length_drop, List.length_take]; rfl)) ?_
         with_reducible refine (laws_eqGraph.calls kj39 t406 _ _ t407 t419 _ _ t420 t423 _ ?side1 ?side2 ?side3 ?side4 A43.out).mono ?_
         (case side1 => exact Cz ((Kd.R_reads' HO_411001.out).2.2))
         (case side2 => exact (Kd.R_reads' HO_411001.out).2.1)
         (case side3 => exact Cz ((Kd.R_reads' HO422.out).2.2))
         (case side4 => exact (Kd.R_reads' HO422.out).2.1)
         rintro e w48 ⟨rfl, hb⟩
         refine ⟨_, rfl, ?_⟩
         replace HO_6 := Aside0.mk (Kd.R_below (Rz HO_6) hb)
         replace HO_9 := Aside0.mk (Kd.R_below (Rz HO_9) hb)
         replace HO_10 := Aside0.mk (Kd.R_below (Rz HO_10) hb)
         replace HO_411001 := Aside0.mk (Kd.R_below (Rz HO_411001) hb)
         replace HO422 := Aside0.mk (Kd.R_below (Rz HO422) hb)
         replace BK393 := Aside0.mk (blk_below (g := gb393) (o := .cells #[.int .i64 a0_0, .slice A0_1 l0_1.length c0_1] 24 (0, 0)) (Bz BK393) hb)
         replace BK410 := Aside0.mk (blk_below (g := gb410) (o := .cells #[.int .i64 t406, .slice Ao29 t407.length co29] 31 (0, 0)) (Bz BK410) hb)
         replace HB := Aside0.mk (below_step (by exact Lz2 HB GE393 GE410) hb)
         (try clear hb)
         (try clear hb2)
         (try clear hk)
         (try clear hi)
         refine hK.out _ _ ⟨(blk_cell BK410.out 0).trans rfl, (blk_cell BK410.out 1).trans rfl, (blk_cell BK393.out 0).trans rfl, (blk_cell BK393.out 1).trans rfl⟩ (fun hHeld => ?_)
         clear hK K
         refine norm_ (a' := ?_) ?_ ?_
         rotate_left
         ·show Act.put _ (some 55) _ = _
          simp only [Act.put, List.setIfInBounds_toArray, List.set_cons_zero, List.set_cons_succ, i64_w, i32_w]
          rfl
         refine pure_ (i := 4) (N := some 56) (v := ?_) (a' := ?_) #[true, true, true, true, true] rfl rfl (by kernel_rfl) (fun _ _ _ h => h) (Or.inl ⟨by rfl, ?_⟩) ?_ ?_
         rotate_left
         ·intro w'
          go_simp
          with_reducible rfl
         rotate_left
         ·simp only [Act.put, List.setIfInBounds_toArray, List.set_cons_zero, List.set_cons_succ, i64_w, i32_w]
          rfl
         refine done_ (by kernel_rfl) ?_
         go_upto_if 56 with (fail)
         go_cut [] (fun wc => ∃ (kq : Nat), Aside0 (laws_FnExactWinningScript.j4 kq l1 t402 t405 t411 t414 t417 a0_0 l0_1 t406 t407 = some r) ∧ Aside0 (kq ≤ kj39) ∧ Aside0 (Kd.R (Kd.int .i64) 3 wc w.heap.size (fun k_ => some k_ ≠ ((.slice Ao32 t411.length co32) : Value).ownBlock ∧ some k_ ≠ (v415 : Value).ownBlock) v403 t402) ∧ Aside0 (Kd.R (Kd.int .i64) 3 wc w.heap.size (fun k_ => some k_ ≠ (v403 : Value).ownBlock ∧ some k_ ≠ (v415 : Value).ownBlock) (.slice Ao32 t411.length co32) t411) ∧ Aside0 (Kd.R (Kd.int .i64) 3 wc w.heap.size (fun k_ => some k_ ≠ (v403 : Value).ownBlock ∧ some k_ ≠ ((.slice Ao32 t411.length co32) : Value).ownBlock) v415 t414) ∧ Aside0 (Kd.R k67 67 wc w.heap.size (fun _ => True) (.slice Ao29 t407.length co29) t407) ∧ Aside0 (wc.heap[gb393]? = some (.cells #[.int .i64 a0_0, (.slice A0_1 l0_1.length c0_1)] 24 (0, 0))) ∧ Aside0 (wc.heap[gb410]? = some (.cells #[.int .i64 t406, (.slice Ao29 t407.length co29)] 31 (0, 0))) ∧ Aside0 (Below w.heap.size w wc))
         case first =>
          have H := HC44.out
          clear HC44
          by_cases c49 : t423 = true
          ·subst c49
           have H1 : (laws_FnExactWinningScript.j4 kj39 l1 t402 t405 t411 t414 t417 a0_0 l0_1 t406 t407) = some r := by rw [if_pos rfl] at H; exact H
           clear H
           have H := H1
           clear H1
           have H' := Aside0.mk H
           clear H
           go_wp2
           go_meet
           case rel => exact ⟨_, H', ⟨by have := HJ2.out; have := HJ6.out; have := HJ16.out; have := HJ39.out; first | omega | exact Nat.le_refl _⟩, ⟨by exact Rz HO_6⟩, ⟨by exact Rz HO_9⟩, ⟨by exact Rz HO_10⟩, ⟨by (with_reducible repeat (first | apply Kd.R_alloc | apply Kd.R_drewN | apply Kd.R_drew)); exact Kd.R_mono HO_411001.out (fun _ hk => trivial)⟩, ⟨by exact Bz BK393⟩, ⟨by exact Bz BK410⟩, ⟨by exact Lz2 HB GE393 GE410⟩⟩
          replace c49 := Bool.eq_false_iff.mpr c49
          subst c49
          have H1 : (some false) = some r := by rw [if_neg (show ¬ (false = true) by decide)] at H; exact H
          clear H
          have H := H1
          clear H1
          obtain rfl := Option.some.inj H
          go_wp2
          go_ret
          exact ⟨by first | rfl | (simp [errW_none, errW_some] <;> rfl) | (simp [*, errW_none, errW_some] <;> rfl), by exact Lz2 HB GE393 GE410⟩
         case rest =>
          clear HC44
          try clear c1
          try clear c5
          try clear c5b0
          try clear c5b1
          try clear c10
          try clear c10b0
          try clear c35
          try clear c41
          try clear c49
          obtain ⟨kq, HA, HJ43, HO_6, HO_9, HO_10, HO_411001, BK393, BK410, HB⟩ := hcut
          cases kq with
          | zero => exact absurd HA.out (by simp [laws_FnExactWinningScript.j4])
          | succ kj43 =>
           have H := HA.out
           clear HA
           simp only [laws_FnExactWinningScript.j4] at H
           replace H := Option.bind_eq_some_iff.mp H
           obtain ⟨t424, A500, H⟩ := H
           replace H : ((laws_eqIntS.f kj43 t411 t424).bind fun t427 => (if t427 = true then (laws_FnExactWinningScript.j5 kj43 l1 t402 t405 t411 t414 t417 a0_0 l0_1 t406 t407) else (some false))) = some r := H
           have A50 := Aside0.mk A500
           clear A500
           replace H := Option.bind_eq_some_iff.mp H
           obtain ⟨t427, A510, H⟩ := H
           replace H : (if t427 = true then (laws_FnExactWinningScript.j5 kj43 l1 t402 t405 t411 t414 t417 a0_0 l0_1 t406 t407) else (some false)) = some r := H
           have A51 := Aside0.mk A510
           clear A510
           have HC52 := Aside0.mk H
           clear H
           go_upto_if 61 with (first | ((with_reducible refine gate_callee (f := 13) rfl ?_); refine goesM_ (some 59) rfl rfl Try.func13 (by kernel_rfl) rfl #[.slice A1 l1.length c1] rfl ?_; (with_reducible refine (laws_toIntS.calls kj43 _ _ l1 t424 _ ?side1 ?side2 A50.out).mono ?_); (case side1 => exact Cz ((Kd.C_below HR1.out HB.out))); (case side2 => exact HC1.out); rintro e w53 ⟨v425, rfl, ho0, hb⟩; refine ⟨_, rfl, ?_⟩; replace HO_411001 := Aside0.mk (Kd.R_below (Rz HO_411001) hb); have HO426 := Aside0.mk (Kd.R_lower (Kd.R_new' (Kd.R_new' (Kd.R_new' ho0 (Kd.R_lt (Rz HO_6))) (Kd.R_lt (Rz HO_9))) (Kd.R_lt (Rz HO_10))) (below_size (by exact Lz2 HB GE393 GE410))); replace HO_6 := Aside0.mk (Kd.R_elder' (Rz HO_6) (Kd.R_base ho0) hb); replace HO_9 := Aside0.mk (Kd.R_elder' (Rz HO_9) (Kd.R_base ho0) hb); replace HO_10 := Aside0.mk (Kd.R_elder' (Rz HO_10) (Kd.R_base ho0) hb); replace BK393 := Aside0.mk (blk_below (g := gb393) (o := .cells #[.int .i64 a0_0, .slice A0_1 l0_1.length c0_1] 24 (0, 0)) (Bz BK393) hb); replace BK410 := Aside0.mk (blk_below (g := gb410) (o := .cells #[.int .i64 t406, .slice Ao29 t407.length co29] 31 (0, 0)) (Bz BK410) hb); replace HB := Aside0.mk (below_step (by exact Lz2 HB GE393 GE410) hb); (try clear hb); (try clear ho0); obtain ⟨Ao54, co54, eo54⟩ := Kd.R_slice HO426.out; subst eo54) | ((with_reducible refine gate_callee (f := 15) rfl ?_); refine goesM_ (some 60) rfl rfl Try.func15 (by kernel_rfl) rfl #[.slice Ao32 t411.length co32, .slice Ao54 t424.length co54] rfl ?_; (with_reducible refine (laws_eqIntS.calls kj43 _ _ t411 _ _ t424 t427 _ ?side1 ?side2 ?side3 ?side4 A51.out).mono ?_); (case side1 => exact Cz ((Kd.R_reads' HO_9.out).2.2)); (case side2 => exact (Kd.R_reads' HO_9.out).2.1); (case side3 => exact Cz ((Kd.R_reads' HO426.out).2.2)); (case side4 => exact (Kd.R_reads' HO426.out).2.1); rintro e w' ⟨rfl, ⟨nd, rfl⟩⟩; refine ⟨_, rfl, ?_⟩))
           (try simp only [Act.put, List.setIfInBounds_toArray, List.set_cons_zero, List.set_cons_succ])
           go_cut [] (fun wc => ∃ (kq : Nat), Aside0 (laws_FnExactWinningScript.j5 kq l1 t402 t405 t411 t414 t417 a0_0 l0_1 t406 t407 = some r) ∧ Aside0 (kq ≤ kj43) ∧ Aside0 (Kd.R (Kd.int .i64) 3 wc w.heap.size (fun k_ => some k_ ≠ ((.slice Ao32 t411.length co32) : Value).ownBlock ∧ some k_ ≠ (v415 : Value).ownBlock) v403 t402) ∧ Aside0 (Kd.R (Kd.int .i64) 3 wc w.heap.size (fun k_ => some k_ ≠ (v403 : Value).ownBlock ∧ some k_ ≠ (v415 : Value).ownBlock) (.slice Ao32 t411.length co32) t411) ∧ Aside0 (Kd.R (Kd.int .i64) 3 wc w.heap.size (fun k_ => some k_ ≠ (v403 : Value).ownBlock ∧ some k_ ≠ ((.slice Ao32 t411.length co32) : Value).ownBlock) v415 t414) ∧ Aside0 (Kd.R k67 67 wc w.heap.size (fun _ => True) (.slice Ao29 t407.length co29) t407) ∧ Aside0 (wc.heap[gb393]? = some (.cells #[.int .i64 a0_0, (.slice A0_1 l0_1.length c0_1)] 24 (0, 0))) ∧ Aside0 (wc.heap[gb410]? = some (.cells #[.int .i64 t406, (.slice Ao29 t407.length co29)] 31 (0, 0))) ∧ Aside0 (Below w.heap.size w wc))
           case first =>
            have H := HC52.out
            clear HC52
            by_cases c55 : t427 = true
            ·subst c55
             have H1 : (laws_FnExactWinningScript.j5 kj43 l1 t402 t405 t411 t414 t417 a0_0 l0_1 t406 t407) = some r := by rw [if_pos rfl] at H; exact H
             clear H
             have H := H1
             clear H1
             have H' := Aside0.mk H
             clear H
             go_wp2
             go_meet
             case rel => exact ⟨_, H', ⟨by have := HJ2.out; have := HJ6.out; have := HJ16.out; have := HJ39.out; have := HJ43.out; first | omega | exact Nat.le_refl _⟩, ⟨by (with_reducible repeat (first | apply Kd.R_alloc | apply Kd.R_drewN | apply Kd.R_drew)); exact Kd.R_mono HO_6.out (fun _ hk => ⟨hk.1.1, hk.1.2⟩)⟩, ⟨by (with_reducible repeat (first | apply Kd.R_alloc | apply Kd.R_drewN | apply Kd.R_drew)); exact Kd.R_mono HO_9.out (fun _ hk => ⟨hk.1.1, hk.1.2⟩)⟩, ⟨by (with_reducible repeat (first | apply Kd.R_alloc | apply Kd.R_drewN | apply Kd.R_drew)); exact Kd.R_mono HO_10.out (fun _ hk => ⟨hk.1.1, hk.1.2⟩)⟩, ⟨by exact Rz HO_411001⟩, ⟨by exact Bz BK393⟩, ⟨by exact Bz BK410⟩, ⟨by exact Lz2 HB GE393 GE410⟩⟩
            replace c55 := Bool.eq_false_iff.mpr c55
            subst c55
            have H1 : (some false) = some r := by rw [if_neg (show ¬ (false = true) by decide)] at H; exact H
            clear H
            have H := H1
            clear H1
            obtain rfl := Option.some.inj H
            go_wp2
            go_ret
            exact ⟨by first | rfl | (simp [errW_none, errW_some] <;> rfl) | (simp [*, errW_none, errW_some] <;> rfl), by exact Lz2 HB GE393 GE410⟩
           case rest =>
            clear HC52
            try clear c1
            try clear c5
            try clear c5b0
            try clear c5b1
            try clear c10
            try clear c10b0
            try clear c35
            try clear c41
            try clear c49
            try clear c55
            obtain ⟨kq, HA, HJ51, HO_6, HO_9, HO_10, HO_411001, BK393, BK410, HB⟩ := hcut
            cases kq with
            | zero => exact absurd HA.out (by simp [laws_FnExactWinningScript.j5])
            | succ kj51 =>
             have H := HA.out
             clear HA
             simp only [laws_FnExactWinningScript.j5] at H
             replace H := Option.bind_eq_some_iff.mp H
             obtain ⟨⟨t428, t429⟩, A560, H⟩ := H
             replace H : ((laws_markIntS.f kj51 t411 t428).bind fun bt430 => (if bt430.1 < 0 then (laws_FnExactWinningScript.j6 kj51 l1 t402 t405 t414 true a0_0 l0_1) else ((laws_eqIntS.f kj51 t414 t402).bind fun t432 => (if t432 = true then (laws_FnExactWinningScript.j6 kj51 l1 t402 t405 t414 (t417 != t405) a0_0 l0_1) else (laws_FnExactWinningScript.j6 kj51 l1 t402 t405 t414 true a0_0 l0_1))))) = some r := H
             have A56 := Aside0.mk A560
             clear A560
             replace H := Option.bind_eq_some_iff.mp H
             obtain ⟨⟨t430, t431⟩, A570, H⟩ := H
             replace H : (if t430 < 0 then (laws_FnExactWinningScript.j6 kj51 l1 t402 t405 t414 true a0_0 l0_1) else ((laws_eqIntS.f kj51 t414 t402).bind fun t432 => (if t432 = true then (laws_FnExactWinningScript.j6 kj51 l1 t402 t405 t414 (t417 != t405) a0_0 l0_1) else (laws_FnExactWinningScript.j6 kj51 l1 t402 t405 t414 true a0_0 l0_1)))) = some r := H
             have A57 := Aside0.mk A570
             clear A570
             have HC58 := Aside0.mk H
             clear H
             have hnb59 := NB410_393.out
             have hnc59 := NB393_410.out
             have hcz60_0 : wc.cell? ⟨gb410, 0, none⟩ = some (.int .i64 t406) := (blk_cell BK410.out 0).trans rfl
             have hcz60_1 : wc.cell? ⟨gb410, 1, none⟩ = some (.slice Ao29 t407.length co29) := (blk_cell BK410.out 1).trans rfl
             have hfz60_0 := blk_frozen BK410.out 0
             have hfz60_1 := blk_frozen BK410.out 1
             go_upto_region 20 with (first | ((with_reducible refine gate_callee (f := 17) rfl ?_); refine goesM_ (some 64) rfl rfl Try.func17 (by kernel_rfl) rfl #[.agg #[.int .i64 t406, .slice Ao29 t407.length co29], .int .i64 1] rfl ?_; (with_reducible refine (laws_markGraph.calls kj51 t406 (fun k_ => some k_ = (.slice Ao29 t407.length co29 : Value).ownBlock) (.slice Ao29 t407.length co29) t407 1 t428 t429 w _ ?side1 ?side2 A56.out).mono ?_); (case side1 => exact Lz2 HB GE393 GE410); (case side2 => exact Kd.R_tight rfl HO_411001.out); rintro e w61 ⟨rfl, hy0, hb, hkp⟩; refine ⟨_, rfl, ?_⟩; replace HO_6 := Aside0.mk (Kd.R_mono (ok' := fun k_ => some k_ ≠ (.slice Ao32 t411.length co32 : Value).ownBlock ∧ some k_ ≠ (v415 : Value).ownBlock) (Kd.R_keptB ((Kd.R_apart' HO_6.out (Kd.R_typed HO_411001.out) (by decide))) hkp (fun k_ hk_ hs_ => (hk_.2) hs_)) (fun k_ hk_ => ⟨hk_.1.1.1, hk_.1.1.2⟩)); replace HO_9 := Aside0.mk (Kd.R_mono (ok' := fun k_ => some k_ ≠ (v403 : Value).ownBlock ∧ some k_ ≠ (v415 : Value).ownBlock) (Kd.R_keptB ((Kd.R_apart' HO_9.out (Kd.R_typed HO_411001.out) (by decide))) hkp (fun k_ hk_ hs_ => (hk_.2) hs_)) (fun k_ hk_ => ⟨hk_.1.1.1, hk_.1.1.2⟩)); replace HO_10 := Aside0.mk (Kd.R_mono (ok' := fun k_ => some k_ ≠ (v403 : Value).ownBlock ∧ some k_ ≠ (.slice Ao32 t411.length co32 : Value).ownBlock) (Kd.R_keptB ((Kd.R_apart' HO_10.out (Kd.R_typed HO_411001.out) (by decide))) hkp (fun k_ hk_ hs_ => (hk_.2) hs_)) (fun k_ hk_ => ⟨hk_.1.1.1, hk_.1.1.2⟩)); replace BK393 := Aside0.mk (blk_kept (Bz BK393) hkp (fun hs_ => (fun e_ => (Kd.R_ne HO_411001.out BK393.out (by decide)) e_) hs_)); replace BK410 := Aside0.mk (blk_kept (Bz BK410) hkp (fun hs_ => (fun e_ => (Kd.R_ne HO_411001.out BK410.out (by decide)) e_) hs_)); replace HO_411001 := Aside0.mk (Kd.R_reok rfl hy0 (fun k_ e_ => HO_411001.out.1 k_ e_)); replace HB := Aside0.mk (hb); (try clear hb); (try clear hkp); (try clear hy0)) | ((with_reducible refine gate_callee (f := 18) rfl ?_); refine goesM_ (some 67) rfl rfl Try.func18 (by kernel_rfl) rfl #[.slice Ao32 t411.length co32, .int .i64 t428] rfl ?_; (with_reducible refine (laws_markIntS.calls kj51 (fun k_ => some k_ = (.slice Ao32 t411.length co32 : Value).ownBlock) (.slice Ao32 t411.length co32) t411 t428 t430 t431 w _ ?side1 ?side2 A57.out).mono ?_); (case side1 => exact Lz2 HB GE393 GE410); (case side2 => exact Kd.R_tight rfl HO_9.out); rintro e w62 ⟨rfl, hy0, hb, hkp⟩; refine ⟨_, rfl, ?_⟩; replace HO_6 := Aside0.mk (Kd.R_mono (ok' := fun k_ => some k_ ≠ (.slice Ao32 t411.length co32 : Value).ownBlock ∧ some k_ ≠ (v415 : Value).ownBlock) (Kd.R_keptB (HO_6.out) hkp (fun k_ hk_ hs_ => (hk_.1) hs_)) (fun k_ hk_ => ⟨hk_.1.1, hk_.1.2⟩)); replace HO_10 := Aside0.mk (Kd.R_mono (ok' := fun k_ => some k_ ≠ (v403 : Value).ownBlock ∧ some k_ ≠ (.slice Ao32 t411.length co32 : Value).ownBlock) (Kd.R_keptB (HO_10.out) hkp (fun k_ hk_ hs_ => (hk_.2) hs_)) (fun k_ hk_ => ⟨hk_.1.1, hk_.1.2⟩)); replace HO_411001 := Aside0.mk (Kd.R_mono (ok' := fun k_ => True) (Kd.R_keptB ((Kd.R_apart' HO_411001.out (Kd.R_typed HO_9.out) (by decide))) hkp (fun k_ hk_ hs_ => (hk_.2) hs_)) (fun k_ hk_ => trivial)); replace BK393 := Aside0.mk (blk_kept (Bz BK393) hkp (fun hs_ => (fun e_ => (Kd.R_ne HO_9.out BK393.out (by decide)) e_) hs_)); replace BK410 := Aside0.mk (blk_kept (Bz BK410) hkp (fun hs_ => (fun e_ => (Kd.R_ne HO_9.out BK410.out (by decide)) e_) hs_)); replace HO_9 := Aside0.mk (Kd.R_reok rfl hy0 (fun k_ e_ => HO_9.out.1 k_ e_)); replace HB := Aside0.mk (hb); (try clear hb); (try clear hkp); (try clear hy0)))
             (try simp only [Act.put, List.setIfInBounds_toArray, List.set_cons_zero, List.set_cons_succ])
             go_cut [80] (fun v80 wc => ∃ (kq : Nat) (x80_57 : Bool), v80 = .bool x80_57 ∧ Aside0 (laws_FnExactWinningScript.j6 kq l1 t402 t405 t414 x80_57 a0_0 l0_1 = some r) ∧ Aside0 (kq ≤ kj51) ∧ Aside0 (Kd.R (Kd.int .i64) 3 wc w.heap.size (fun k_ => some k_ ≠ (v415 : Value).ownBlock) v403 t402) ∧ Aside0 (Kd.R (Kd.int .i64) 3 wc w.heap.size (fun k_ => some k_ ≠ (v403 : Value).ownBlock) v415 t414) ∧ Aside0 (Kd.R k67 67 wc w.heap.size (fun _ => True) (.slice Ao29 t407.length co29) t429) ∧ Aside0 (wc.heap[gb393]? = some (.cells #[.int .i64 a0_0, (.slice A0_1 l0_1.length c0_1)] 24 (0, 0))) ∧ Aside0 (wc.heap[gb410]? = some (.cells #[.int .i64 t406, (.slice Ao29 t407.length co29)] 31 (0, 0))) ∧ Aside0 (Below w.heap.size w wc))
             case first =>
              have H := HC58.out
              clear HC58
              by_cases c63 : t430 < 0
              ·rw [if_pos c63] at H
               have c63b0 : decide (t430 < 0) = true := decide_eq_true c63
               clear c63
               (first | rw [c63b0] | (simp only [i64_w, i32_w]; rw [c63b0]) | skip)
               have H' := Aside0.mk H
               clear H
               go_wp2
               go_meet
               case rel => exact ⟨_, (true), (by first | rfl | (simp; done) | (simp [*]; done)), H', ⟨by have := HJ2.out; have := HJ6.out; have := HJ16.out; have := HJ39.out; have := HJ43.out; have := HJ51.out; first | omega | exact Nat.le_refl _⟩, ⟨by (with_reducible repeat (first | apply Kd.R_alloc | apply Kd.R_drewN | apply Kd.R_drew)); exact Kd.R_mono HO_6.out (fun _ hk => hk.2)⟩, ⟨by (with_reducible repeat (first | apply Kd.R_alloc | apply Kd.R_drewN | apply Kd.R_drew)); exact Kd.R_mono HO_10.out (fun _ hk => hk.1)⟩, ⟨by exact Rz HO_411001⟩, ⟨by exact Bz BK393⟩, ⟨by exact Bz BK410⟩, ⟨by exact Lz2 HB GE393 GE410⟩⟩
              rw [if_neg c63] at H
              have c63b0 : decide (t430 < 0) = false := decide_eq_false c63
              clear c63
              (first | rw [c63b0] | (simp only [i64_w, i32_w]; rw [c63b0]) | skip)
              replace H := Option.bind_eq_some_iff.mp H
              obtain ⟨t432, A640, H⟩ := H
              replace H : (if t432 = true then (laws_FnExactWinningScript.j6 kj51 l1 t402 t405 t414 (t417 != t405) a0_0 l0_1) else (laws_FnExactWinningScript.j6 kj51 l1 t402 t405 t414 true a0_0 l0_1)) = some r := H
              have A64 := Aside0.mk A640
              clear A640
              by_cases c65 : t432 = true
              ·subst c65
               have H1 : (laws_FnExactWinningScript.j6 kj51 l1 t402 t405 t414 (t417 != t405) a0_0 l0_1) = some r := by rw [if_pos rfl] at H; exact H
               clear H
               have H := H1
               clear H1
               have H' := Aside0.mk H
               clear H
               obtain ⟨Ao66, co66, eo66⟩ := Kd.R_slice HO_10.out
               subst eo66
               obtain ⟨Ao67, co67, eo67⟩ := Kd.R_slice HO_6.out
               subst eo67
               go_wp2_with (first | (go_at_call 15; (with_reducible refine (laws_eqIntS.calls kj51 _ _ t414 _ _ t402 true _ ?side1 ?side2 ?side3 ?side4 A64.out).mono ?_); (case side1 => exact Cz ((Kd.R_reads' HO_10.out).2.2)); (case side2 => exact (Kd.R_reads' HO_10.out).2.1); (case side3 => exact Cz ((Kd.R_reads' HO_6.out).2.2)); (case side4 => exact (Kd.R_reads' HO_6.out).2.1); rintro e w' ⟨rfl, ⟨nd, rfl⟩⟩))
               go_meet
               case rel => exact ⟨_, ((t417 != t405)), (by first | rfl | (simp; done) | (simp [*]; done)), H', ⟨by have := HJ2.out; have := HJ6.out; have := HJ16.out; have := HJ39.out; have := HJ43.out; have := HJ51.out; first | omega | exact Nat.le_refl _⟩, ⟨by (with_reducible repeat (first | apply Kd.R_alloc | apply Kd.R_drewN | apply Kd.R_drew)); exact Kd.R_mono HO_6.out (fun _ hk => hk.2)⟩, ⟨by (with_reducible repeat (first | apply Kd.R_alloc | apply Kd.R_drewN | apply Kd.R_drew)); exact Kd.R_mono HO_10.out (fun _ hk => hk.1)⟩, ⟨by exact Rz HO_411001⟩, ⟨by exact Bz BK393⟩, ⟨by exact Bz BK410⟩, ⟨by exact Lz2 HB GE393 GE410⟩⟩
              replace c65 := Bool.eq_false_iff.mpr c65
              subst c65
              have H1 : (laws_FnExactWinningScript.j6 kj51 l1 t402 t405 t414 true a0_0 l0_1) = some r := by rw [if_neg (show ¬ (false = true) by decide)] at H; exact H
              clear H
              have H := H1
              clear H1
              have H' := Aside0.mk H
              clear H
              obtain ⟨Ao68, co68, eo68⟩ := Kd.R_slice HO_10.out
              subst eo68
              obtain ⟨Ao69, co69, eo69⟩ := Kd.R_slice HO_6.out
              subst eo69
              go_wp2_with (first | (go_at_call 15; (with_reducible refine (laws_eqIntS.calls kj51 _ _ t414 _ _ t402 false _ ?side1 ?side2 ?side3 ?side4 A64.out).mono ?_); (case side1 => exact Cz ((Kd.R_reads' HO_10.out).2.2)); (case side2 => exact (Kd.R_reads' HO_10.out).2.1); (case side3 => exact Cz ((Kd.R_reads' HO_6.out).2.2)); (case side4 => exact (Kd.R_reads' HO_6.out).2.1); rintro e w' ⟨rfl, ⟨nd, rfl⟩⟩))
              go_meet
              case rel => exact ⟨_, (true), (by first | rfl | (simp; done) | (simp [*]; done)), H', ⟨by have := HJ2.out; have := HJ6.out; have := HJ16.out; have := HJ39.out; have := HJ43.out; have := HJ51.out; first | omega | exact Nat.le_refl _⟩, ⟨by (with_reducible repeat (first | apply Kd.R_alloc | apply Kd.R_drewN | apply Kd.R_drew)); exact Kd.R_mono HO_6.out (fun _ hk => hk.2)⟩, ⟨by (with_reducible repeat (first | apply Kd.R_alloc | apply Kd.R_drewN | apply Kd.R_drew)); exact Kd.R_mono HO_10.out (fun _ hk => hk.1)⟩, ⟨by exact Rz HO_411001⟩, ⟨by exact Bz BK393⟩, ⟨by exact Bz BK410⟩, ⟨by exact Lz2 HB GE393 GE410⟩⟩
             case rest =>
              clear HC58
              try clear c1
              try clear c5
              try clear c5b0
              try clear c5b1
              try clear c10
              try clear c10b0
              try clear c35
              try clear c41
              try clear c49
              try clear c55
              try clear c63
              try clear c63b0
              try clear c65
              obtain ⟨kq, x80_57, rfl, HA, HJ57, HO_6, HO_10, HO_411001, BK393, BK410, HB⟩ := hcut
              have hl411001_57 := (Kd.R_reads' HO_411001.out).1
              rw [hl411001_57] at HO_411001
              (try simp only [hl411001_57])
              (try simp only [hl411001_57] at BK393)
              (try simp only [hl411001_57] at BK410)
              (try simp only [hl411001_57] at HO_6)
              (try simp only [hl411001_57] at HO_10)
              cases kq with
              | zero => exact absurd HA.out (by simp [laws_FnExactWinningScript.j6])
              | succ kj57 =>
               have H := HA.out
               clear HA
               simp only [laws_FnExactWinningScript.j6] at H
               have HC70 := Aside0.mk H
               clear H
               go_upto_if 80 with (fail)
               go_cut [] (fun wc => ∃ (kq : Nat), Aside0 (laws_FnExactWinningScript.j7 kq l1 t402 t405 t414 a0_0 l0_1 = some r) ∧ Aside0 (kq ≤ kj57) ∧ Aside0 (Kd.R (Kd.int .i64) 3 wc w.heap.size (fun k_ => some k_ ≠ (v415 : Value).ownBlock) v403 t402) ∧ Aside0 (Kd.R (Kd.int .i64) 3 wc w.heap.size (fun k_ => some k_ ≠ (v403 : Value).ownBlock) v415 t414) ∧ Aside0 (Kd.R k67 67 wc w.heap.size (fun _ => True) (.slice Ao29 t429.length co29) t429) ∧ Aside0 (wc.heap[gb393]? = some (.cells #[.int .i64 a0_0, (.slice A0_1 l0_1.length c0_1)] 24 (0, 0))) ∧ Aside0 (wc.heap[gb410]? = some (.cells #[.int .i64 t406, (.slice Ao29 t429.length co29)] 31 (0, 0))) ∧ Aside0 (Below w.heap.size w wc))
               case first =>
                have H := HC70.out
                clear HC70
                by_cases c71 : x80_57 = true
                ·subst c71
                 have H1 : (some false) = some r := by rw [if_pos rfl] at H; exact H
                 clear H
                 have H := H1
                 clear H1
                 obtain rfl := Option.some.inj H
                 go_wp2
                 go_ret
                 exact ⟨by first | rfl | (simp [errW_none, errW_some] <;> rfl) | (simp [*, errW_none, errW_some] <;> rfl), by exact Lz2 HB GE393 GE410⟩
                replace c71 := Bool.eq_false_iff.mpr c71
                subst c71
                have H1 : (laws_FnExactWinningScript.j7 kj57 l1 t402 t405 t414 a0_0 l0_1) = some r := by rw [if_neg (show ¬ (false = true) by decide)] at H; exact H
                clear H
                have H := H1
                clear H1
                have H' := Aside0.mk H
                clear H
                go_wp2
                go_meet
                case rel => exact ⟨_, H', ⟨by have := HJ2.out; have := HJ6.out; have := HJ16.out; have := HJ39.out; have := HJ43.out; have := HJ51.out; have := HJ57.out; first | omega | exact Nat.le_refl _⟩, ⟨by (try simp only [hl411001_57]); exact Rz HO_6⟩, ⟨by (try simp only [hl411001_57]); exact Rz HO_10⟩, ⟨by (try simp only [hl411001_57]); exact Rz HO_411001⟩, ⟨by (try simp only [hl411001_57]); exact Bz BK393⟩, ⟨by (try simp only [hl411001_57]); exact Bz BK410⟩, ⟨by exact Lz2 HB GE393 GE410⟩⟩
               case rest =>
                clear HC70
                try clear c1
                try clear c5
                try clear c5b0
                try clear c5b1
                try clear c10
                try clear c10b0
                try clear c35
                try clear c41
                try clear c49
                try clear c55
                try clear c63
                try clear c63b0
                try clear c65
                try clear c71
                obtain ⟨kq, HA, HJ69, HO_6, HO_10, HO_411001, BK393, BK410, HB⟩ := hcut
                cases kq with
                | zero => exact absurd HA.out (by simp [laws_FnExactWinningScript.j7])
                | succ kj69 =>
                 have H := HA.out
                 clear HA
                 simp only [laws_FnExactWinningScript.j7] at H
                 replace H := Option.bind_eq_some_iff.mp H
                 obtain ⟨⟨t433, t434⟩, A720, H⟩ := H
                 replace H : ((laws_heldIntS.f kj69 t434 1).bind fun t435 => (if t435 < 0 then (some false) else (laws_FnExactWinningScript.j8 kj69 l1 t402 t405 t434 t433 t435 a0_0 l0_1))) = some r := H
                 have A72 := Aside0.mk A720
                 clear A720
                 replace H := Option.bind_eq_some_iff.mp H
                 obtain ⟨t435, A730, H⟩ := H
                 replace H : (if t435 < 0 then (some false) else (laws_FnExactWinningScript.j8 kj69 l1 t402 t405 t434 t433 t435 a0_0 l0_1)) = some r := H
                 have A73 := Aside0.mk A730
                 clear A730
                 have HC74 := Aside0.mk H
                 clear H
                 obtain ⟨Ao75, co75, eo75⟩ := Kd.R_slice HO_10.out
                 subst eo75
                 go_upto_if 88 with (first | ((with_reducible refine gate_callee (f := 18) rfl ?_); refine goesM_ (some 83) rfl rfl Try.func18 (by kernel_rfl) rfl #[.slice Ao75 t414.length co75, .int .i64 1] rfl ?_; (with_reducible refine (laws_markIntS.calls kj69 (fun k_ => some k_ = (.slice Ao75 t414.length co75 : Value).ownBlock) (.slice Ao75 t414.length co75) t414 1 t433 t434 w _ ?side1 ?side2 A72.out).mono ?_); (case side1 => exact Lz2 HB GE393 GE410); (case side2 => exact Kd.R_tight rfl HO_10.out); rintro e w76 ⟨rfl, hy0, hb, hkp⟩; refine ⟨_, rfl, ?_⟩; replace HO_6 := Aside0.mk (Kd.R_mono (ok' := fun k_ => some k_ ≠ (.slice Ao75 t414.length co75 : Value).ownBlock) (Kd.R_keptB (HO_6.out) hkp (fun k_ hk_ hs_ => (hk_) hs_)) (fun k_ hk_ => hk_.1)); replace HO_411001 := Aside0.mk (Kd.R_mono (ok' := fun k_ => True) (Kd.R_keptB ((Kd.R_apart' HO_411001.out (Kd.R_typed HO_10.out) (by decide))) hkp (fun k_ hk_ hs_ => (hk_.2) hs_)) (fun k_ hk_ => trivial)); replace BK393 := Aside0.mk (blk_kept (Bz BK393) hkp (fun hs_ => (fun e_ => (Kd.R_ne HO_10.out BK393.out (by decide)) e_) hs_)); replace BK410 := Aside0.mk (blk_kept (Bz BK410) hkp (fun hs_ => (fun e_ => (Kd.R_ne HO_10.out BK410.out (by decide)) e_) hs_)); replace HO_10 := Aside0.mk (Kd.R_reok rfl hy0 (fun k_ e_ => HO_10.out.1 k_ e_)); replace HB := Aside0.mk (hb); (try clear hb); (try clear hkp); (try clear hy0)) | ((with_reducible refine gate_callee (f := 19) rfl ?_); refine goesL_ (some 86) rfl rfl Try.func19 (by kernel_rfl) rfl #[.slice Ao75 t434.length co75, .int .i64 1] rfl (by (try simp only [List.map_toArray, List.map_cons, List.map_nil]); first | done | (rw [show t434.length = t414.length from (Kd.R_reads' HO_10.out).1.symm] <;> rfl) | rfl | (simp only [List.length_drop, List.length_take]; rfl)) ?_; (with_reducible refine (laws_heldIntS.calls kj69 _ _ t434 1 t435 _ ?side1 ?side2 A73.out).mono ?_); (case side1 => exact Cz ((Kd.R_reads' HO_10.out).2.2)); (case side2 => rw [show t434.length = t414.length from (Kd.R_reads' HO_10.out).1.symm]; exact (Kd.R_reads' HO_10.out).2.1); rintro e w' ⟨rfl, ⟨nd, rfl⟩⟩; refine ⟨_, rfl, ?_⟩))
                 (try simp only [Act.put, List.setIfInBounds_toArray, List.set_cons_zero, List.set_cons_succ])
                 go_cut [] (fun wc => ∃ (kq : Nat), Aside0 (laws_FnExactWinningScript.j8 kq l1 t402 t405 t434 t433 t435 a0_0 l0_1 = some r) ∧ Aside0 (kq ≤ kj69) ∧ Aside0 (Kd.R (Kd.int .i64) 3 wc w.heap.size (fun k_ => some k_ ≠ ((.slice Ao75 t414.length co75) : Value).ownBlock) v403 t402) ∧ Aside0 (Kd.R (Kd.int .i64) 3 wc w.heap.size (fun k_ => some k_ ≠ (v403 : Value).ownBlock) (.slice Ao75 t414.length co75) t434) ∧ Aside0 (Kd.R k67 67 wc w.heap.size (fun _ => True) (.slice Ao29 t429.length co29) t429) ∧ Aside0 (wc.heap[gb393]? = some (.cells #[.int .i64 a0_0, (.slice A0_1 l0_1.length c0_1)] 24 (0, 0))) ∧ Aside0 (wc.heap[gb410]? = some (.cells #[.int .i64 t406, (.slice Ao29 t429.length co29)] 31 (0, 0))) ∧ Aside0 (Below w.heap.size w wc))
                 case first =>
                  have H := HC74.out
                  clear HC74
                  by_cases c77 : t435 < 0
                  ·rw [if_pos c77] at H
                   have c77b0 : decide (t435 < 0) = true := decide_eq_true c77
                   clear c77
                   (first | rw [c77b0] | (simp only [i64_w, i32_w]; rw [c77b0]) | skip)
                   obtain rfl := Option.some.inj H
                   go_wp2
                   go_ret
                   exact ⟨by first | rfl | (simp [errW_none, errW_some] <;> rfl) | (simp [*, errW_none, errW_some] <;> rfl), by exact Lz2 HB GE393 GE410⟩
                  rw [if_neg c77] at H
                  have c77b0 : decide (t435 < 0) = false := decide_eq_false c77
                  clear c77
                  (first | rw [c77b0] | (simp only [i64_w, i32_w]; rw [c77b0]) | skip)
                  have H' := Aside0.mk H
                  clear H
                  go_wp2
                  go_meet
                  case rel => exact ⟨_, H', ⟨by have := HJ2.out; have := HJ6.out; have := HJ16.out; have := HJ39.out; have := HJ43.out; have := HJ51.out; have := HJ57.out; have := HJ69.out; first | omega | exact Nat.le_refl _⟩, ⟨by (try simp only [hl411001_57]); exact Rz HO_6⟩, ⟨by (try simp only [hl411001_57]); exact Rz HO_10⟩, ⟨by (try simp only [hl411001_57]); exact Rz HO_411001⟩, ⟨by (try simp only [hl411001_57]); exact Bz BK393⟩, ⟨by (try simp only [hl411001_57]); exact Bz BK410⟩, ⟨by exact Lz2 HB GE393 GE410⟩⟩
                 case rest =>
                  clear HC74
                  try clear c1
                  try clear c5
                  try clear c5b0
                  try clear c5b1
                  try clear c10
                  try clear c10b0
                  try clear c35
                  try clear c41
                  try clear c49
                  try clear c55
                  try clear c63
                  try clear c63b0
                  try clear c65
                  try clear c71
                  try clear c77
                  try clear c77b0
                  obtain ⟨kq, HA, HJ73, HO_6, HO_10, HO_411001, BK393, BK410, HB⟩ := hcut
                  have hl10_73 := (Kd.R_reads' HO_10.out).1
                  rw [hl10_73] at HO_10
                  (try simp only [hl10_73])
                  (try simp only [hl10_73] at BK393)
                  (try simp only [hl10_73] at BK410)
                  (try simp only [hl10_73] at HO_6)
                  (try simp only [hl10_73] at HO_411001)
                  cases kq with
                  | zero => exact absurd HA.out (by simp [laws_FnExactWinningScript.j8])
                  | succ kj73 =>
                   have H := HA.out
                   clear HA
                   simp only [laws_FnExactWinningScript.j8] at H
                   have HC78 := Aside0.mk H
                   clear H
                   go_upto_if 91 with (fail)
                   go_cut [] (fun wc => ∃ (kq : Nat), Aside0 (laws_FnExactWinningScript.j9 kq l1 t402 t405 t434 t433 a0_0 l0_1 = some r) ∧ Aside0 (kq ≤ kj73) ∧ Aside0 (Kd.R (Kd.int .i64) 3 wc w.heap.size (fun k_ => some k_ ≠ ((.slice Ao75 t434.length co75) : Value).ownBlock) v403 t402) ∧ Aside0 (Kd.R (Kd.int .i64) 3 wc w.heap.size (fun k_ => some k_ ≠ (v403 : Value).ownBlock) (.slice Ao75 t434.length co75) t434) ∧ Aside0 (Kd.R k67 67 wc w.heap.size (fun _ => True) (.slice Ao29 t429.length co29) t429) ∧ Aside0 (wc.heap[gb393]? = some (.cells #[.int .i64 a0_0, (.slice A0_1 l0_1.length c0_1)] 24 (0, 0))) ∧ Aside0 (wc.heap[gb410]? = some (.cells #[.int .i64 t406, (.slice Ao29 t429.length co29)] 31 (0, 0))) ∧ Aside0 (Below w.heap.size w wc))
                   case first =>
                    have H := HC78.out
                    clear HC78
                    by_cases c79 : t435 = t433
                    ·rw [if_pos c79] at H
                     have c79b0 : (t435 == t433) = true := beq_iff_eq.mpr c79
                     have c79b1 : (t435 != t433) = false := bne_eq_false_iff_eq.mpr c79
                     clear c79
                     (first | rw [c79b0] | (simp only [i64_w, i32_w]; rw [c79b0]) | skip)
                     have H' := Aside0.mk H
                     clear H
                     go_wp2
                     go_meet
                     case rel => exact ⟨_, H', ⟨by have := HJ2.out; have := HJ6.out; have := HJ16.out; have := HJ39.out; have := HJ43.out; have := HJ51.out; have := HJ57.out; have := HJ69.out; have := HJ73.out; first | omega | exact Nat.le_refl _⟩, ⟨by (try simp only [hl411001_57]); (try simp only [hl10_73]); exact Rz HO_6⟩, ⟨by (try simp only [hl411001_57]); (try simp only [hl10_73]); exact Rz HO_10⟩, ⟨by (try simp only [hl411001_57]); (try simp only [hl10_73]); exact Rz HO_411001⟩, ⟨by (try simp only [hl411001_57]); (try simp only [hl10_73]); exact Bz BK393⟩, ⟨by (try simp only [hl411001_57]); (try simp only [hl10_73]); exact Bz BK410⟩, ⟨by exact Lz2 HB GE393 GE410⟩⟩
                    rw [if_neg c79] at H
                    have c79b0 : (t435 == t433) = false := beq_eq_false_iff_ne.mpr c79
                    have c79b1 : (t435 != t433) = true := bne_iff_ne.mpr c79
                    (first | rw [c79b0] | (simp only [i64_w, i32_w]; rw [c79b0]) | skip)
                    obtain rfl := Option.some.inj H
                    go_wp2
                    go_ret
                    exact ⟨by first | rfl | (simp [errW_none, errW_some] <;> rfl) | (simp [*, errW_none, errW_some] <;> rfl), by exact Lz2 HB GE393 GE410⟩
                   case rest =>
                    clear HC78
                    try clear c1
                    try clear c5
                    try clear c5b0
                    try clear c5b1
                    try clear c10
                    try clear c10b0
                    try clear c35
                    try clear c41
                    try clear c49
                    try clear c55
                    try clear c63
                    try clear c63b0
                    try clear c65
                    try clear c71
                    try clear c77
                    try clear c77b0
                    try clear c79
                    try clear c79b0
                    try clear c79b1
                    obtain ⟨kq, HA, HJ77, HO_6, HO_10, HO_411001, BK393, BK410, HB⟩ := hcut
                    cases kq with
                    | zero => exact absurd HA.out (by simp [laws_FnExactWinningScript.j9])
                    | succ kj77 =>
                     have H := HA.out
                     clear HA
                     simp only [laws_FnExactWinningScript.j9] at H
                     replace H := Option.bind_eq_some_iff.mp H
                     obtain ⟨⟨t436, t437⟩, A800, H⟩ := H
                     replace H : ((laws_toIntS.f kj77 l1).bind fun t440 => ((impl_WinningScript.f kj77 t436 t437 t440).bind fun bt443 => ((laws_eqIntS.f kj77 bt443.1 t402).bind fun t447 => (if t447 = true then (laws_FnExactWinningScript.j10 kj77 t434 t433 (bt443.2 != t405)) else (laws_FnExactWinningScript.j10 kj77 t434 t433 true))))) = some r := H
                     have A80 := Aside0.mk A800
                     clear A800
                     replace H := Option.bind_eq_some_iff.mp H
                     obtain ⟨t440, A810, H⟩ := H
                     replace H : ((impl_WinningScript.f kj77 t436 t437 t440).bind fun bt443 => ((laws_eqIntS.f kj77 bt443.1 t402).bind fun t447 => (if t447 = true then (laws_FnExactWinningScript.j10 kj77 t434 t433 (bt443.2 != t405)) else (laws_FnExactWinningScript.j10 kj77 t434 t433 true)))) = some r := H
                     have A81 := Aside0.mk A810
                     clear A810
                     replace H := Option.bind_eq_some_iff.mp H
                     obtain ⟨⟨t443, t446⟩, A820, H⟩ := H
                     replace H : ((laws_eqIntS.f kj77 t443 t402).bind fun t447 => (if t447 = true then (laws_FnExactWinningScript.j10 kj77 t434 t433 (t446 != t405)) else (laws_FnExactWinningScript.j10 kj77 t434 t433 true))) = some r := H
                     have A82 := Aside0.mk A820
                     clear A820
                     have HC83 := Aside0.mk H
                     clear H
                     have hnb84 := NB393_410.out
                     have hnc84 := NB410_393.out
                     have hcz85_0 : wc.cell? ⟨gb393, 0, none⟩ = some (.int .i64 a0_0) := (blk_cell BK393.out 0).trans rfl
                     have hcz85_1 : wc.cell? ⟨gb393, 1, none⟩ = some (.slice A0_1 l0_1.length c0_1) := (blk_cell BK393.out 1).trans rfl
                     have hfz85_0 := blk_frozen BK393.out 0
                     have hfz85_1 := blk_frozen BK393.out 1
                     go_upto_region 31 with (first | ((with_reducible refine gate_callee (f := 12) rfl ?_); refine goesM_ (some 94) rfl rfl Try.func12 (by kernel_rfl) rfl #[.agg #[.int .i64 a0_0, .slice A0_1 l0_1.length c0_1]] rfl ?_; (with_reducible refine (laws_toGraph.calls kj77 a0_0 _ _ l0_1 t436 t437 _ ?side1 ?side2 A80.out).mono ?_); (case side1 => exact Cz ((Kd.C_below HR0_1.out HB.out))); (case side2 => exact HC0_1.out); rintro e w86 ⟨v438, rfl, ho0, hb⟩; refine ⟨_, rfl, ?_⟩; replace HO_6 := Aside0.mk (Kd.R_below (Rz HO_6) hb); replace HO_10 := Aside0.mk (Kd.R_below (Rz HO_10) hb); have HO439 := Aside0.mk (Kd.R_lower (Kd.R_new' ho0 (Kd.R_lt (Rz HO_411001))) (below_size (by exact Lz2 HB GE393 GE410))); replace HO_411001 := Aside0.mk (Kd.R_elder' (Rz HO_411001) (Kd.R_base ho0) hb); replace BK393 := Aside0.mk (blk_below (g := gb393) (o := .cells #[.int .i64 a0_0, .slice A0_1 l0_1.length c0_1] 24 (0, 0)) (Bz BK393) hb); replace BK410 := Aside0.mk (blk_below (g := gb410) (o := .cells #[.int .i64 t406, .slice Ao29 t429.length co29] 31 (0, 0)) (Bz BK410) hb); replace HB := Aside0.mk (below_step (by exact Lz2 HB GE393 GE410) hb); (try clear hb); (try clear ho0)) | ((with_reducible refine gate_callee (f := 13) rfl ?_); refine goesM_ (some 96) rfl rfl Try.func13 (by kernel_rfl) rfl #[.slice A1 l1.length c1] rfl ?_; (with_reducible refine (laws_toIntS.calls kj77 _ _ l1 t440 _ ?side1 ?side2 A81.out).mono ?_); (case side1 => exact Cz ((Kd.C_below HR1.out HB.out))); (case side2 => exact HC1.out); rintro e w87 ⟨v441, rfl, ho0, hb⟩; refine ⟨_, rfl, ?_⟩; replace HO_411001 := Aside0.mk (Kd.R_below (Rz HO_411001) hb); replace HO439 := Aside0.mk (Kd.R_below (Rz HO439) hb); have HO442 := Aside0.mk (Kd.R_lower (Kd.R_new' (Kd.R_new' ho0 (Kd.R_lt (Rz HO_6))) (Kd.R_lt (Rz HO_10))) (below_size (by exact Lz2 HB GE393 GE410))); replace HO_6 := Aside0.mk (Kd.R_elder' (Rz HO_6) (Kd.R_base ho0) hb); replace HO_10 := Aside0.mk (Kd.R_elder' (Rz HO_10) (Kd.R_base ho0) hb); replace BK393 := Aside0.mk (blk_below (g := gb393) (o := .cells #[.int .i64 a0_0, .slice A0_1 l0_1.length c0_1] 24 (0, 0)) (Bz BK393) hb); replace BK410 := Aside0.mk (blk_below (g := gb410) (o := .cells #[.int .i64 t406, .slice Ao29 t429.length co29] 31 (0, 0)) (Bz BK410) hb); replace HB := Aside0.mk (below_step (by exact Lz2 HB GE393 GE410) hb); (try clear hb); (try clear ho0); obtain ⟨Ao88, co88, eo88⟩ := Kd.R_slice HO439.out; subst eo88; obtain ⟨Ao89, co89, eo89⟩ := Kd.R_slice HO442.out; subst eo89) | ((with_reducible refine gate_callee (f := 14) rfl ?_); refine goesM_ (some 97) rfl rfl Try.func14 (by kernel_rfl) rfl #[.agg #[.int .i64 t436, .slice Ao88 t437.length co88], .slice Ao89 t440.length co89] rfl ?_; (with_reducible refine (impl_WinningScript.calls kj77 t436 _ _ t437 _ _ t440 t443 t446 _ ?side1 ?side2 ?side3 ?side4 A82.out).mono ?_); (case side1 => exact Cz ((Kd.R_reads' HO439.out).2.2)); (case side2 => exact (Kd.R_reads' HO439.out).2.1); (case side3 => exact Cz ((Kd.R_reads' HO442.out).2.2)); (case side4 => exact (Kd.R_reads' HO442.out).2.1); rintro e w90 ⟨v444, rfl, ho0, hb⟩; refine ⟨_, rfl, ?_⟩; replace HO_411001 := Aside0.mk (Kd.R_below (Rz HO_411001) hb); replace HO439 := Aside0.mk (Kd.R_below (Rz HO439) hb); have HO445 := Aside0.mk (Kd.R_lower (Kd.R_new' (Kd.R_new' (Kd.R_new' ho0 (Kd.R_lt (Rz HO_6))) (Kd.R_lt (Rz HO_10))) (Kd.R_lt (Rz HO442))) (below_size (by exact Lz2 HB GE393 GE410))); replace HO_6 := Aside0.mk (Kd.R_elder' (Rz HO_6) (Kd.R_base ho0) hb); replace HO_10 := Aside0.mk (Kd.R_elder' (Rz HO_10) (Kd.R_base ho0) hb); replace HO442 := Aside0.mk (Kd.R_elder' (Rz HO442) (Kd.R_base ho0) hb); replace BK393 := Aside0.mk (blk_below (g := gb393) (o := .cells #[.int .i64 a0_0, .slice A0_1 l0_1.length c0_1] 24 (0, 0)) (Bz BK393) hb); replace BK410 := Aside0.mk (blk_below (g := gb410) (o := .cells #[.int .i64 t406, .slice Ao29 t429.length co29] 31 (0, 0)) (Bz BK410) hb); replace HB := Aside0.mk (below_step (by exact Lz2 HB GE393 GE410) hb); (try clear hb); (try clear ho0)))
                     (try simp only [Act.put, List.setIfInBounds_toArray, List.set_cons_zero, List.set_cons_succ])
                     go_cut [108] (fun v108 wc => ∃ (kq : Nat) (x108_82 : Bool), v108 = .bool x108_82 ∧ Aside0 (laws_FnExactWinningScript.j10 kq t434 t433 x108_82 = some r) ∧ Aside0 (kq ≤ kj77) ∧ Aside0 (Kd.R (Kd.int .i64) 3 wc w.heap.size (fun _ => True) (.slice Ao75 t434.length co75) t434) ∧ Aside0 (Kd.R k67 67 wc w.heap.size (fun _ => True) (.slice Ao29 t429.length co29) t429) ∧ Aside0 (wc.heap[gb393]? = some (.cells #[.int .i64 a0_0, (.slice A0_1 l0_1.length c0_1)] 24 (0, 0))) ∧ Aside0 (wc.heap[gb410]? = some (.cells #[.int .i64 t406, (.slice Ao29 t429.length co29)] 31 (0, 0))) ∧ Aside0 (Below w.heap.size w wc))
                     case first =>
                      have H := HC83.out
                      clear HC83
                      replace H := Option.bind_eq_some_iff.mp H
                      obtain ⟨t447, A910, H⟩ := H
                      replace H : (if t447 = true then (laws_FnExactWinningScript.j10 kj77 t434 t433 (t446 != t405)) else (laws_FnExactWinningScript.j10 kj77 t434 t433 true)) = some r := H
                      have A91 := Aside0.mk A910
                      clear A910
                      by_cases c92 : t447 = true
                      ·subst c92
                       have H1 : (laws_FnExactWinningScript.j10 kj77 t434 t433 (t446 != t405)) = some r := by rw [if_pos rfl] at H; exact H
                       clear H
                       have H := H1
                       clear H1
                       have H' := Aside0.mk H
                       clear H
                       obtain ⟨Ao93, co93, eo93⟩ := Kd.R_slice HO445.out
                       subst eo93
                       obtain ⟨Ao94, co94, eo94⟩ := Kd.R_slice HO_6.out
                       subst eo94
                       go_wp2_with (first | ((with_reducible refine gate_callee (f := 15) rfl ?_); refine goesM_ (some 102) rfl rfl Try.func15 (by kernel_rfl) rfl #[.slice Ao93 t443.length co93, .slice Ao94 t402.length co94] rfl ?_; (with_reducible refine (laws_eqIntS.calls kj77 _ _ t443 _ _ t402 true _ ?side1 ?side2 ?side3 ?side4 A91.out).mono ?_); (case side1 => exact Cz ((Kd.R_reads' HO445.out).2.2)); (case side2 => exact (Kd.R_reads' HO445.out).2.1); (case side3 => exact Cz ((Kd.R_reads' HO_6.out).2.2)); (case side4 => exact (Kd.R_reads' HO_6.out).2.1); rintro e w' ⟨rfl, ⟨nd, rfl⟩⟩; refine ⟨_, rfl, ?_⟩))
                       go_meet
                       case rel => exact ⟨_, ((t446 != t405)), (by first | rfl | (simp; done) | (simp [*]; done)), H', ⟨by have := HJ2.out; have := HJ6.out; have := HJ16.out; have := HJ39.out; have := HJ43.out; have := HJ51.out; have := HJ57.out; have := HJ69.out; have := HJ73.out; have := HJ77.out; first | omega | exact Nat.le_refl _⟩, ⟨by (try simp only [hl411001_57]); (try simp only [hl10_73]); (with_reducible repeat (first | apply Kd.R_alloc | apply Kd.R_drewN | apply Kd.R_drew)); exact Kd.R_mono HO_10.out (fun _ hk => trivial)⟩, ⟨by (try simp only [hl411001_57]); (try simp only [hl10_73]); (with_reducible repeat (first | apply Kd.R_alloc | apply Kd.R_drewN | apply Kd.R_drew)); exact Kd.R_mono HO_411001.out (fun _ hk => trivial)⟩, ⟨by (try simp only [hl411001_57]); (try simp only [hl10_73]); exact Bz BK393⟩, ⟨by (try simp only [hl411001_57]); (try simp only [hl10_73]); exact Bz BK410⟩, ⟨by exact Lz2 HB GE393 GE410⟩⟩
                      replace c92 := Bool.eq_false_iff.mpr c92
                      subst c92
                      have H1 : (laws_FnExactWinningScript.j10 kj77 t434 t433 true) = some r := by rw [if_neg (show ¬ (false = true) by decide)] at H; exact H
                      clear H
                      have H := H1
                      clear H1
                      have H' := Aside0.mk H
                      clear H
                      obtain ⟨Ao95, co95, eo95⟩ := Kd.R_slice HO445.out
                      subst eo95
                      obtain ⟨Ao96, co96, eo96⟩ := Kd.R_slice HO_6.out
                      subst eo96
                      go_wp2_with (first | ((with_reducible refine gate_callee (f := 15) rfl ?_); refine goesM_ (some 102) rfl rfl Try.func15 (by kernel_rfl) rfl #[.slice Ao95 t443.length co95, .slice Ao96 t402.length co96] rfl ?_; (with_reducible refine (laws_eqIntS.calls kj77 _ _ t443 _ _ t402 false _ ?side1 ?side2 ?side3 ?side4 A91.out).mono ?_); (case side1 => exact Cz ((Kd.R_reads' HO445.out).2.2)); (case side2 => exact (Kd.R_reads' HO445.out).2.1); (case side3 => exact Cz ((Kd.R_reads' HO_6.out).2.2)); (case side4 => exact (Kd.R_reads' HO_6.out).2.1); rintro e w' ⟨rfl, ⟨nd, rfl⟩⟩; refine ⟨_, rfl, ?_⟩))
                      go_meet
                      case rel => exact ⟨_, (true), (by first | rfl | (simp; done) | (simp [*]; done)), H', ⟨by have := HJ2.out; have := HJ6.out; have := HJ16.out; have := HJ39.out; have := HJ43.out; have := HJ51.out; have := HJ57.out; have := HJ69.out; have := HJ73.out; have := HJ77.out; first | omega | exact Nat.le_refl _⟩, ⟨by (try simp only [hl411001_57]); (try simp only [hl10_73]); (with_reducible repeat (first | apply Kd.R_alloc | apply Kd.R_drewN | apply Kd.R_drew)); exact Kd.R_mono HO_10.out (fun _ hk => trivial)⟩, ⟨by (try simp only [hl411001_57]); (try simp only [hl10_73]); (with_reducible repeat (first | apply Kd.R_alloc | apply Kd.R_drewN | apply Kd.R_drew)); exact Kd.R_mono HO_411001.out (fun _ hk => trivial)⟩, ⟨by (try simp only [hl411001_57]); (try simp only [hl10_73]); exact Bz BK393⟩, ⟨by (try simp only [hl411001_57]); (try simp only [hl10_73]); exact Bz BK410⟩, ⟨by exact Lz2 HB GE393 GE410⟩⟩
                     case rest =>
                      clear HC83
                      try clear c1
                      try clear c5
                      try clear c5b0
                      try clear c5b1
                      try clear c10
                      try clear c10b0
                      try clear c35
                      try clear c41
                      try clear c49
                      try clear c55
                      try clear c63
                      try clear c63b0
                      try clear c65
                      try clear c71
                      try clear c77
                      try clear c77b0
                      try clear c79
                      try clear c79b0
                      try clear c79b1
                      try clear c92
                      obtain ⟨kq, x108_82, rfl, HA, HJ82, HO_10, HO_411001, BK393, BK410, HB⟩ := hcut
                      cases kq with
                      | zero => exact absurd HA.out (by simp [laws_FnExactWinningScript.j10])
                      | succ kj82 =>
                       have H := HA.out
                       clear HA
                       simp only [laws_FnExactWinningScript.j10] at H
                       have HC97 := Aside0.mk H
                       clear H
                       go_upto_if 108 with (fail)
                       go_cut [] (fun wc => ∃ (kq : Nat), Aside0 (laws_FnExactWinningScript.j11 kq t434 t433 = some r) ∧ Aside0 (kq ≤ kj82) ∧ Aside0 (Kd.R (Kd.int .i64) 3 wc w.heap.size (fun _ => True) (.slice Ao75 t434.length co75) t434) ∧ Aside0 (Kd.R k67 67 wc w.heap.size (fun _ => True) (.slice Ao29 t429.length co29) t429) ∧ Aside0 (wc.heap[gb393]? = some (.cells #[.int .i64 a0_0, (.slice A0_1 l0_1.length c0_1)] 24 (0, 0))) ∧ Aside0 (wc.heap[gb410]? = some (.cells #[.int .i64 t406, (.slice Ao29 t429.length co29)] 31 (0, 0))) ∧ Aside0 (Below w.heap.size w wc))
                       case first =>
                        have H := HC97.out
                        clear HC97
                        by_cases c98 : x108_82 = true
                        ·subst c98
                         have H1 : (some false) = some r := by rw [if_pos rfl] at H; exact H
                         clear H
                         have H := H1
                         clear H1
                         obtain rfl := Option.some.inj H
                         go_wp2
                         go_ret
                         exact ⟨by first | rfl | (simp [errW_none, errW_some] <;> rfl) | (simp [*, errW_none, errW_some] <;> rfl), by exact Lz2 HB GE393 GE410⟩
                        replace c98 := Bool.eq_false_iff.mpr c98
                        subst c98
                        have H1 : (laws_FnExactWinningScript.j11 kj82 t434 t433) = some r := by rw [if_neg (show ¬ (false = true) by decide)] at H; exact H
                        clear H
                        have H := H1
                        clear H1
                        have H' := Aside0.mk H
                        clear H
                        go_wp2
                        go_meet
                        case rel => exact ⟨_, H', ⟨by have := HJ2.out; have := HJ6.out; have := HJ16.out; have := HJ39.out; have := HJ43.out; have := HJ51.out; have := HJ57.out; have := HJ69.out; have := HJ73.out; have := HJ77.out; have := HJ82.out; first | omega | exact Nat.le_refl _⟩, ⟨by (try simp only [hl411001_57]); (try simp only [hl10_73]); exact Rz HO_10⟩, ⟨by (try simp only [hl411001_57]); (try simp only [hl10_73]); exact Rz HO_411001⟩, ⟨by (try simp only [hl411001_57]); (try simp only [hl10_73]); exact Bz BK393⟩, ⟨by (try simp only [hl411001_57]); (try simp only [hl10_73]); exact Bz BK410⟩, ⟨by exact Lz2 HB GE393 GE410⟩⟩
                       case rest =>
                        clear HC97
                        try clear c1
                        try clear c5
                        try clear c5b0
                        try clear c5b1
                        try clear c10
                        try clear c10b0
                        try clear c35
                        try clear c41
                        try clear c49
                        try clear c55
                        try clear c63
                        try clear c63b0
                        try clear c65
                        try clear c71
                        try clear c77
                        try clear c77b0
                        try clear c79
                        try clear c79b0
                        try clear c79b1
                        try clear c92
                        try clear c98
                        obtain ⟨kq, HA, HJ96, HO_10, HO_411001, BK393, BK410, HB⟩ := hcut
                        cases kq with
                        | zero => exact absurd HA.out (by simp [laws_FnExactWinningScript.j11])
                        | succ kj96 =>
                         have H := HA.out
                         clear HA
                         simp only [laws_FnExactWinningScript.j11] at H
                         replace H := Option.bind_eq_some_iff.mp H
                         obtain ⟨t448, A990, H⟩ := H
                         replace H : (if t448 < 0 then (some false) else (laws_FnExactWinningScript.j12 kj96 t433 t448)) = some r := H
                         have A99 := Aside0.mk A990
                         clear A990
                         have HC100 := Aside0.mk H
                         clear H
                         go_upto_if 113 with (first | ((with_reducible refine gate_callee (f := 19) rfl ?_); refine goesM_ (some 111) rfl rfl Try.func19 (by kernel_rfl) rfl #[.slice Ao75 t434.length co75, .int .i64 1] rfl ?_; (with_reducible refine (laws_heldIntS.calls kj96 _ _ t434 1 t448 _ ?side1 ?side2 A99.out).mono ?_); (case side1 => exact Cz ((Kd.R_reads' HO_10.out).2.2)); (case side2 => exact (Kd.R_reads' HO_10.out).2.1); rintro e w' ⟨rfl, ⟨nd, rfl⟩⟩; refine ⟨_, rfl, ?_⟩))
                         (try simp only [Act.put, List.setIfInBounds_toArray, List.set_cons_zero, List.set_cons_succ])
                         go_cut [] (fun wc => ∃ (kq : Nat), Aside0 (laws_FnExactWinningScript.j12 kq t433 t448 = some r) ∧ Aside0 (kq ≤ kj96) ∧ Aside0 (Kd.R k67 67 wc w.heap.size (fun _ => True) (.slice Ao29 t429.length co29) t429) ∧ Aside0 (wc.heap[gb393]? = some (.cells #[.int .i64 a0_0, (.slice A0_1 l0_1.length c0_1)] 24 (0, 0))) ∧ Aside0 (wc.heap[gb410]? = some (.cells #[.int .i64 t406, (.slice Ao29 t429.length co29)] 31 (0, 0))) ∧ Aside0 (Below w.heap.size w wc))
                         case first =>
                          have H := HC100.out
                          clear HC100
                          by_cases c101 : t448 < 0
                          ·rw [if_pos c101] at H
                           have c101b0 : decide (t448 < 0) = true := decide_eq_true c101
                           clear c101
                           (first | rw [c101b0] | (simp only [i64_w, i32_w]; rw [c101b0]) | skip)
                           obtain rfl := Option.some.inj H
                           go_wp2
                           go_ret
                           exact ⟨by first | rfl | (simp [errW_none, errW_some] <;> rfl) | (simp [*, errW_none, errW_some] <;> rfl), by exact Lz2 HB GE393 GE410⟩
                          rw [if_neg c101] at H
                          have c101b0 : decide (t448 < 0) = false := decide_eq_false c101
                          clear c101
                          (first | rw [c101b0] | (simp only [i64_w, i32_w]; rw [c101b0]) | skip)
                          have H' := Aside0.mk H
                          clear H
                          go_wp2
                          go_meet
                          case rel => exact ⟨_, H', ⟨by have := HJ2.out; have := HJ6.out; have := HJ16.out; have := HJ39.out; have := HJ43.out; have := HJ51.out; have := HJ57.out; have := HJ69.out; have := HJ73.out; have := HJ77.out; have := HJ82.out; have := HJ96.out; first | omega | exact Nat.le_refl _⟩, ⟨by (try simp only [hl411001_57]); (try simp only [hl10_73]); exact Rz HO_411001⟩, ⟨by (try simp only [hl411001_57]); (try simp only [hl10_73]); exact Bz BK393⟩, ⟨by (try simp only [hl411001_57]); (try simp only [hl10_73]); exact Bz BK410⟩, ⟨by exact Lz2 HB GE393 GE410⟩⟩
                         case rest =>
                          clear HC100
                          try clear c1
                          try clear c5
                          try clear c5b0
                          try clear c5b1
                          try clear c10
                          try clear c10b0
                          try clear c35
                          try clear c41
                          try clear c49
                          try clear c55
                          try clear c63
                          try clear c63b0
                          try clear c65
                          try clear c71
                          try clear c77
                          try clear c77b0
                          try clear c79
                          try clear c79b0
                          try clear c79b1
                          try clear c92
                          try clear c98
                          try clear c101
                          try clear c101b0
                          obtain ⟨kq, HA, HJ99, HO_411001, BK393, BK410, HB⟩ := hcut
                          cases kq with
                          | zero => exact absurd HA.out (by simp [laws_FnExactWinningScript.j12])
                          | succ kj99 =>
                           have H := HA.out
                           clear HA
                           simp only [laws_FnExactWinningScript.j12] at H
                           by_cases c102 : t448 = t433
                           ·rw [if_pos c102] at H
                            have c102b0 : (t448 == t433) = true := beq_iff_eq.mpr c102
                            have c102b1 : (t448 != t433) = false := bne_eq_false_iff_eq.mpr c102
                            clear c102
                            obtain rfl := Option.some.inj H
                            go_wp2
                            go_ret
                            exact ⟨by first | rfl | (simp [errW_none, errW_some] <;> rfl) | (simp [*, errW_none, errW_some] <;> rfl), by exact Lz2 HB GE393 GE410⟩
                           rw [if_neg c102] at H
                           have c102b0 : (t448 == t433) = false := beq_eq_false_iff_ne.mpr c102
                           have c102b1 : (t448 != t433) = true := bne_iff_ne.mpr c102
                           obtain rfl := Option.some.inj H
                           go_wp2
                           go_ret
                           exact ⟨by first | rfl | (simp [errW_none, errW_some] <;> rfl) | (simp [*, errW_none, errW_some] <;> rfl), by exact Lz2 HB GE393 GE410⟩
end Go.Proofs.Ytbcfccdoffbncaa.P
end
section
namespace Go.Proofs.Ytbcfccdoffbncaa.Pure
open Go.RowKit Go.Proofs.Ytbcfccdoffbncaa.P Go.Proofs.YtbcfccdoffbncaaW.PrintWords Go.Proofs.YtbcfccdoffbncaaW.PrintLast Go.Proofs.YtbcfccdoffbncaaW.PrintMore
def StatFnExactWinningScript : Prop := ∀ (a0_0 : Int) (l0_1 : List (S96)) (l1 : List (Int)), ((Lit.int .i64 a0_0).wf = true ∧ (l0_1.length ≤ maxLen ∧ ∀ x4 ∈ l0_1, (Lit.int .i64 x4.f0).wf = true ∧ (Lit.int .i64 x4.f1).wf = true)) → (l1.length ≤ maxLen ∧ ∀ x2 ∈ l1, (Lit.int .i64 x2).wf = true) → ∃ k, laws_FnExactWinningScript.f k a0_0 l0_1 l1 = some true
end Go.Proofs.Ytbcfccdoffbncaa.Pure
end
section
set_option linter.unusedVariables false
set_option linter.unusedSimpArgs false
namespace Go.Proofs.Ytbcfccdoffbncaa.Pure
open Go.RowKit Go.Proofs.Ytbcfccdoffbncaa.P Go.Proofs.YtbcfccdoffbncaaW.PrintWords Go.Proofs.YtbcfccdoffbncaaW.PrintLast Go.Proofs.YtbcfccdoffbncaaW.PrintMore Go.Proofs.Ytbcfccdoffbncaa.Base Go.Proofs.Ytbcfccdoffbncaa.Loops Go.Proofs.Ytbcfccdoffbncaa.Reduce
theorem impl_sumOf_ev (l : List Int) (hl : l.length ≤ 1000) (hb : ∀ u : Nat, -60 ≤ l.getD u 0 ∧ l.getD u 0 ≤ 60) : Ev (fun k => impl_sumOf.f k l) (sumN (fun u => l.getD u 0) l.length) := by
  have main : ∀ (d i : Nat), i + d = l.length → Ev (fun k => impl_sumOf.l0 k (sumN (fun u => l.getD u 0) i) l (l.length : Int) (i : Int)) (sumN (fun u => l.getD u 0) l.length) := by
    intro d
    induction d with
    | zero =>
      intro i hi
      obtain rfl : i = l.length := by omega
      refine ev_succ ?_
      simp only [impl_sumOf.l0]
      exact ev_ifn (by omega) (Ev.now _)
    | succ d ih =>
      intro i hi
      have h1 := ih (i + 1) (by omega)
      have h2 := part_sum l hb (i + 1)
      have e : wrap64 (sumN (fun u => l.getD u 0) i + rd l (i : Int)) = sumN (fun u => l.getD u 0) (i + 1) := by
        simp only [sumN] at h2 ⊢
        unfold rd
        rw [Int.toNat_natCast]
        exact wrap_id (by omega) (by omega)
      refine ev_succ ?_
      simp only [impl_sumOf.l0, wrap_succ (show i < 4611686018427387904 by omega), e]
      exact ev_ift (by omega) (ev_ift (by omega) (ev_ift (by omega) h1))
  exact main l.length 0 (by omega)
end Go.Proofs.Ytbcfccdoffbncaa.Pure
end
section
set_option linter.unusedVariables false
set_option linter.unusedSimpArgs false
namespace Go.Proofs.Ytbcfccdoffbncaa.Pure
open Go.RowKit Go.Proofs.Ytbcfccdoffbncaa.P Go.Proofs.YtbcfccdoffbncaaW.PrintWords Go.Proofs.YtbcfccdoffbncaaW.PrintLast Go.Proofs.YtbcfccdoffbncaaW.PrintMore Go.Proofs.Ytbcfccdoffbncaa.Base Go.Proofs.Ytbcfccdoffbncaa.Reduce Go.Proofs.Ytbcfccdoffbncaa.Loops Go.Proofs.Ytbcfccdoffbncaa.Bits
theorem isWinnable_both (n : Int) (es : List S67) (d : List Int) (hl : es.length < 4611686018427387904) (hd : d.length < 4611686018427387904) :
    ∃ b : Bool, Ev (fun k => impl_IsWinnable.f k n es d) b ∧ Ev (fun k => spec_IsWinnable.f k n es d) b ∧ (b = true → ∃ m : Nat, n = m ∧ Start m es d 0) := by
  obtain ⟨b, h1, _, h3, h4⟩ := redOk0 n es d hl hd
  simp only [impl_IsWinnable.f, impl_winnable.f, spec_IsWinnable.f, spec_ChipsAt.f, spec_ReducedOf.f]
  cases b with
  | false => exact ⟨false, Ev.bind h1 (ev_iff (Ev.now _)), Ev.bind (Ev.bind (Ev.bind h3 (ev_iff (Ev.now _))) (ev_iff (Ev.now _))) (ev_iff (Ev.now _)), fun h => by cases h⟩
  | true =>
    obtain ⟨_, m, rfl, S⟩ := h4 rfl
    obtain ⟨s, s1, s2, s3, s4, s5, s6, s7, s8⟩ := reduce_both S
    have f := edgesB_facts S.g.1
    obtain ⟨z1, z2, z3⟩ := red_zero S s4
    have hs := impl_sumOf_ev d (by have := S.len; omega) S.b
    have hq := S.q
    have e0 : rd (XD es d s) 0 = XF m es d s 0 := s5 0 S.q
    rw [S.len] at hs
    refine ⟨decide (rd (XD es d s) 0 ≥ 0), ?_, Ev.bind (Ev.bind (Ev.bind h3 (ev_ift rfl (Ev.bind s8 (Ev.now _)))) (ev_ift rfl (ev_ift (by omega) (ev_ift (by dsimp only; omega) (Ev.now _))))) (ev_ift rfl (Ev.now _)), fun _ => ⟨m, rfl, S⟩⟩
    refine Ev.bind h1 (ev_ift rfl ?_)
    refine Ev.bind (r := decide (rd (XD es d s) 0 ≥ 0)) (Ev.bind hs ?_) (Ev.now _)
    by_cases c : sumN (fun u => d.getD u 0) m < 0
    · rw [decide_eq_false (by omega)]
      exact ev_ift c (Ev.now _)
    · exact ev_ifn c (Ev.bind s7 (ev_ift (by dsimp only; omega) (Ev.now _)))
end Go.Proofs.Ytbcfccdoffbncaa.Pure
end
section
set_option linter.unusedVariables false
set_option linter.unusedSimpArgs false
namespace Go.Proofs.Ytbcfccdoffbncaa.Pure
open Go.RowKit Go.Proofs.Ytbcfccdoffbncaa.P Go.Proofs.YtbcfccdoffbncaaW.PrintWords Go.Proofs.YtbcfccdoffbncaaW.PrintLast Go.Proofs.YtbcfccdoffbncaaW.PrintMore Go.Proofs.Ytbcfccdoffbncaa.Base Go.Proofs.Ytbcfccdoffbncaa.Loops Go.Proofs.Ytbcfccdoffbncaa.Reduce Go.Proofs.Ytbcfccdoffbncaa.Bits
theorem winningScript_both (n : Int) (es : List S67) (d : List Int) (hl : es.length < 4611686018427387904) (hd : d.length < 4611686018427387904) :
    ∃ (r : List Int) (q : Bool), Ev (fun k => impl_WinningScript.f k n es d) (r, q) ∧ Ev (fun k => spec_WinningScript.f k n es d) (r, q) ∧ r.length ≤ 6 ∧ True := by
  obtain ⟨b, h1, h2, h3⟩ := isWinnable_both n es d hl hd
  simp only [impl_WinningScript.f, spec_WinningScript.f]
  cases b with
  | false => exact ⟨[], false, Ev.bind h1 (ev_iff (Ev.now _)), Ev.bind h2 (ev_iff (Ev.now _)), by simp, trivial⟩
  | true =>
    obtain ⟨m, rfl, S⟩ := h3 rfl
    obtain ⟨s, s1, s2, s3, s4, s5, s6, s7, s8⟩ := reduce_both S
    have f := edgesB_facts S.g.1
    have hq := S.q
    refine ⟨liftL s, true, Ev.bind h1 (ev_ift rfl ?_), Ev.bind h2 (ev_ift rfl ?_), by rw [liftL_len]; omega, trivial⟩
    · refine Ev.bind s7 ?_
      exact Ev.bind (fromZero_ev s (by omega) (by omega)) (Ev.now _)
    · refine Ev.bind s8 ?_
      exact Ev.bind (specLift_ev s (by omega) (by omega)) (Ev.now _)
end Go.Proofs.Ytbcfccdoffbncaa.Pure
end
section
set_option linter.unusedVariables false
set_option linter.unusedSimpArgs false
namespace Go.Proofs.Ytbcfccdoffbncaa.Pure
open Go.RowKit Go.Proofs.Ytbcfccdoffbncaa.P Go.Proofs.YtbcfccdoffbncaaW.PrintWords Go.Proofs.YtbcfccdoffbncaaW.PrintLast Go.Proofs.YtbcfccdoffbncaaW.PrintMore Go.Proofs.Ytbcfccdoffbncaa.Base Go.Proofs.Ytbcfccdoffbncaa.Loops Go.Proofs.Ytbcfccdoffbncaa.Reduce Go.Proofs.Ytbcfccdoffbncaa.Bits
theorem FnExactWinningScript : StatFnExactWinningScript := by
  intro n l d1 ⟨_, hl, _⟩ ⟨_, _⟩
  refine Ev.rounds (r := true) ?_
  unfold laws_FnExactWinningScript.f
  by_cases hd1 : (d1.length : Int) > 1048576
  · repeat (first
      | exact Ev.now _
      | dsimp only
      | with_reducible refine ev_ift (by first | rfl | omega) ?_
      | with_reducible refine ev_ifn (by omega) ?_
      | with_reducible refine ev_ifb ?_
      | with_reducible refine ev_ifnn ?_
      | with_reducible refine ev_iff ?_
      | (refine ev_succ ?_; simp only [if_true, laws_FnExactWinningScript.j0, laws_FnExactWinningScript.j1, laws_FnExactWinningScript.j2, laws_FnExactWinningScript.j3, laws_FnExactWinningScript.j4, laws_FnExactWinningScript.j5, laws_FnExactWinningScript.j6, laws_FnExactWinningScript.j7, laws_FnExactWinningScript.j8, laws_FnExactWinningScript.j9, laws_FnExactWinningScript.j10, laws_FnExactWinningScript.j11, laws_FnExactWinningScript.j12])
      )
  have hs := szGraph_eq n l hl 1048576 (by omega) (by omega)
  by_cases h : (l.length : Int) ≤ 1048576
  · have es : Ev (fun _ : Nat => laws_szGraph.f n l 1048576) (1048576 - (l.length : Int)) := ev_const fun _ => by rw [hs, if_pos h]
    have tg := toGraph_ev n l (by omega)
    have hm := map_cv_length l
    have hL : (l.map cvE).length < 4611686018427387904 := by omega
    have hLd1 : d1.length < 4611686018427387904 := by omega
    have td1 := toIntS_ev d1 (by omega)
    have ed1 := eqIntS_ev d1 hLd1
    obtain ⟨r, q, g1, g2, hr, _⟩ := winningScript_both n (l.map cvE) d1 hL hLd1
    have eg := eqGraph_ev n (l.map cvE) hL
    have er := eqIntS_ev r (by omega)
    obtain ⟨y, my⟩ := markGraph_ev n (l.map cvE) (by omega)
    have md1 := markIntS_ev (2 * ((l.map cvE).length : Int) + 1) (by omega) d1 (by omega)
    have mr := markIntS_ev 1 (by omega) r (by omega)
    have he := heldIntS_ev r.length (by omega)
    repeat (first
      | exact Ev.now _
      | dsimp only
      | (with_reducible refine Ev.bind es ?_) | (with_reducible refine Ev.bind tg ?_) | (with_reducible refine Ev.bind td1 ?_) | (with_reducible refine Ev.bind ed1 ?_) | (with_reducible refine Ev.bind g1 ?_) | (with_reducible refine Ev.bind g2 ?_) | (with_reducible refine Ev.bind eg ?_) | (with_reducible refine Ev.bind er ?_) | (with_reducible refine Ev.bind my ?_) | (with_reducible refine Ev.bind md1 ?_) | (with_reducible refine Ev.bind mr ?_) | (with_reducible refine Ev.bind he ?_)
      | with_reducible refine ev_ift (by first | rfl | omega) ?_
      | with_reducible refine ev_ifn (by omega) ?_
      | with_reducible refine ev_ifb ?_
      | with_reducible refine ev_ifnn ?_
      | with_reducible refine ev_iff ?_
      | (refine ev_succ ?_; simp only [if_true, laws_FnExactWinningScript.j0, laws_FnExactWinningScript.j1, laws_FnExactWinningScript.j2, laws_FnExactWinningScript.j3, laws_FnExactWinningScript.j4, laws_FnExactWinningScript.j5, laws_FnExactWinningScript.j6, laws_FnExactWinningScript.j7, laws_FnExactWinningScript.j8, laws_FnExactWinningScript.j9, laws_FnExactWinningScript.j10, laws_FnExactWinningScript.j11, laws_FnExactWinningScript.j12])
      )
  · have es : Ev (fun _ : Nat => laws_szGraph.f n l 1048576) (-1) := ev_const fun _ => by rw [hs, if_neg h]
    repeat (first
      | exact Ev.now _
      | dsimp only
      | (with_reducible refine Ev.bind es ?_)
      | with_reducible refine ev_ift (by first | rfl | omega) ?_
      | with_reducible refine ev_ifn (by omega) ?_
      | with_reducible refine ev_ifb ?_
      | with_reducible refine ev_ifnn ?_
      | with_reducible refine ev_iff ?_
      | (refine ev_succ ?_; simp only [if_true, laws_FnExactWinningScript.j0, laws_FnExactWinningScript.j1, laws_FnExactWinningScript.j2, laws_FnExactWinningScript.j3, laws_FnExactWinningScript.j4, laws_FnExactWinningScript.j5, laws_FnExactWinningScript.j6, laws_FnExactWinningScript.j7, laws_FnExactWinningScript.j8, laws_FnExactWinningScript.j9, laws_FnExactWinningScript.j10, laws_FnExactWinningScript.j11, laws_FnExactWinningScript.j12])
      )
end Go.Proofs.Ytbcfccdoffbncaa.Pure
end
