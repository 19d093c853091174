/- Functions of the program as plain Lean functions and that the machine's calls answer as they do, the words of the print that these use, lemmas and plain proofs of laws. Put together by a program of this work that leaves out what nothing uses; Lean checks it. -/
import Derived.Test.YtnebapnfkolflaaGba58acd38e
import Derived.Test.YtnebapnfkolflaaGe1d48e96ce
import Derived.Test.YtnebapnfkolflaaG469c236d45
import Derived.Test.YtnebapnfkolflaaG0e5aa1090e
import Derived.Test.YtnebapnfkolflaaG366d3eeaa8
import Derived.Test.YtnebapnfkolflaaG32d6827594
import Derived.Test.YtnebapnfkolflaaG39afe4bd0c
section
namespace Go.Proofs.Ytnebapnfkolflaa.P
open Go.RowKit Go.Proofs.YtnebapnfkolflaaW.PrintWords Go.Proofs.YtnebapnfkolflaaW.PrintLast Go.Proofs.YtnebapnfkolflaaW.PrintMore
attribute [local go_sem] max2_int min2_int max_two min_two max_three min_three max_four min_four
set_option linter.unusedVariables false
set_option linter.unusedSimpArgs false
def spec_ReducingScript.f (k : Nat) (a0_0 : Int) (l0_1 : List (S70)) (l1 : List Int) (a2 : Int) : Option (List Int × Bool) := (spec_l05Ok.f k a0_0 l0_1 l1 a2).bind fun t576 => (if t576 = true then ((spec_l05Reduce.f k a0_0 l0_1 l1 a2).bind fun bt577 => (some (bt577.2, true))) else (some (([] : List Int), false)))
set_option maxHeartbeats 8000000 in
set_option maxRecDepth 100000 in
theorem spec_ReducingScript.calls (k : Nat) (a0_0 : Int) (A0_1 : Option Addr) (c0_1 : Nat) (l0_1 : List (S70)) (A1 : Option Addr) (c1 : Nat) (l1 : List Int) (a2 : Int) (r1 : List Int) (r2 : Bool) (w : World) (hr0_1 : Kd.C k70 w A0_1 l0_1.length l0_1) (hc0_1 : l0_1.length ≤ c0_1) (hr1 : Kd.C (Kd.int .i64) w A1 l1.length l1) (hc1 : l1.length ≤ c1) (h : spec_ReducingScript.f k a0_0 l0_1 l1 a2 = some (r1, r2)) :
  Calls Try.prog 43 #[.agg #[.int .i64 a0_0, .slice A0_1 l0_1.length c0_1], .slice A1 l1.length c1, .int .i64 a2] w fun e w' => ∃ v0_ : Value, e = .returned (.tuple #[v0_, .bool r2]) ∧ Kd.R (Kd.int .i64) 3 w' w.heap.size (fun _ => True) v0_ r1 ∧ Below w.heap.size w w' := by
 have hu25 := Try.underlying25
 have HR0_1 := Aside0.mk hr0_1
 have HC0_1 := Aside0.mk hc0_1
 clear hr0_1 hc0_1
 have HR1 := Aside0.mk hr1
 have HC1 := Aside0.mk hc1
 clear hr1 hc1
 have HB := Aside0.mk (Below.refl w.heap.size w)
 have H : ((spec_l05Ok.f k a0_0 l0_1 l1 a2).bind fun t576 => (if t576 = true then ((spec_l05Reduce.f k a0_0 l0_1 l1 a2).bind fun bt577 => (some (bt577.2, true))) else (some (([] : List Int), false)))) = some (r1, r2) := h
 clear h
 replace H := Option.bind_eq_some_iff.mp H
 obtain ⟨t576, A40, H⟩ := H
 replace H : (if t576 = true then ((spec_l05Reduce.f k a0_0 l0_1 l1 a2).bind fun bt577 => (some (bt577.2, true))) else (some (([] : List Int), false))) = some (r1, r2) := H
 have A4 := Aside0.mk A40
 clear A40
 by_cases c5 : t576 = true
 ·subst c5
  have H1 : ((spec_l05Reduce.f k a0_0 l0_1 l1 a2).bind fun bt577 => (some (bt577.2, true))) = some (r1, r2) := by rw [if_pos rfl] at H; exact H
  clear H
  have H := H1
  clear H1
  replace H := Option.bind_eq_some_iff.mp H
  obtain ⟨⟨t577, t580⟩, A60, H⟩ := H
  replace H : (some (t580, true)) = some (r1, r2) := H
  have A6 := Aside0.mk A60
  clear A60
  simp only [Option.some.injEq, Prod.mk.injEq] at H
  obtain ⟨rfl, rfl⟩ := H
  go_enter Try.func43, Try.ntmps43
  go_wp2_with (first | ((with_reducible refine gate_dst (N := 3) rfl ?_); refine box_event ?hg (N := 3) ?hd (cs := #[.int .i64 a0_0, .slice A0_1 l0_1.length c0_1]) (t := 25) ?hr ?_; (case hd => rfl); (case hg => rfl); (case hr => first | (go_simp; done) | (go_simp; rfl)); intro gb575 hg w7 hbox hb; have BK575 := Aside0.mk (hbox); have GW575 := Aside0.mk ((by rw [hg]; exact (below_size (Lz HB)) : w.heap.size ≤ gb575)); have GE575 := Aside0.mk ((by rw [hg]; exact (below_size (Lz HB)) : w.heap.size ≤ gb575)); replace HB := Aside0.mk (below_step (Lz HB) hb); clear hb hbox hg; have hcz8_0 : w7.cell? ⟨gb575, 0, none⟩ = some (.int .i64 a0_0) := (blk_cell BK575.out 0).trans rfl; have hcz8_1 : w7.cell? ⟨gb575, 1, none⟩ = some (.slice A0_1 l0_1.length c0_1) := (blk_cell BK575.out 1).trans rfl; have hfz8_0 := blk_frozen BK575.out 0; have hfz8_1 := blk_frozen BK575.out 1) | ((with_reducible refine gate_callee (f := 66) rfl ?_); refine goesM_ (some 13) rfl rfl Try.func66 (by kernel_rfl) rfl #[.agg #[.int .i64 a0_0, .slice A0_1 l0_1.length c0_1], .slice A1 l1.length c1, .int .i64 a2] rfl ?_; (with_reducible refine (spec_l05Ok.calls k a0_0 _ _ l0_1 _ _ l1 a2 true _ ?side1 ?side2 ?side3 ?side4 A4.out).mono ?_); (case side1 => exact Cz ((Kd.C_below HR0_1.out HB.out))); (case side2 => exact HC0_1.out); (case side3 => exact Cz ((Kd.C_below HR1.out HB.out))); (case side4 => exact HC1.out); rintro e w9 ⟨rfl, hb⟩; refine ⟨_, rfl, ?_⟩; replace BK575 := Aside0.mk (blk_below (g := gb575) (o := .cells #[.int .i64 a0_0, .slice A0_1 l0_1.length c0_1] 25 (0, 0)) (Bz BK575) hb); replace HB := Aside0.mk (below_step (by exact Lz1 HB GE575) hb); (try clear hb); (try clear hb2); (try clear hk); (try clear hi); have hcz10_0 : w9.cell? ⟨gb575, 0, none⟩ = some (.int .i64 a0_0) := (blk_cell BK575.out 0).trans rfl; have hcz10_1 : w9.cell? ⟨gb575, 1, none⟩ = some (.slice A0_1 l0_1.length c0_1) := (blk_cell BK575.out 1).trans rfl; have hfz10_0 := blk_frozen BK575.out 0; have hfz10_1 := blk_frozen BK575.out 1) | ((with_reducible refine gate_callee (f := 80) rfl ?_); refine goesM_ (some 19) rfl rfl Try.func80 (by kernel_rfl) rfl #[.agg #[.int .i64 a0_0, .slice A0_1 l0_1.length c0_1], .slice A1 l1.length c1, .int .i64 a2] rfl ?_; (with_reducible refine (spec_l05Reduce.calls k a0_0 _ _ l0_1 _ _ l1 a2 t577 t580 _ ?side1 ?side2 ?side3 ?side4 A6.out).mono ?_); (case side1 => exact Cz ((Kd.C_below HR0_1.out HB.out))); (case side2 => exact HC0_1.out); (case side3 => exact Cz ((Kd.C_below HR1.out HB.out))); (case side4 => exact HC1.out); rintro e w11 ⟨v578, v581, rfl, ho0, ho1, hb⟩; refine ⟨_, rfl, ?_⟩; have HO579 := Aside0.mk (Kd.R_lower ho0 (below_size (by exact Lz1 HB GE575))); have HO582 := Aside0.mk (Kd.R_lower ho1 (below_size (by exact Lz1 HB GE575))); replace BK575 := Aside0.mk (blk_below (g := gb575) (o := .cells #[.int .i64 a0_0, .slice A0_1 l0_1.length c0_1] 25 (0, 0)) (Bz BK575) hb); replace HB := Aside0.mk (below_step (by exact Lz1 HB GE575) hb); (try clear hb); (try clear ho0); (try clear ho1)))
  go_ret2
  exact ⟨_, by first | rfl | (simp [errW_none, errW_some] <;> rfl) | (simp [*, errW_none, errW_some] <;> rfl), by (with_reducible repeat (first | apply Kd.R_alloc | apply Kd.R_drewN | apply Kd.R_drew)); exact Kd.R_mono HO582.out (fun _ hk => trivial), by exact Lz1 HB GE575⟩
 replace c5 := Bool.eq_false_iff.mpr c5
 subst c5
 have H1 : (some (([] : List Int), false)) = some (r1, r2) := by rw [if_neg (show ¬ (false = true) by decide)] at H; exact H
 clear H
 have H := H1
 clear H1
 simp only [Option.some.injEq, Prod.mk.injEq] at H
 obtain ⟨rfl, rfl⟩ := H
 go_enter Try.func43, Try.ntmps43
 go_wp2_with (first | ((with_reducible refine gate_dst (N := 3) rfl ?_); refine box_event ?hg (N := 3) ?hd (cs := #[.int .i64 a0_0, .slice A0_1 l0_1.length c0_1]) (t := 25) ?hr ?_; (case hd => rfl); (case hg => rfl); (case hr => first | (go_simp; done) | (go_simp; rfl)); intro gb575 hg w12 hbox hb; have BK575 := Aside0.mk (hbox); have GW575 := Aside0.mk ((by rw [hg]; exact (below_size (Lz HB)) : w.heap.size ≤ gb575)); have GE575 := Aside0.mk ((by rw [hg]; exact (below_size (Lz HB)) : w.heap.size ≤ gb575)); replace HB := Aside0.mk (below_step (Lz HB) hb); clear hb hbox hg; have hcz13_0 : w12.cell? ⟨gb575, 0, none⟩ = some (.int .i64 a0_0) := (blk_cell BK575.out 0).trans rfl; have hcz13_1 : w12.cell? ⟨gb575, 1, none⟩ = some (.slice A0_1 l0_1.length c0_1) := (blk_cell BK575.out 1).trans rfl; have hfz13_0 := blk_frozen BK575.out 0; have hfz13_1 := blk_frozen BK575.out 1) | ((with_reducible refine gate_callee (f := 66) rfl ?_); refine goesM_ (some 13) rfl rfl Try.func66 (by kernel_rfl) rfl #[.agg #[.int .i64 a0_0, .slice A0_1 l0_1.length c0_1], .slice A1 l1.length c1, .int .i64 a2] rfl ?_; (with_reducible refine (spec_l05Ok.calls k a0_0 _ _ l0_1 _ _ l1 a2 false _ ?side1 ?side2 ?side3 ?side4 A4.out).mono ?_); (case side1 => exact Cz ((Kd.C_below HR0_1.out HB.out))); (case side2 => exact HC0_1.out); (case side3 => exact Cz ((Kd.C_below HR1.out HB.out))); (case side4 => exact HC1.out); rintro e w14 ⟨rfl, hb⟩; refine ⟨_, rfl, ?_⟩; replace BK575 := Aside0.mk (blk_below (g := gb575) (o := .cells #[.int .i64 a0_0, .slice A0_1 l0_1.length c0_1] 25 (0, 0)) (Bz BK575) hb); replace HB := Aside0.mk (below_step (by exact Lz1 HB GE575) hb); (try clear hb); (try clear hb2); (try clear hk); (try clear hi)))
 go_ret2
 exact ⟨_, by first | rfl | (simp [errW_none, errW_some] <;> rfl) | (simp [*, errW_none, errW_some] <;> rfl), by first | exact Kd.R_nil _ _ _ _ _ | exact Kd.N_nil _ _ _ _ _ | exact Kd.V_nil _ _ _ _ _ | exact Kd.Q_nil _ _ _ _ _ | exact Kd.S_nil _ _ _ _ _, by exact Lz1 HB GE575⟩
end Go.Proofs.Ytnebapnfkolflaa.P
end
section
namespace Go.Proofs.Ytnebapnfkolflaa.P
open Go.RowKit Go.Proofs.YtnebapnfkolflaaW.PrintWords Go.Proofs.YtnebapnfkolflaaW.PrintLast Go.Proofs.YtnebapnfkolflaaW.PrintMore
attribute [local go_sem] max2_int min2_int max_two min_two max_three min_three max_four min_four
set_option linter.unusedVariables false
set_option linter.unusedSimpArgs false
def impl_ReducingScript.f (k : Nat) (a0_0 : Int) (l0_1 : List (S70)) (l1 : List Int) (a2 : Int) : Option (List Int × Bool) := (impl_DivisorOk.f k a0_0 l0_1 l1).bind fun t584 => (if t584 = true then ((impl_isVertex.f k a0_0 l0_1 a2).bind fun t585 => (if t585 = true then ((impl_reduce.f k a0_0 l0_1 l1 a2).bind fun bt586 => (some (bt586.2, true))) else (some (([] : List Int), false)))) else (some (([] : List Int), false)))
set_option maxHeartbeats 8000000 in
set_option maxRecDepth 100000 in
theorem impl_ReducingScript.calls (k : Nat) (a0_0 : Int) (A0_1 : Option Addr) (c0_1 : Nat) (l0_1 : List (S70)) (A1 : Option Addr) (c1 : Nat) (l1 : List Int) (a2 : Int) (r1 : List Int) (r2 : Bool) (w : World) (hr0_1 : Kd.C k70 w A0_1 l0_1.length l0_1) (hc0_1 : l0_1.length ≤ c0_1) (hr1 : Kd.C (Kd.int .i64) w A1 l1.length l1) (hc1 : l1.length ≤ c1) (h : impl_ReducingScript.f k a0_0 l0_1 l1 a2 = some (r1, r2)) :
  Calls Try.prog 44 #[.agg #[.int .i64 a0_0, .slice A0_1 l0_1.length c0_1], .slice A1 l1.length c1, .int .i64 a2] w fun e w' => ∃ v0_ : Value, e = .returned (.tuple #[v0_, .bool r2]) ∧ Kd.R (Kd.int .i64) 3 w' w.heap.size (fun _ => True) v0_ r1 ∧ Below w.heap.size w w' := by
 have hu25 := Try.underlying25
 have HR0_1 := Aside0.mk hr0_1
 have HC0_1 := Aside0.mk hc0_1
 clear hr0_1 hc0_1
 have HR1 := Aside0.mk hr1
 have HC1 := Aside0.mk hc1
 clear hr1 hc1
 have HB := Aside0.mk (Below.refl w.heap.size w)
 have H : ((impl_DivisorOk.f k a0_0 l0_1 l1).bind fun t584 => (if t584 = true then ((impl_isVertex.f k a0_0 l0_1 a2).bind fun t585 => (if t585 = true then ((impl_reduce.f k a0_0 l0_1 l1 a2).bind fun bt586 => (some (bt586.2, true))) else (some (([] : List Int), false)))) else (some (([] : List Int), false)))) = some (r1, r2) := h
 clear h
 replace H := Option.bind_eq_some_iff.mp H
 obtain ⟨t584, A40, H⟩ := H
 replace H : (if t584 = true then ((impl_isVertex.f k a0_0 l0_1 a2).bind fun t585 => (if t585 = true then ((impl_reduce.f k a0_0 l0_1 l1 a2).bind fun bt586 => (some (bt586.2, true))) else (some (([] : List Int), false)))) else (some (([] : List Int), false))) = some (r1, r2) := H
 have A4 := Aside0.mk A40
 clear A40
 by_cases c5 : t584 = true
 ·subst c5
  have H1 : ((impl_isVertex.f k a0_0 l0_1 a2).bind fun t585 => (if t585 = true then ((impl_reduce.f k a0_0 l0_1 l1 a2).bind fun bt586 => (some (bt586.2, true))) else (some (([] : List Int), false)))) = some (r1, r2) := by rw [if_pos rfl] at H; exact H
  clear H
  have H := H1
  clear H1
  replace H := Option.bind_eq_some_iff.mp H
  obtain ⟨t585, A60, H⟩ := H
  replace H : (if t585 = true then ((impl_reduce.f k a0_0 l0_1 l1 a2).bind fun bt586 => (some (bt586.2, true))) else (some (([] : List Int), false))) = some (r1, r2) := H
  have A6 := Aside0.mk A60
  clear A60
  by_cases c7 : t585 = true
  ·subst c7
   have H1 : ((impl_reduce.f k a0_0 l0_1 l1 a2).bind fun bt586 => (some (bt586.2, true))) = some (r1, r2) := by rw [if_pos rfl] at H; exact H
   clear H
   have H := H1
   clear H1
   replace H := Option.bind_eq_some_iff.mp H
   obtain ⟨⟨t586, t589⟩, A80, H⟩ := H
   replace H : (some (t589, true)) = some (r1, r2) := H
   have A8 := Aside0.mk A80
   clear A80
   simp only [Option.some.injEq, Prod.mk.injEq] at H
   obtain ⟨rfl, rfl⟩ := H
   go_enter Try.func44, Try.ntmps44
   go_wp2_with (first | ((with_reducible refine gate_dst (N := 3) rfl ?_); refine box_event ?hg (N := 3) ?hd (cs := #[.int .i64 a0_0, .slice A0_1 l0_1.length c0_1]) (t := 25) ?hr ?_; (case hd => rfl); (case hg => rfl); (case hr => first | (go_simp; done) | (go_simp; rfl)); intro gb583 hg w9 hbox hb; have BK583 := Aside0.mk (hbox); have GW583 := Aside0.mk ((by rw [hg]; exact (below_size (Lz HB)) : w.heap.size ≤ gb583)); have GE583 := Aside0.mk ((by rw [hg]; exact (below_size (Lz HB)) : w.heap.size ≤ gb583)); replace HB := Aside0.mk (below_step (Lz HB) hb); clear hb hbox hg; have hcz10_0 : w9.cell? ⟨gb583, 0, none⟩ = some (.int .i64 a0_0) := (blk_cell BK583.out 0).trans rfl; have hcz10_1 : w9.cell? ⟨gb583, 1, none⟩ = some (.slice A0_1 l0_1.length c0_1) := (blk_cell BK583.out 1).trans rfl; have hfz10_0 := blk_frozen BK583.out 0; have hfz10_1 := blk_frozen BK583.out 1) | ((with_reducible refine gate_callee (f := 85) rfl ?_); refine goesM_ (some 12) rfl rfl Try.func85 (by kernel_rfl) rfl #[.agg #[.int .i64 a0_0, .slice A0_1 l0_1.length c0_1], .slice A1 l1.length c1] rfl ?_; (with_reducible refine (impl_DivisorOk.calls k a0_0 _ _ l0_1 _ _ l1 true _ ?side1 ?side2 ?side3 ?side4 A4.out).mono ?_); (case side1 => exact Cz ((Kd.C_below HR0_1.out HB.out))); (case side2 => exact HC0_1.out); (case side3 => exact Cz ((Kd.C_below HR1.out HB.out))); (case side4 => exact HC1.out); rintro e w11 ⟨rfl, hb⟩; refine ⟨_, rfl, ?_⟩; replace BK583 := Aside0.mk (blk_below (g := gb583) (o := .cells #[.int .i64 a0_0, .slice A0_1 l0_1.length c0_1] 25 (0, 0)) (Bz BK583) hb); replace HB := Aside0.mk (below_step (by exact Lz1 HB GE583) hb); (try clear hb); (try clear hb2); (try clear hk); (try clear hi); have hcz12_0 : w11.cell? ⟨gb583, 0, none⟩ = some (.int .i64 a0_0) := (blk_cell BK583.out 0).trans rfl; have hcz12_1 : w11.cell? ⟨gb583, 1, none⟩ = some (.slice A0_1 l0_1.length c0_1) := (blk_cell BK583.out 1).trans rfl; have hfz12_0 := blk_frozen BK583.out 0; have hfz12_1 := blk_frozen BK583.out 1) | (go_at_call 81; (with_reducible refine (impl_isVertex.calls k a0_0 _ _ l0_1 a2 true _ ?side1 ?side2 A6.out).mono ?_); (case side1 => exact Cz ((Kd.C_below HR0_1.out HB.out))); (case side2 => exact HC0_1.out); rintro e w13 ⟨rfl, hb⟩; replace BK583 := Aside0.mk (blk_below (g := gb583) (o := .cells #[.int .i64 a0_0, .slice A0_1 l0_1.length c0_1] 25 (0, 0)) (Bz BK583) hb); replace HB := Aside0.mk (below_step (by exact Lz1 HB GE583) hb); (try clear hb); (try clear hb2); (try clear hk); (try clear hi); have hcz14_0 : w13.cell? ⟨gb583, 0, none⟩ = some (.int .i64 a0_0) := (blk_cell BK583.out 0).trans rfl; have hcz14_1 : w13.cell? ⟨gb583, 1, none⟩ = some (.slice A0_1 l0_1.length c0_1) := (blk_cell BK583.out 1).trans rfl; have hfz14_0 := blk_frozen BK583.out 0; have hfz14_1 := blk_frozen BK583.out 1) | ((with_reducible refine gate_callee (f := 82) rfl ?_); refine goesM_ (some 24) rfl rfl Try.func82 (by kernel_rfl) rfl #[.agg #[.int .i64 a0_0, .slice A0_1 l0_1.length c0_1], .slice A1 l1.length c1, .int .i64 a2] rfl ?_; (with_reducible refine (impl_reduce.calls k a0_0 _ _ l0_1 _ _ l1 a2 t586 t589 _ ?side1 ?side2 ?side3 ?side4 A8.out).mono ?_); (case side1 => exact Cz ((Kd.C_below HR0_1.out HB.out))); (case side2 => exact HC0_1.out); (case side3 => exact Cz ((Kd.C_below HR1.out HB.out))); (case side4 => exact HC1.out); rintro e w15 ⟨v587, v590, rfl, ho0, ho1, hb⟩; refine ⟨_, rfl, ?_⟩; have HO588 := Aside0.mk (Kd.R_lower ho0 (below_size (by exact Lz1 HB GE583))); have HO591 := Aside0.mk (Kd.R_lower ho1 (below_size (by exact Lz1 HB GE583))); replace BK583 := Aside0.mk (blk_below (g := gb583) (o := .cells #[.int .i64 a0_0, .slice A0_1 l0_1.length c0_1] 25 (0, 0)) (Bz BK583) hb); replace HB := Aside0.mk (below_step (by exact Lz1 HB GE583) hb); (try clear hb); (try clear ho0); (try clear ho1)))
   go_ret2
   exact ⟨_, by first | rfl | (simp [errW_none, errW_some] <;> rfl) | (simp [*, errW_none, errW_some] <;> rfl), by (with_reducible repeat (first | apply Kd.R_alloc | apply Kd.R_drewN | apply Kd.R_drew)); exact Kd.R_mono HO591.out (fun _ hk => trivial), by exact Lz1 HB GE583⟩
  replace c7 := Bool.eq_false_iff.mpr c7
  subst c7
  have H1 : (some (([] : List Int), false)) = some (r1, r2) := by rw [if_neg (show ¬ (false = true) by decide)] at H; exact H
  clear H
  have H := H1
  clear H1
  simp only [Option.some.injEq, Prod.mk.injEq] at H
  obtain ⟨rfl, rfl⟩ := H
  go_enter Try.func44, Try.ntmps44
  go_wp2_with (first | ((with_reducible refine gate_dst (N := 3) rfl ?_); refine box_event ?hg (N := 3) ?hd (cs := #[.int .i64 a0_0, .slice A0_1 l0_1.length c0_1]) (t := 25) ?hr ?_; (case hd => rfl); (case hg => rfl); (case hr => first | (go_simp; done) | (go_simp; rfl)); intro gb583 hg w16 hbox hb; have BK583 := Aside0.mk (hbox); have GW583 := Aside0.mk ((by rw [hg]; exact (below_size (Lz HB)) : w.heap.size ≤ gb583)); have GE583 := Aside0.mk ((by rw [hg]; exact (below_size (Lz HB)) : w.heap.size ≤ gb583)); replace HB := Aside0.mk (below_step (Lz HB) hb); clear hb hbox hg; have hcz17_0 : w16.cell? ⟨gb583, 0, none⟩ = some (.int .i64 a0_0) := (blk_cell BK583.out 0).trans rfl; have hcz17_1 : w16.cell? ⟨gb583, 1, none⟩ = some (.slice A0_1 l0_1.length c0_1) := (blk_cell BK583.out 1).trans rfl; have hfz17_0 := blk_frozen BK583.out 0; have hfz17_1 := blk_frozen BK583.out 1) | ((with_reducible refine gate_callee (f := 85) rfl ?_); refine goesM_ (some 12) rfl rfl Try.func85 (by kernel_rfl) rfl #[.agg #[.int .i64 a0_0, .slice A0_1 l0_1.length c0_1], .slice A1 l1.length c1] rfl ?_; (with_reducible refine (impl_DivisorOk.calls k a0_0 _ _ l0_1 _ _ l1 true _ ?side1 ?side2 ?side3 ?side4 A4.out).mono ?_); (case side1 => exact Cz ((Kd.C_below HR0_1.out HB.out))); (case side2 => exact HC0_1.out); (case side3 => exact Cz ((Kd.C_below HR1.out HB.out))); (case side4 => exact HC1.out); rintro e w18 ⟨rfl, hb⟩; refine ⟨_, rfl, ?_⟩; replace BK583 := Aside0.mk (blk_below (g := gb583) (o := .cells #[.int .i64 a0_0, .slice A0_1 l0_1.length c0_1] 25 (0, 0)) (Bz BK583) hb); replace HB := Aside0.mk (below_step (by exact Lz1 HB GE583) hb); (try clear hb); (try clear hb2); (try clear hk); (try clear hi); have hcz19_0 : w18.cell? ⟨gb583, 0, none⟩ = some (.int .i64 a0_0) := (blk_cell BK583.out 0).trans rfl; have hcz19_1 : w18.cell? ⟨gb583, 1, none⟩ = some (.slice A0_1 l0_1.length c0_1) := (blk_cell BK583.out 1).trans rfl; have hfz19_0 := blk_frozen BK583.out 0; have hfz19_1 := blk_frozen BK583.out 1) | (go_at_call 81; (with_reducible refine (impl_isVertex.calls k a0_0 _ _ l0_1 a2 false _ ?side1 ?side2 A6.out).mono ?_); (case side1 => exact Cz ((Kd.C_below HR0_1.out HB.out))); (case side2 => exact HC0_1.out); rintro e w20 ⟨rfl, hb⟩; replace BK583 := Aside0.mk (blk_below (g := gb583) (o := .cells #[.int .i64 a0_0, .slice A0_1 l0_1.length c0_1] 25 (0, 0)) (Bz BK583) hb); replace HB := Aside0.mk (below_step (by exact Lz1 HB GE583) hb); (try clear hb); (try clear hb2); (try clear hk); (try clear hi)))
  go_ret2
  exact ⟨_, by first | rfl | (simp [errW_none, errW_some] <;> rfl) | (simp [*, errW_none, errW_some] <;> rfl), by first | exact Kd.R_nil _ _ _ _ _ | exact Kd.N_nil _ _ _ _ _ | exact Kd.V_nil _ _ _ _ _ | exact Kd.Q_nil _ _ _ _ _ | exact Kd.S_nil _ _ _ _ _, by exact Lz1 HB GE583⟩
 replace c5 := Bool.eq_false_iff.mpr c5
 subst c5
 have H1 : (some (([] : List Int), false)) = some (r1, r2) := by rw [if_neg (show ¬ (false = true) by decide)] at H; exact H
 clear H
 have H := H1
 clear H1
 simp only [Option.some.injEq, Prod.mk.injEq] at H
 obtain ⟨rfl, rfl⟩ := H
 go_enter Try.func44, Try.ntmps44
 go_wp2_with (first | ((with_reducible refine gate_dst (N := 3) rfl ?_); refine box_event ?hg (N := 3) ?hd (cs := #[.int .i64 a0_0, .slice A0_1 l0_1.length c0_1]) (t := 25) ?hr ?_; (case hd => rfl); (case hg => rfl); (case hr => first | (go_simp; done) | (go_simp; rfl)); intro gb583 hg w21 hbox hb; have BK583 := Aside0.mk (hbox); have GW583 := Aside0.mk ((by rw [hg]; exact (below_size (Lz HB)) : w.heap.size ≤ gb583)); have GE583 := Aside0.mk ((by rw [hg]; exact (below_size (Lz HB)) : w.heap.size ≤ gb583)); replace HB := Aside0.mk (below_step (Lz HB) hb); clear hb hbox hg; have hcz22_0 : w21.cell? ⟨gb583, 0, none⟩ = some (.int .i64 a0_0) := (blk_cell BK583.out 0).trans rfl; have hcz22_1 : w21.cell? ⟨gb583, 1, none⟩ = some (.slice A0_1 l0_1.length c0_1) := (blk_cell BK583.out 1).trans rfl; have hfz22_0 := blk_frozen BK583.out 0; have hfz22_1 := blk_frozen BK583.out 1) | ((with_reducible refine gate_callee (f := 85) rfl ?_); refine goesM_ (some 12) rfl rfl Try.func85 (by kernel_rfl) rfl #[.agg #[.int .i64 a0_0, .slice A0_1 l0_1.length c0_1], .slice A1 l1.length c1] rfl ?_; (with_reducible refine (impl_DivisorOk.calls k a0_0 _ _ l0_1 _ _ l1 false _ ?side1 ?side2 ?side3 ?side4 A4.out).mono ?_); (case side1 => exact Cz ((Kd.C_below HR0_1.out HB.out))); (case side2 => exact HC0_1.out); (case side3 => exact Cz ((Kd.C_below HR1.out HB.out))); (case side4 => exact HC1.out); rintro e w23 ⟨rfl, hb⟩; refine ⟨_, rfl, ?_⟩; replace BK583 := Aside0.mk (blk_below (g := gb583) (o := .cells #[.int .i64 a0_0, .slice A0_1 l0_1.length c0_1] 25 (0, 0)) (Bz BK583) hb); replace HB := Aside0.mk (below_step (by exact Lz1 HB GE583) hb); (try clear hb); (try clear hb2); (try clear hk); (try clear hi)))
 go_ret2
 exact ⟨_, by first | rfl | (simp [errW_none, errW_some] <;> rfl) | (simp [*, errW_none, errW_some] <;> rfl), by first | exact Kd.R_nil _ _ _ _ _ | exact Kd.N_nil _ _ _ _ _ | exact Kd.V_nil _ _ _ _ _ | exact Kd.Q_nil _ _ _ _ _ | exact Kd.S_nil _ _ _ _ _, by exact Lz1 HB GE583⟩
end Go.Proofs.Ytnebapnfkolflaa.P
end
section
namespace Go.Proofs.Ytnebapnfkolflaa.P
open Go.RowKit Go.Proofs.YtnebapnfkolflaaW.PrintWords Go.Proofs.YtnebapnfkolflaaW.PrintLast Go.Proofs.YtnebapnfkolflaaW.PrintMore
attribute [local go_sem] max2_int min2_int max_two min_two max_three min_three max_four min_four
set_option linter.unusedVariables false
set_option linter.unusedSimpArgs false
mutual
def laws_FnExactReducingScript.j0 : Nat → List Int → Int → Int → List (S95) → Option (Bool)
 | 0, _, _, _, _ => none
 | k + 1, x1, x2, x593000, x593001 => (laws_szGraph.f x593000 x593001 1048576).bind fun t593 => (if t593 < 0 then (some true) else (laws_FnExactReducingScript.j1 k x1 x2 x593000 x593001))
def laws_FnExactReducingScript.j1 : Nat → List Int → Int → Int → List (S95) → Option (Bool)
 | 0, _, _, _, _ => none
 | k + 1, x1, x2, x593000, x593001 => (laws_toGraph.f k x593000 x593001).bind fun bt594 => ((laws_toIntS.f k x1).bind fun t598 => ((spec_ReducingScript.f k bt594.1 bt594.2 t598 x2).bind fun bt601 => ((laws_toGraph.f k x593000 x593001).bind fun bt605 => ((laws_toIntS.f k x1).bind fun t610 => ((impl_ReducingScript.f k bt605.1 bt605.2 t610 x2).bind fun bt613 => ((laws_eqIntS.f k bt613.1 bt601.1).bind fun t617 => (if t617 = true then (laws_FnExactReducingScript.j2 k x1 x2 bt601.1 bt601.2 t610 bt613.1 bt613.2 (bt613.2 != bt601.2) x593000 x593001 bt605.1 bt605.2) else (laws_FnExactReducingScript.j2 k x1 x2 bt601.1 bt601.2 t610 bt613.1 bt613.2 true x593000 x593001 bt605.1 bt605.2))))))))
def laws_FnExactReducingScript.j2 : Nat → List Int → Int → List Int → Bool → List Int → List Int → Bool → Bool → Int → List (S95) → Int → List (S70) → Option (Bool)
 | 0, _, _, _, _, _, _, _, _, _, _, _, _ => none
 | k + 1, x1, x2, x8, x9, x11, x12, x13, x55, x593000, x593001, x610000, x610001 => if x55 = true then (some false) else (laws_FnExactReducingScript.j3 k x1 x2 x8 x9 x11 x12 x13 x593000 x593001 x610000 x610001)
def laws_FnExactReducingScript.j3 : Nat → List Int → Int → List Int → Bool → List Int → List Int → Bool → Int → List (S95) → Int → List (S70) → Option (Bool)
 | 0, _, _, _, _, _, _, _, _, _, _, _ => none
 | k + 1, x1, x2, x8, x9, x11, x12, x13, x593000, x593001, x610000, x610001 => (laws_toGraph.f k x593000 x593001).bind fun bt618 => ((laws_eqGraph.f k x610000 x610001 bt618.1 bt618.2).bind fun t622 => (if t622 = true then (laws_FnExactReducingScript.j4 k x1 x2 x8 x9 x11 x12 x13 x593000 x593001 x610000 x610001) else (some false)))
def laws_FnExactReducingScript.j4 : Nat → List Int → Int → List Int → Bool → List Int → List Int → Bool → Int → List (S95) → Int → List (S70) → Option (Bool)
 | 0, _, _, _, _, _, _, _, _, _, _, _ => none
 | k + 1, x1, x2, x8, x9, x11, x12, x13, x593000, x593001, x610000, x610001 => (laws_toIntS.f k x1).bind fun t623 => ((laws_eqIntS.f k x11 t623).bind fun t626 => (if t626 = true then (laws_FnExactReducingScript.j5 k x1 x2 x8 x9 x11 x12 x13 x593000 x593001 x610000 x610001) else (some false)))
def laws_FnExactReducingScript.j5 : Nat → List Int → Int → List Int → Bool → List Int → List Int → Bool → Int → List (S95) → Int → List (S70) → Option (Bool)
 | 0, _, _, _, _, _, _, _, _, _, _, _ => none
 | k + 1, x1, x2, x8, x9, x11, x12, x13, x593000, x593001, x610000, x610001 => (laws_markGraph.f k x610000 x610001 1).bind fun bt627 => ((laws_markIntS.f k x11 bt627.1).bind fun bt629 => (if bt629.1 < 0 then (laws_FnExactReducingScript.j6 k x1 x2 x8 x9 x12 true x593000 x593001) else ((laws_eqIntS.f k x12 x8).bind fun t631 => (if t631 = true then (laws_FnExactReducingScript.j6 k x1 x2 x8 x9 x12 (x13 != x9) x593000 x593001) else (laws_FnExactReducingScript.j6 k x1 x2 x8 x9 x12 true x593000 x593001)))))
def laws_FnExactReducingScript.j6 : Nat → List Int → Int → List Int → Bool → List Int → Bool → Int → List (S95) → Option (Bool)
 | 0, _, _, _, _, _, _, _, _ => none
 | k + 1, x1, x2, x8, x9, x12, x84, x593000, x593001 => if x84 = true then (some false) else (laws_FnExactReducingScript.j7 k x1 x2 x8 x9 x12 x593000 x593001)
def laws_FnExactReducingScript.j7 : Nat → List Int → Int → List Int → Bool → List Int → Int → List (S95) → Option (Bool)
 | 0, _, _, _, _, _, _, _ => none
 | k + 1, x1, x2, x8, x9, x12, x593000, x593001 => (laws_markIntS.f k x12 1).bind fun bt632 => ((laws_heldIntS.f k bt632.2 1).bind fun t634 => (if t634 < 0 then (some false) else (laws_FnExactReducingScript.j8 k x1 x2 x8 x9 bt632.2 bt632.1 t634 x593000 x593001)))
def laws_FnExactReducingScript.j8 : Nat → List Int → Int → List Int → Bool → List Int → Int → Int → Int → List (S95) → Option (Bool)
 | 0, _, _, _, _, _, _, _, _, _ => none
 | k + 1, x1, x2, x8, x9, x12, x15, x16, x593000, x593001 => if x16 = x15 then (laws_FnExactReducingScript.j9 k x1 x2 x8 x9 x12 x15 x593000 x593001) else (some false)
def laws_FnExactReducingScript.j9 : Nat → List Int → Int → List Int → Bool → List Int → Int → Int → List (S95) → Option (Bool)
 | 0, _, _, _, _, _, _, _, _ => none
 | k + 1, x1, x2, x8, x9, x12, x15, x593000, x593001 => (laws_toGraph.f k x593000 x593001).bind fun bt635 => ((laws_toIntS.f k x1).bind fun t639 => ((impl_ReducingScript.f k bt635.1 bt635.2 t639 x2).bind fun bt642 => ((laws_eqIntS.f k bt642.1 x8).bind fun t646 => (if t646 = true then (laws_FnExactReducingScript.j10 k x12 x15 (bt642.2 != x9)) else (laws_FnExactReducingScript.j10 k x12 x15 true)))))
def laws_FnExactReducingScript.j10 : Nat → List Int → Int → Bool → Option (Bool)
 | 0, _, _, _ => none
 | k + 1, x12, x15, x113 => if x113 = true then (some false) else (laws_FnExactReducingScript.j11 k x12 x15)
def laws_FnExactReducingScript.j11 : Nat → List Int → Int → Option (Bool)
 | 0, _, _ => none
 | k + 1, x12, x15 => (laws_heldIntS.f k x12 1).bind fun t647 => (if t647 < 0 then (some false) else (laws_FnExactReducingScript.j12 k x15 t647))
def laws_FnExactReducingScript.j12 : Nat → Int → Int → Option (Bool)
 | 0, _, _ => none
 | k + 1, x15, x16 => if x16 = x15 then (some true) else (some false)
end
def laws_FnExactReducingScript.f (k : Nat) (a0_0 : Int) (l0_1 : List (S95)) (l1 : List Int) (a2 : Int) : Option (Bool) := if (l1.length : Int) > 1048576 then (some true) else (laws_FnExactReducingScript.j0 k l1 a2 a0_0 l0_1)
set_option maxHeartbeats 8000000 in
set_option maxRecDepth 100000 in
theorem laws_FnExactReducingScript.calls (k : Nat) (a0_0 : Int) (A0_1 : Option Addr) (c0_1 : Nat) (l0_1 : List (S95)) (A1 : Option Addr) (c1 : Nat) (l1 : List Int) (a2 : Int) (r : Bool) (w : World) (hr0_1 : Kd.C k95 w A0_1 l0_1.length l0_1) (hc0_1 : l0_1.length ≤ c0_1) (hr1 : Kd.C (Kd.int .i64) w A1 l1.length l1) (hc1 : l1.length ≤ c1) (h : laws_FnExactReducingScript.f k a0_0 l0_1 l1 a2 = some r) :
  Calls Try.prog 11 #[.agg #[.int .i64 a0_0, .slice A0_1 l0_1.length c0_1], .slice A1 l1.length c1, .int .i64 a2] w fun e w' => e = .returned (.bool r) ∧ Below w.heap.size w w' := by
 have hu37 := Try.underlying37
 have hu25 := Try.underlying25
 have HR0_1 := Aside0.mk hr0_1
 have HC0_1 := Aside0.mk hc0_1
 clear hr0_1 hc0_1
 have HR1 := Aside0.mk hr1
 have HC1 := Aside0.mk hc1
 clear hr1 hc1
 have HB := Aside0.mk (Below.refl w.heap.size w)
 have H : (if (l1.length : Int) > 1048576 then (some true) else (laws_FnExactReducingScript.j0 k l1 a2 a0_0 l0_1)) = some r := h
 clear h
 have HC4 := Aside0.mk H
 clear H
 go_enter Try.func11, Try.ntmps11
 go_upto_if 21 with (first | ((with_reducible refine gate_dst (N := 3) rfl ?_); refine box_event ?hg (N := 3) ?hd (cs := #[.int .i64 a0_0, .slice A0_1 l0_1.length c0_1]) (t := 37) ?hr ?_; (case hd => rfl); (case hg => rfl); (case hr => first | (go_simp; done) | (go_simp; rfl)); intro gb592 hg w5 hbox hb; have BK592 := Aside0.mk (hbox); have GW592 := Aside0.mk ((by rw [hg]; exact (below_size (Lz HB)) : w.heap.size ≤ gb592)); have GE592 := Aside0.mk ((by rw [hg]; exact (below_size (Lz HB)) : w.heap.size ≤ gb592)); replace HB := Aside0.mk (below_step (Lz HB) hb); clear hb hbox hg))
 (try simp only [Act.put, List.setIfInBounds_toArray, List.set_cons_zero, List.set_cons_succ])
 go_cut [] (fun wc => ∃ (kq : Nat), Aside0 (laws_FnExactReducingScript.j0 kq l1 a2 a0_0 l0_1 = some r) ∧ Aside0 (kq ≤ k) ∧ Aside0 (wc.heap[gb592]? = some (.cells #[.int .i64 a0_0, (.slice A0_1 l0_1.length c0_1)] 37 (0, 0))) ∧ Aside0 (Below w.heap.size w wc))
 case first =>
  have H := HC4.out
  clear HC4
  by_cases c6 : (l1.length : Int) > 1048576
  ·rw [if_pos c6] at H
   have c6b0 : decide (1048576 < (l1.length : Int)) = true := decide_eq_true c6
   (try simp only [hl610001_58, hl12_74] at c6b0)
   have c6b1 : decide (1048576 < l1.length) = true := decide_eq_true (by omega)
   (try simp only [hl610001_58, hl12_74] at c6b1)
   clear c6
   (first | rw [c6b0] | (simp only [i64_w, i32_w]; rw [c6b0]) | skip)
   obtain rfl := Option.some.inj H
   go_wp2
   go_ret
   exact ⟨by first | rfl | (simp [errW_none, errW_some] <;> rfl) | (simp [*, errW_none, errW_some] <;> rfl), by exact Lz1 HB GE592⟩
  rw [if_neg c6] at H
  have c6b0 : decide (1048576 < (l1.length : Int)) = false := decide_eq_false c6
  (try simp only [hl610001_58, hl12_74] at c6b0)
  have c6b1 : decide (1048576 < l1.length) = false := decide_eq_false (by omega)
  (try simp only [hl610001_58, hl12_74] at c6b1)
  clear c6
  (first | rw [c6b0] | (simp only [i64_w, i32_w]; rw [c6b0]) | skip)
  have H' := Aside0.mk H
  clear H
  go_wp2
  go_meet
  case rel => exact ⟨_, H', ⟨by first | omega | exact Nat.le_refl _⟩, ⟨by exact Bz BK592⟩, ⟨by exact Lz1 HB GE592⟩⟩
 case rest =>
  clear HC4
  try clear c1
  try clear c6
  try clear c6b0
  try clear c6b1
  obtain ⟨kq, HA, HJ3, BK592, HB⟩ := hcut
  cases kq with
  | zero => exact absurd HA.out (by simp [laws_FnExactReducingScript.j0])
  | succ kj3 =>
   have H := HA.out
   clear HA
   simp only [laws_FnExactReducingScript.j0] at H
   replace H := Option.bind_eq_some_iff.mp H
   obtain ⟨t593, A70, H⟩ := H
   replace H : (if t593 < 0 then (some true) else (laws_FnExactReducingScript.j1 kj3 l1 a2 a0_0 l0_1)) = some r := H
   have A7 := Aside0.mk A70
   clear A70
   have HC8 := Aside0.mk H
   clear H
   have hcz9_0 : wc.cell? ⟨gb592, 0, none⟩ = some (.int .i64 a0_0) := (blk_cell BK592.out 0).trans rfl
   have hcz9_1 : wc.cell? ⟨gb592, 1, none⟩ = some (.slice A0_1 l0_1.length c0_1) := (blk_cell BK592.out 1).trans rfl
   have hfz9_0 := blk_frozen BK592.out 0
   have hfz9_1 := blk_frozen BK592.out 1
   go_upto_if 26 with (first | ((with_reducible refine gate_callee (f := 23) rfl ?_); refine goesM_ (some 24) rfl rfl Try.func23 (by kernel_rfl) rfl #[.agg #[.int .i64 a0_0, .slice A0_1 l0_1.length c0_1], .int .i64 1048576] rfl ?_; (with_reducible refine (laws_szGraph.calls a0_0 _ _ l0_1 1048576 t593 _ ?side1 ?side2 A7.out).mono ?_); (case side1 => exact Cz ((Kd.C_below HR0_1.out HB.out))); (case side2 => exact HC0_1.out); rintro e w10 ⟨rfl, hb⟩; refine ⟨_, rfl, ?_⟩; replace BK592 := Aside0.mk (blk_below (g := gb592) (o := .cells #[.int .i64 a0_0, .slice A0_1 l0_1.length c0_1] 37 (0, 0)) (Bz BK592) hb); replace HB := Aside0.mk (below_step (by exact Lz1 HB GE592) hb); (try clear hb); (try clear hb2); (try clear hk); (try clear hi)))
   (try simp only [Act.put, List.setIfInBounds_toArray, List.set_cons_zero, List.set_cons_succ])
   go_cut [] (fun wc => ∃ (kq : Nat), Aside0 (laws_FnExactReducingScript.j1 kq l1 a2 a0_0 l0_1 = some r) ∧ Aside0 (kq ≤ kj3) ∧ Aside0 (wc.heap[gb592]? = some (.cells #[.int .i64 a0_0, (.slice A0_1 l0_1.length c0_1)] 37 (0, 0))) ∧ Aside0 (Below w.heap.size w wc))
   case first =>
    have H := HC8.out
    clear HC8
    by_cases c11 : t593 < 0
    ·rw [if_pos c11] at H
     have c11b0 : decide (t593 < 0) = true := decide_eq_true c11
     clear c11
     (first | rw [c11b0] | (simp only [i64_w, i32_w]; rw [c11b0]) | skip)
     obtain rfl := Option.some.inj H
     go_wp2
     go_ret
     exact ⟨by first | rfl | (simp [errW_none, errW_some] <;> rfl) | (simp [*, errW_none, errW_some] <;> rfl), by exact Lz1 HB GE592⟩
    rw [if_neg c11] at H
    have c11b0 : decide (t593 < 0) = false := decide_eq_false c11
    clear c11
    (first | rw [c11b0] | (simp only [i64_w, i32_w]; rw [c11b0]) | skip)
    have H' := Aside0.mk H
    clear H
    go_wp2
    go_meet
    case rel => exact ⟨_, H', ⟨by have := HJ3.out; first | omega | exact Nat.le_refl _⟩, ⟨by exact Bz BK592⟩, ⟨by exact Lz1 HB GE592⟩⟩
   case rest =>
    clear HC8
    try clear c1
    try clear c6
    try clear c6b0
    try clear c6b1
    try clear c11
    try clear c11b0
    obtain ⟨kq, HA, HJ7, BK592, HB⟩ := hcut
    cases kq with
    | zero => exact absurd HA.out (by simp [laws_FnExactReducingScript.j1])
    | succ kj7 =>
     have H := HA.out
     clear HA
     simp only [laws_FnExactReducingScript.j1] at H
     replace H := Option.bind_eq_some_iff.mp H
     obtain ⟨⟨t594, t595⟩, A120, H⟩ := H
     replace H : ((laws_toIntS.f kj7 l1).bind fun t598 => ((spec_ReducingScript.f kj7 t594 t595 t598 a2).bind fun bt601 => ((laws_toGraph.f kj7 a0_0 l0_1).bind fun bt605 => ((laws_toIntS.f kj7 l1).bind fun t610 => ((impl_ReducingScript.f kj7 bt605.1 bt605.2 t610 a2).bind fun bt613 => ((laws_eqIntS.f kj7 bt613.1 bt601.1).bind fun t617 => (if t617 = true then (laws_FnExactReducingScript.j2 kj7 l1 a2 bt601.1 bt601.2 t610 bt613.1 bt613.2 (bt613.2 != bt601.2) a0_0 l0_1 bt605.1 bt605.2) else (laws_FnExactReducingScript.j2 kj7 l1 a2 bt601.1 bt601.2 t610 bt613.1 bt613.2 true a0_0 l0_1 bt605.1 bt605.2)))))))) = some r := H
     have A12 := Aside0.mk A120
     clear A120
     replace H := Option.bind_eq_some_iff.mp H
     obtain ⟨t598, A130, H⟩ := H
     replace H : ((spec_ReducingScript.f kj7 t594 t595 t598 a2).bind fun bt601 => ((laws_toGraph.f kj7 a0_0 l0_1).bind fun bt605 => ((laws_toIntS.f kj7 l1).bind fun t610 => ((impl_ReducingScript.f kj7 bt605.1 bt605.2 t610 a2).bind fun bt613 => ((laws_eqIntS.f kj7 bt613.1 bt601.1).bind fun t617 => (if t617 = true then (laws_FnExactReducingScript.j2 kj7 l1 a2 bt601.1 bt601.2 t610 bt613.1 bt613.2 (bt613.2 != bt601.2) a0_0 l0_1 bt605.1 bt605.2) else (laws_FnExactReducingScript.j2 kj7 l1 a2 bt601.1 bt601.2 t610 bt613.1 bt613.2 true a0_0 l0_1 bt605.1 bt605.2))))))) = some r := H
     have A13 := Aside0.mk A130
     clear A130
     replace H := Option.bind_eq_some_iff.mp H
     obtain ⟨⟨t601, t604⟩, A140, H⟩ := H
     replace H : ((laws_toGraph.f kj7 a0_0 l0_1).bind fun bt605 => ((laws_toIntS.f kj7 l1).bind fun t610 => ((impl_ReducingScript.f kj7 bt605.1 bt605.2 t610 a2).bind fun bt613 => ((laws_eqIntS.f kj7 bt613.1 t601).bind fun t617 => (if t617 = true then (laws_FnExactReducingScript.j2 kj7 l1 a2 t601 t604 t610 bt613.1 bt613.2 (bt613.2 != t604) a0_0 l0_1 bt605.1 bt605.2) else (laws_FnExactReducingScript.j2 kj7 l1 a2 t601 t604 t610 bt613.1 bt613.2 true a0_0 l0_1 bt605.1 bt605.2)))))) = some r := H
     have A14 := Aside0.mk A140
     clear A140
     replace H := Option.bind_eq_some_iff.mp H
     obtain ⟨⟨t605, t606⟩, A150, H⟩ := H
     replace H : ((laws_toIntS.f kj7 l1).bind fun t610 => ((impl_ReducingScript.f kj7 t605 t606 t610 a2).bind fun bt613 => ((laws_eqIntS.f kj7 bt613.1 t601).bind fun t617 => (if t617 = true then (laws_FnExactReducingScript.j2 kj7 l1 a2 t601 t604 t610 bt613.1 bt613.2 (bt613.2 != t604) a0_0 l0_1 t605 t606) else (laws_FnExactReducingScript.j2 kj7 l1 a2 t601 t604 t610 bt613.1 bt613.2 true a0_0 l0_1 t605 t606))))) = some r := H
     have A15 := Aside0.mk A150
     clear A150
     replace H := Option.bind_eq_some_iff.mp H
     obtain ⟨t610, A160, H⟩ := H
     replace H : ((impl_ReducingScript.f kj7 t605 t606 t610 a2).bind fun bt613 => ((laws_eqIntS.f kj7 bt613.1 t601).bind fun t617 => (if t617 = true then (laws_FnExactReducingScript.j2 kj7 l1 a2 t601 t604 t610 bt613.1 bt613.2 (bt613.2 != t604) a0_0 l0_1 t605 t606) else (laws_FnExactReducingScript.j2 kj7 l1 a2 t601 t604 t610 bt613.1 bt613.2 true a0_0 l0_1 t605 t606)))) = some r := H
     have A16 := Aside0.mk A160
     clear A160
     replace H := Option.bind_eq_some_iff.mp H
     obtain ⟨⟨t613, t616⟩, A170, H⟩ := H
     replace H : ((laws_eqIntS.f kj7 t613 t601).bind fun t617 => (if t617 = true then (laws_FnExactReducingScript.j2 kj7 l1 a2 t601 t604 t610 t613 t616 (t616 != t604) a0_0 l0_1 t605 t606) else (laws_FnExactReducingScript.j2 kj7 l1 a2 t601 t604 t610 t613 t616 true a0_0 l0_1 t605 t606))) = some r := H
     have A17 := Aside0.mk A170
     clear A170
     have HC18 := Aside0.mk H
     clear H
     have hcz19_0 : wc.cell? ⟨gb592, 0, none⟩ = some (.int .i64 a0_0) := (blk_cell BK592.out 0).trans rfl
     have hcz19_1 : wc.cell? ⟨gb592, 1, none⟩ = some (.slice A0_1 l0_1.length c0_1) := (blk_cell BK592.out 1).trans rfl
     have hfz19_0 := blk_frozen BK592.out 0
     have hfz19_1 := blk_frozen BK592.out 1
     go_upto_region 11 with (first | ((with_reducible refine gate_callee (f := 25) rfl ?_); refine goesM_ (some 29) rfl rfl Try.func25 (by kernel_rfl) rfl #[.agg #[.int .i64 a0_0, .slice A0_1 l0_1.length c0_1]] rfl ?_; (with_reducible refine (laws_toGraph.calls kj7 a0_0 _ _ l0_1 t594 t595 _ ?side1 ?side2 A12.out).mono ?_); (case side1 => exact Cz ((Kd.C_below HR0_1.out HB.out))); (case side2 => exact HC0_1.out); rintro e w20 ⟨v596, rfl, ho0, hb⟩; refine ⟨_, rfl, ?_⟩; have HO597 := Aside0.mk (Kd.R_lower ho0 (below_size (by exact Lz1 HB GE592))); replace BK592 := Aside0.mk (blk_below (g := gb592) (o := .cells #[.int .i64 a0_0, .slice A0_1 l0_1.length c0_1] 37 (0, 0)) (Bz BK592) hb); replace HB := Aside0.mk (below_step (by exact Lz1 HB GE592) hb); (try clear hb); (try clear ho0)) | ((with_reducible refine gate_callee (f := 26) rfl ?_); refine goesM_ (some 31) rfl rfl Try.func26 (by kernel_rfl) rfl #[.slice A1 l1.length c1] rfl ?_; (with_reducible refine (laws_toIntS.calls kj7 _ _ l1 t598 _ ?side1 ?side2 A13.out).mono ?_); (case side1 => exact Cz ((Kd.C_below HR1.out HB.out))); (case side2 => exact HC1.out); rintro e w21 ⟨v599, rfl, ho0, hb⟩; refine ⟨_, rfl, ?_⟩; replace HO597 := Aside0.mk (Kd.R_below (Rz HO597) hb); have HO600 := Aside0.mk (Kd.R_lower ho0 (below_size (by exact Lz1 HB GE592))); replace BK592 := Aside0.mk (blk_below (g := gb592) (o := .cells #[.int .i64 a0_0, .slice A0_1 l0_1.length c0_1] 37 (0, 0)) (Bz BK592) hb); replace HB := Aside0.mk (below_step (by exact Lz1 HB GE592) hb); (try clear hb); (try clear ho0); obtain ⟨Ao22, co22, eo22⟩ := Kd.R_slice HO597.out; subst eo22; obtain ⟨Ao23, co23, eo23⟩ := Kd.R_slice HO600.out; subst eo23) | ((with_reducible refine gate_callee (f := 43) rfl ?_); refine goesM_ (some 33) rfl rfl Try.func43 (by kernel_rfl) rfl #[.agg #[.int .i64 t594, .slice Ao22 t595.length co22], .slice Ao23 t598.length co23, .int .i64 a2] rfl ?_; (with_reducible refine (spec_ReducingScript.calls kj7 t594 _ _ t595 _ _ t598 a2 t601 t604 _ ?side1 ?side2 ?side3 ?side4 A14.out).mono ?_); (case side1 => exact Cz ((Kd.R_reads' HO597.out).2.2)); (case side2 => exact (Kd.R_reads' HO597.out).2.1); (case side3 => exact Cz ((Kd.R_reads' HO600.out).2.2)); (case side4 => exact (Kd.R_reads' HO600.out).2.1); rintro e w24 ⟨v602, rfl, ho0, hb⟩; refine ⟨_, rfl, ?_⟩; replace HO597 := Aside0.mk (Kd.R_below (Rz HO597) hb); have HO603 := Aside0.mk (Kd.R_lower (Kd.R_new' ho0 (Kd.R_lt (Rz HO600))) (below_size (by exact Lz1 HB GE592))); replace HO600 := Aside0.mk (Kd.R_elder' (Rz HO600) (Kd.R_base ho0) hb); replace BK592 := Aside0.mk (blk_below (g := gb592) (o := .cells #[.int .i64 a0_0, .slice A0_1 l0_1.length c0_1] 37 (0, 0)) (Bz BK592) hb); replace HB := Aside0.mk (below_step (by exact Lz1 HB GE592) hb); (try clear hb); (try clear ho0); have hcz25_0 : w24.cell? ⟨gb592, 0, none⟩ = some (.int .i64 a0_0) := (blk_cell BK592.out 0).trans rfl; have hcz25_1 : w24.cell? ⟨gb592, 1, none⟩ = some (.slice A0_1 l0_1.length c0_1) := (blk_cell BK592.out 1).trans rfl; have hfz25_0 := blk_frozen BK592.out 0; have hfz25_1 := blk_frozen BK592.out 1) | ((with_reducible refine gate_callee (f := 25) rfl ?_); refine goesM_ (some 37) rfl rfl Try.func25 (by kernel_rfl) rfl #[.agg #[.int .i64 a0_0, .slice A0_1 l0_1.length c0_1]] rfl ?_; (with_reducible refine (laws_toGraph.calls kj7 a0_0 _ _ l0_1 t605 t606 _ ?side1 ?side2 A15.out).mono ?_); (case side1 => exact Cz ((Kd.C_below HR0_1.out HB.out))); (case side2 => exact HC0_1.out); rintro e w26 ⟨v607, rfl, ho0, hb⟩; refine ⟨_, rfl, ?_⟩; replace HO600 := Aside0.mk (Kd.R_below (Rz HO600) hb); replace HO603 := Aside0.mk (Kd.R_below (Rz HO603) hb); have HO608 := Aside0.mk (Kd.R_lower (Kd.R_new' ho0 (Kd.R_lt (Rz HO597))) (below_size (by exact Lz1 HB GE592))); replace HO597 := Aside0.mk (Kd.R_elder' (Rz HO597) (Kd.R_base ho0) hb); replace BK592 := Aside0.mk (blk_below (g := gb592) (o := .cells #[.int .i64 a0_0, .slice A0_1 l0_1.length c0_1] 37 (0, 0)) (Bz BK592) hb); replace HB := Aside0.mk (below_step (by exact Lz1 HB GE592) hb); (try clear hb); (try clear ho0)) | ((with_reducible refine gate_dst (N := 10) rfl ?_); refine box_event ?hg (N := 10) ?hd (cs := #[.int .i64 0, .slice none 0 0]) (t := 25) ?hr ?_; (case hd => rfl); (case hg => rfl); (case hr => first | (go_simp; done) | (go_simp; rfl)); intro gb609 hg w27 hbox hb; replace HO597 := Aside0.mk (Kd.R_below (Rz HO597) hb); replace HO600 := Aside0.mk (Kd.R_below (Rz HO600) hb); replace HO603 := Aside0.mk (Kd.R_below (Rz HO603) hb); replace HO608 := Aside0.mk (Kd.R_below (Rz HO608) hb); have BK609 := Aside0.mk (hbox); have GW609 := Aside0.mk ((by rw [hg]; exact (below_size (by exact Lz1 HB GE592)) : w.heap.size ≤ gb609)); have GE609 := Aside0.mk ((by rw [hg]; exact (below_size (by exact Lz1 HB GE592)) : w.heap.size ≤ gb609)); replace HB := Aside0.mk (below_step (by exact Lz1 HB GE592) hb); have NB592_609 := Aside0.mk ((by rw [hg]; exact Nat.ne_of_lt (blk_lt (g := gb592) (o := .cells #[.int .i64 a0_0, .slice A0_1 l0_1.length c0_1] 37 (0, 0)) (Bz BK592)) : gb592 ≠ gb609)); have NB609_592 := Aside0.mk ((by rw [hg]; exact Nat.ne_of_gt (blk_lt (g := gb592) (o := .cells #[.int .i64 a0_0, .slice A0_1 l0_1.length c0_1] 37 (0, 0)) (Bz BK592)) : gb609 ≠ gb592)); replace BK592 := Aside0.mk (blk_below (g := gb592) (o := .cells #[.int .i64 a0_0, .slice A0_1 l0_1.length c0_1] 37 (0, 0)) (Bz BK592) hb); clear hb hbox hg; have hnb28 := NB609_592.out; have hnc28 := NB592_609.out; have hcz29_0 : w27.cell? ⟨gb609, 0, none⟩ = some (.int .i64 0) := (blk_cell BK609.out 0).trans rfl; have hcz29_1 : w27.cell? ⟨gb609, 1, none⟩ = some (.slice none 0 0) := (blk_cell BK609.out 1).trans rfl; have hfz29_0 := blk_frozen BK609.out 0; have hfz29_1 := blk_frozen BK609.out 1; obtain ⟨Ao30, co30, eo30⟩ := Kd.R_slice HO608.out; subst eo30) | ((with_reducible refine gate_callee (f := 26) rfl ?_); refine goesM_ (some 39) rfl rfl Try.func26 (by kernel_rfl) rfl #[.slice A1 l1.length c1] rfl ?_; (with_reducible refine (laws_toIntS.calls kj7 _ _ l1 t610 _ ?side1 ?side2 A16.out).mono ?_); (case side1 => exact Kd.C_below HR1.out (by exact Lz2 HB GE592 GE609)); (case side2 => exact HC1.out); rintro e w31 ⟨v611, rfl, ho0, hb⟩; refine ⟨_, rfl, ?_⟩; replace HO597 := Aside0.mk (Kd.R_below (by (with_reducible repeat (first | apply Kd.R_alloc | apply Kd.R_drewN | apply Kd.R_drew)); exact (Kd.R_mono (Kd.R_far (p := ⟨gb609, 1, none⟩) (Kd.R_far (p := ⟨gb609, 0, none⟩) (Kd.R_types HO597.out BK609.out (by decide)) (fun _ hk => hk.2) (.int .i64 t605)) (fun _ hk => hk.2) (.slice Ao30 t606.length co30)) (fun _ h_ => h_.1))) hb); replace HO608 := Aside0.mk (Kd.R_below (by (with_reducible repeat (first | apply Kd.R_alloc | apply Kd.R_drewN | apply Kd.R_drew)); exact (Kd.R_mono (Kd.R_far (p := ⟨gb609, 1, none⟩) (Kd.R_far (p := ⟨gb609, 0, none⟩) (Kd.R_types HO608.out BK609.out (by decide)) (fun _ hk => hk.2) (.int .i64 t605)) (fun _ hk => hk.2) (.slice Ao30 t606.length co30)) (fun _ h_ => h_.1))) hb); have HO612 := Aside0.mk (Kd.R_lower (Kd.R_new' (Kd.R_new' ho0 (Kd.R_lt (by (with_reducible repeat (first | apply Kd.R_alloc | apply Kd.R_drewN | apply Kd.R_drew)); exact (Kd.R_mono (Kd.R_far (p := ⟨gb609, 1, none⟩) (Kd.R_far (p := ⟨gb609, 0, none⟩) (Kd.R_types HO600.out BK609.out (by decide)) (fun _ hk => hk.2) (.int .i64 t605)) (fun _ hk => hk.2) (.slice Ao30 t606.length co30)) (fun _ h_ => h_.1))))) (Kd.R_lt (by (with_reducible repeat (first | apply Kd.R_alloc | apply Kd.R_drewN | apply Kd.R_drew)); exact (Kd.R_mono (Kd.R_far (p := ⟨gb609, 1, none⟩) (Kd.R_far (p := ⟨gb609, 0, none⟩) (Kd.R_types HO603.out BK609.out (by decide)) (fun _ hk => hk.2) (.int .i64 t605)) (fun _ hk => hk.2) (.slice Ao30 t606.length co30)) (fun _ h_ => h_.1))))) (below_size (by exact Lz2 HB GE592 GE609))); replace HO600 := Aside0.mk (Kd.R_elder' (by (with_reducible repeat (first | apply Kd.R_alloc | apply Kd.R_drewN | apply Kd.R_drew)); exact (Kd.R_mono (Kd.R_far (p := ⟨gb609, 1, none⟩) (Kd.R_far (p := ⟨gb609, 0, none⟩) (Kd.R_types HO600.out BK609.out (by decide)) (fun _ hk => hk.2) (.int .i64 t605)) (fun _ hk => hk.2) (.slice Ao30 t606.length co30)) (fun _ h_ => h_.1))) (Kd.R_base ho0) hb); replace HO603 := Aside0.mk (Kd.R_elder' (by (with_reducible repeat (first | apply Kd.R_alloc | apply Kd.R_drewN | apply Kd.R_drew)); exact (Kd.R_mono (Kd.R_far (p := ⟨gb609, 1, none⟩) (Kd.R_far (p := ⟨gb609, 0, none⟩) (Kd.R_types HO603.out BK609.out (by decide)) (fun _ hk => hk.2) (.int .i64 t605)) (fun _ hk => hk.2) (.slice Ao30 t606.length co30)) (fun _ h_ => h_.1))) (Kd.R_base ho0) hb); replace BK592 := Aside0.mk (blk_below (g := gb592) (o := .cells #[.int .i64 a0_0, .slice A0_1 l0_1.length c0_1] 37 (0, 0)) (by (with_reducible repeat (first | refine blk_drewN ?_ _ | refine blk_drew ?_ | refine blk_alloc ?_ _)); refine blk_far ?_ NB592_609.out _; (with_reducible repeat (first | refine blk_drewN ?_ _ | refine blk_drew ?_ | refine blk_alloc ?_ _)); refine blk_far ?_ NB592_609.out _; exact Bz BK592) hb); replace BK609 := Aside0.mk (blk_below (g := gb609) (o := .cells #[.int .i64 t605, .slice Ao30 t606.length co30] 25 (0, 0)) (by (with_reducible repeat (first | refine blk_drewN ?_ _ | refine blk_drew ?_ | refine blk_alloc ?_ _)); refine blk_put (cs := #[.int .i64 t605, .slice none 0 0]) ?_ 1 _ rfl; (with_reducible repeat (first | refine blk_drewN ?_ _ | refine blk_drew ?_ | refine blk_alloc ?_ _)); refine blk_put (cs := #[.int .i64 0, .slice none 0 0]) ?_ 0 _ rfl; exact Bz BK609) hb); replace HB := Aside0.mk (below_step (by exact Lz2 HB GE592 GE609) hb); (try clear hb); (try clear ho0); have hcz32_0 : w31.cell? ⟨gb609, 0, none⟩ = some (.int .i64 t605) := (blk_cell BK609.out 0).trans rfl; have hcz32_1 : w31.cell? ⟨gb609, 1, none⟩ = some (.slice Ao30 t606.length co30) := (blk_cell BK609.out 1).trans rfl; have hfz32_0 := blk_frozen BK609.out 0; have hfz32_1 := blk_frozen BK609.out 1; obtain ⟨Ao33, co33, eo33⟩ := Kd.R_slice HO612.out; subst eo33) | ((with_reducible refine gate_callee (f := 44) rfl ?_); refine goesM_ (some 44) rfl rfl Try.func44 (by kernel_rfl) rfl #[.agg #[.int .i64 t605, .slice Ao30 t606.length co30], .slice Ao33 t610.length co33, .int .i64 a2] rfl ?_; (with_reducible refine (impl_ReducingScript.calls kj7 t605 _ _ t606 _ _ t610 a2 t613 t616 _ ?side1 ?side2 ?side3 ?side4 A17.out).mono ?_); (case side1 => exact Cz ((Kd.R_reads' HO608.out).2.2)); (case side2 => exact (Kd.R_reads' HO608.out).2.1); (case side3 => exact Cz ((Kd.R_reads' HO612.out).2.2)); (case side4 => exact (Kd.R_reads' HO612.out).2.1); rintro e w34 ⟨v614, rfl, ho0, hb⟩; refine ⟨_, rfl, ?_⟩; replace HO597 := Aside0.mk (Kd.R_below (Rz HO597) hb); replace HO608 := Aside0.mk (Kd.R_below (Rz HO608) hb); have HO615 := Aside0.mk (Kd.R_lower (Kd.R_new' (Kd.R_new' (Kd.R_new' ho0 (Kd.R_lt (Rz HO600))) (Kd.R_lt (Rz HO603))) (Kd.R_lt (Rz HO612))) (below_size (by exact Lz2 HB GE592 GE609))); replace HO600 := Aside0.mk (Kd.R_elder' (Rz HO600) (Kd.R_base ho0) hb); replace HO603 := Aside0.mk (Kd.R_elder' (Rz HO603) (Kd.R_base ho0) hb); replace HO612 := Aside0.mk (Kd.R_elder' (Rz HO612) (Kd.R_base ho0) hb); replace BK592 := Aside0.mk (blk_below (g := gb592) (o := .cells #[.int .i64 a0_0, .slice A0_1 l0_1.length c0_1] 37 (0, 0)) (Bz BK592) hb); replace BK609 := Aside0.mk (blk_below (g := gb609) (o := .cells #[.int .i64 t605, .slice Ao30 t606.length co30] 25 (0, 0)) (Bz BK609) hb); replace HB := Aside0.mk (below_step (by exact Lz2 HB GE592 GE609) hb); (try clear hb); (try clear ho0)))
     (try simp only [Act.put, List.setIfInBounds_toArray, List.set_cons_zero, List.set_cons_succ])
     go_cut [55] (fun v55 wc => ∃ (kq : Nat) (x55_17 : Bool), v55 = .bool x55_17 ∧ Aside0 (laws_FnExactReducingScript.j2 kq l1 a2 t601 t604 t610 t613 t616 x55_17 a0_0 l0_1 t605 t606 = some r) ∧ Aside0 (kq ≤ kj7) ∧ Aside0 (Kd.R (Kd.int .i64) 3 wc w.heap.size (fun k_ => some k_ ≠ ((.slice Ao33 t610.length co33) : Value).ownBlock ∧ some k_ ≠ (v614 : Value).ownBlock) v602 t601) ∧ Aside0 (Kd.R (Kd.int .i64) 3 wc w.heap.size (fun k_ => some k_ ≠ (v602 : Value).ownBlock ∧ some k_ ≠ (v614 : Value).ownBlock) (.slice Ao33 t610.length co33) t610) ∧ Aside0 (Kd.R (Kd.int .i64) 3 wc w.heap.size (fun k_ => some k_ ≠ (v602 : Value).ownBlock ∧ some k_ ≠ ((.slice Ao33 t610.length co33) : Value).ownBlock) v614 t613) ∧ Aside0 (Kd.R k70 70 wc w.heap.size (fun _ => True) (.slice Ao30 t606.length co30) t606) ∧ Aside0 (wc.heap[gb592]? = some (.cells #[.int .i64 a0_0, (.slice A0_1 l0_1.length c0_1)] 37 (0, 0))) ∧ Aside0 (wc.heap[gb609]? = some (.cells #[.int .i64 t605, (.slice Ao30 t606.length co30)] 25 (0, 0))) ∧ Aside0 (Below w.heap.size w wc))
     case first =>
      have H := HC18.out
      clear HC18
      replace H := Option.bind_eq_some_iff.mp H
      obtain ⟨t617, A350, H⟩ := H
      replace H : (if t617 = true then (laws_FnExactReducingScript.j2 kj7 l1 a2 t601 t604 t610 t613 t616 (t616 != t604) a0_0 l0_1 t605 t606) else (laws_FnExactReducingScript.j2 kj7 l1 a2 t601 t604 t610 t613 t616 true a0_0 l0_1 t605 t606)) = some r := H
      have A35 := Aside0.mk A350
      clear A350
      by_cases c36 : t617 = true
      ·subst c36
       have H1 : (laws_FnExactReducingScript.j2 kj7 l1 a2 t601 t604 t610 t613 t616 (t616 != t604) a0_0 l0_1 t605 t606) = some r := by rw [if_pos rfl] at H; exact H
       clear H
       have H := H1
       clear H1
       have H' := Aside0.mk H
       clear H
       obtain ⟨Ao37, co37, eo37⟩ := Kd.R_slice HO615.out
       subst eo37
       obtain ⟨Ao38, co38, eo38⟩ := Kd.R_slice HO603.out
       subst eo38
       go_wp2_with (first | ((with_reducible refine gate_callee (f := 28) rfl ?_); refine goesM_ (some 49) rfl rfl Try.func28 (by kernel_rfl) rfl #[.slice Ao37 t613.length co37, .slice Ao38 t601.length co38] rfl ?_; (with_reducible refine (laws_eqIntS.calls kj7 _ _ t613 _ _ t601 true _ ?side1 ?side2 ?side3 ?side4 A35.out).mono ?_); (case side1 => exact Cz ((Kd.R_reads' HO615.out).2.2)); (case side2 => exact (Kd.R_reads' HO615.out).2.1); (case side3 => exact Cz ((Kd.R_reads' HO603.out).2.2)); (case side4 => exact (Kd.R_reads' HO603.out).2.1); rintro e w' ⟨rfl, ⟨nd, rfl⟩⟩; refine ⟨_, rfl, ?_⟩))
       go_meet
       case rel => exact ⟨_, ((t616 != t604)), (by first | rfl | (simp; done) | (simp [*]; done)), H', ⟨by have := HJ3.out; have := HJ7.out; first | omega | exact Nat.le_refl _⟩, ⟨by (with_reducible repeat (first | apply Kd.R_alloc | apply Kd.R_drewN | apply Kd.R_drew)); exact Kd.R_mono HO603.out (fun _ hk => ⟨hk.1.2, hk.2⟩)⟩, ⟨by (with_reducible repeat (first | apply Kd.R_alloc | apply Kd.R_drewN | apply Kd.R_drew)); exact Kd.R_mono HO612.out (fun _ hk => ⟨hk.1.2, hk.2⟩)⟩, ⟨by (with_reducible repeat (first | apply Kd.R_alloc | apply Kd.R_drewN | apply Kd.R_drew)); exact Kd.R_mono HO615.out (fun _ hk => ⟨hk.1.2, hk.2⟩)⟩, ⟨by (with_reducible repeat (first | apply Kd.R_alloc | apply Kd.R_drewN | apply Kd.R_drew)); exact Kd.R_mono HO608.out (fun _ hk => trivial)⟩, ⟨by exact Bz BK592⟩, ⟨by exact Bz BK609⟩, ⟨by exact Lz2 HB GE592 GE609⟩⟩
      replace c36 := Bool.eq_false_iff.mpr c36
      subst c36
      have H1 : (laws_FnExactReducingScript.j2 kj7 l1 a2 t601 t604 t610 t613 t616 true a0_0 l0_1 t605 t606) = some r := by rw [if_neg (show ¬ (false = true) by decide)] at H; exact H
      clear H
      have H := H1
      clear H1
      have H' := Aside0.mk H
      clear H
      obtain ⟨Ao39, co39, eo39⟩ := Kd.R_slice HO615.out
      subst eo39
      obtain ⟨Ao40, co40, eo40⟩ := Kd.R_slice HO603.out
      subst eo40
      go_wp2_with (first | ((with_reducible refine gate_callee (f := 28) rfl ?_); refine goesM_ (some 49) rfl rfl Try.func28 (by kernel_rfl) rfl #[.slice Ao39 t613.length co39, .slice Ao40 t601.length co40] rfl ?_; (with_reducible refine (laws_eqIntS.calls kj7 _ _ t613 _ _ t601 false _ ?side1 ?side2 ?side3 ?side4 A35.out).mono ?_); (case side1 => exact Cz ((Kd.R_reads' HO615.out).2.2)); (case side2 => exact (Kd.R_reads' HO615.out).2.1); (case side3 => exact Cz ((Kd.R_reads' HO603.out).2.2)); (case side4 => exact (Kd.R_reads' HO603.out).2.1); rintro e w' ⟨rfl, ⟨nd, rfl⟩⟩; refine ⟨_, rfl, ?_⟩))
      go_meet
      case rel => exact ⟨_, (true), (by first | rfl | (simp; done) | (simp [*]; done)), H', ⟨by have := HJ3.out; have := HJ7.out; first | omega | exact Nat.le_refl _⟩, ⟨by (with_reducible repeat (first | apply Kd.R_alloc | apply Kd.R_drewN | apply Kd.R_drew)); exact Kd.R_mono HO603.out (fun _ hk => ⟨hk.1.2, hk.2⟩)⟩, ⟨by (with_reducible repeat (first | apply Kd.R_alloc | apply Kd.R_drewN | apply Kd.R_drew)); exact Kd.R_mono HO612.out (fun _ hk => ⟨hk.1.2, hk.2⟩)⟩, ⟨by (with_reducible repeat (first | apply Kd.R_alloc | apply Kd.R_drewN | apply Kd.R_drew)); exact Kd.R_mono HO615.out (fun _ hk => ⟨hk.1.2, hk.2⟩)⟩, ⟨by (with_reducible repeat (first | apply Kd.R_alloc | apply Kd.R_drewN | apply Kd.R_drew)); exact Kd.R_mono HO608.out (fun _ hk => trivial)⟩, ⟨by exact Bz BK592⟩, ⟨by exact Bz BK609⟩, ⟨by exact Lz2 HB GE592 GE609⟩⟩
     case rest =>
      clear HC18
      try clear c1
      try clear c6
      try clear c6b0
      try clear c6b1
      try clear c11
      try clear c11b0
      try clear c36
      obtain ⟨kq, x55_17, rfl, HA, HJ17, HO_8, HO_11, HO_12, HO_610001, BK592, BK609, HB⟩ := hcut
      cases kq with
      | zero => exact absurd HA.out (by simp [laws_FnExactReducingScript.j2])
      | succ kj17 =>
       have H := HA.out
       clear HA
       simp only [laws_FnExactReducingScript.j2] at H
       have HC41 := Aside0.mk H
       clear H
       go_upto_if 55 with (fail)
       go_cut [] (fun wc => ∃ (kq : Nat), Aside0 (laws_FnExactReducingScript.j3 kq l1 a2 t601 t604 t610 t613 t616 a0_0 l0_1 t605 t606 = some r) ∧ Aside0 (kq ≤ kj17) ∧ Aside0 (Kd.R (Kd.int .i64) 3 wc w.heap.size (fun k_ => some k_ ≠ ((.slice Ao33 t610.length co33) : Value).ownBlock ∧ some k_ ≠ (v614 : Value).ownBlock) v602 t601) ∧ Aside0 (Kd.R (Kd.int .i64) 3 wc w.heap.size (fun k_ => some k_ ≠ (v602 : Value).ownBlock ∧ some k_ ≠ (v614 : Value).ownBlock) (.slice Ao33 t610.length co33) t610) ∧ Aside0 (Kd.R (Kd.int .i64) 3 wc w.heap.size (fun k_ => some k_ ≠ (v602 : Value).ownBlock ∧ some k_ ≠ ((.slice Ao33 t610.length co33) : Value).ownBlock) v614 t613) ∧ Aside0 (Kd.R k70 70 wc w.heap.size (fun _ => True) (.slice Ao30 t606.length co30) t606) ∧ Aside0 (wc.heap[gb592]? = some (.cells #[.int .i64 a0_0, (.slice A0_1 l0_1.length c0_1)] 37 (0, 0))) ∧ Aside0 (wc.heap[gb609]? = some (.cells #[.int .i64 t605, (.slice Ao30 t606.length co30)] 25 (0, 0))) ∧ Aside0 (Below w.heap.size w wc))
       case first =>
        have H := HC41.out
        clear HC41
        by_cases c42 : x55_17 = true
        ·subst c42
         have H1 : (some false) = some r := by rw [if_pos rfl] at H; exact H
         clear H
         have H := H1
         clear H1
         obtain rfl := Option.some.inj H
         go_wp2
         go_ret
         exact ⟨by first | rfl | (simp [errW_none, errW_some] <;> rfl) | (simp [*, errW_none, errW_some] <;> rfl), by exact Lz2 HB GE592 GE609⟩
        replace c42 := Bool.eq_false_iff.mpr c42
        subst c42
        have H1 : (laws_FnExactReducingScript.j3 kj17 l1 a2 t601 t604 t610 t613 t616 a0_0 l0_1 t605 t606) = some r := by rw [if_neg (show ¬ (false = true) by decide)] at H; exact H
        clear H
        have H := H1
        clear H1
        have H' := Aside0.mk H
        clear H
        go_wp2
        go_meet
        case rel => exact ⟨_, H', ⟨by have := HJ3.out; have := HJ7.out; have := HJ17.out; first | omega | exact Nat.le_refl _⟩, ⟨by exact Rz HO_8⟩, ⟨by exact Rz HO_11⟩, ⟨by exact Rz HO_12⟩, ⟨by exact Rz HO_610001⟩, ⟨by exact Bz BK592⟩, ⟨by exact Bz BK609⟩, ⟨by exact Lz2 HB GE592 GE609⟩⟩
       case rest =>
        clear HC41
        try clear c1
        try clear c6
        try clear c6b0
        try clear c6b1
        try clear c11
        try clear c11b0
        try clear c36
        try clear c42
        obtain ⟨kq, HA, HJ40, HO_8, HO_11, HO_12, HO_610001, BK592, BK609, HB⟩ := hcut
        cases kq with
        | zero => exact absurd HA.out (by simp [laws_FnExactReducingScript.j3])
        | succ kj40 =>
         have H := HA.out
         clear HA
         simp only [laws_FnExactReducingScript.j3] at H
         replace H := Option.bind_eq_some_iff.mp H
         obtain ⟨⟨t618, t619⟩, A430, H⟩ := H
         replace H : ((laws_eqGraph.f kj40 t605 t606 t618 t619).bind fun t622 => (if t622 = true then (laws_FnExactReducingScript.j4 kj40 l1 a2 t601 t604 t610 t613 t616 a0_0 l0_1 t605 t606) else (some false))) = some r := H
         have A43 := Aside0.mk A430
         clear A430
         replace H := Option.bind_eq_some_iff.mp H
         obtain ⟨t622, A440, H⟩ := H
         replace H : (if t622 = true then (laws_FnExactReducingScript.j4 kj40 l1 a2 t601 t604 t610 t613 t616 a0_0 l0_1 t605 t606) else (some false)) = some r := H
         have A44 := Aside0.mk A440
         clear A440
         have HC45 := Aside0.mk H
         clear H
         try go_wp2
         replace HO_8 := Aside0.mk (Kd.R_drew HO_8.out)
         replace HO_11 := Aside0.mk (Kd.R_drew HO_11.out)
         replace HO_12 := Aside0.mk (Kd.R_drew HO_12.out)
         replace HO_610001 := Aside0.mk (Kd.R_drew HO_610001.out)
         replace BK592 := Aside0.mk (blk_drew BK592.out)
         replace BK609 := Aside0.mk (blk_drew BK609.out)
         replace HB := Aside0.mk (below_drew1 HB.out)
         refine start_ (n := 5) (S := fun w' => w'.cell? ⟨gb609, 0, none⟩ = some (.int .i64 t605) ∧ w'.cell? ⟨gb609, 1, none⟩ = some (.slice Ao30 t606.length co30) ∧ w'.cell? ⟨gb592, 0, none⟩ = some (.int .i64 a0_0) ∧ w'.cell? ⟨gb592, 1, none⟩ = some (.slice A0_1 l0_1.length c0_1)) (ds := []) #[false, false, false, false, false] (by kernel_rfl) rfl rfl ⟨(blk_cell BK609.out 0).trans rfl, (blk_cell BK609.out 1).trans rfl, (blk_cell BK592.out 0).trans rfl, (blk_cell BK592.out 1).trans rfl⟩ (fun hHeld => ?_)
         generalize wc.drew = w46 at HO_8 HO_11 HO_12 HO_610001 BK592 BK609 HB hHeld ⊢
         refine take_ (i := 0) (N := some 56) (v := ?_) (a' := ?_) #[true, false, false, false, false] rfl rfl (by kernel_rfl) (fun _ _ _ h => h) (Or.inl ⟨by rfl, ?_⟩) hHeld ?_ ?_
         rotate_left
         ·rintro w' ⟨s0, s1, s2, s3⟩
          go_simp
          with_reducible rfl
         rotate_left
         ·simp only [Act.put, List.setIfInBounds_toArray, List.set_cons_zero, List.set_cons_succ, i64_w, i32_w]
          rfl
         refine take_ (i := 1) (N := some 57) (v := ?_) (a' := ?_) #[true, true, false, false, false] rfl rfl (by kernel_rfl) (fun _ _ _ h => h) (Or.inl ⟨by rfl, ?_⟩) hHeld ?_ ?_
         rotate_left
         ·rintro w' ⟨s0, s1, s2, s3⟩
          go_simp
          with_reducible rfl
         rotate_left
         ·simp only [Act.put, List.setIfInBounds_toArray, List.set_cons_zero, List.set_cons_succ, i64_w, i32_w]
          rfl
         refine one_ (i := 2) (N := some 58) #[true, true, true, false, false] rfl rfl (by kernel_rfl) (by decide) (fun K hK => ?_)
         refine goes_ Try.func25 (by kernel_rfl) rfl #[.agg #[.int .i64 a0_0, .slice A0_1 l0_1.length c0_1]] (by rfl) rfl rfl (by (try simp only [List.map_toArray, List.map_cons, List.map_nil]); first | done | rfl | (simp only [List.length_drop, List.length_take]; rfl)) ?_
         with_reducible refine (laws_toGraph.calls kj40 a0_0 _ _ l0_1 t618 t619 _ ?side1 ?side2 A43.out).mono ?_
         (case side1 => exact Cz ((Kd.C_below HR0_1.out HB.out)))
         (case side2 => exact HC0_1.out)
         rintro e w47 ⟨v620, rfl, ho0, hb⟩
         refine ⟨_, rfl, ?_⟩
         replace HO_8 := Aside0.mk (Kd.R_below (Rz HO_8) hb)
         replace HO_11 := Aside0.mk (Kd.R_below (Rz HO_11) hb)
         replace HO_12 := Aside0.mk (Kd.R_below (Rz HO_12) hb)
         have HO621 := Aside0.mk (Kd.R_lower (Kd.R_new' ho0 (Kd.R_lt (Rz HO_610001))) (below_size (by exact Lz2 HB GE592 GE609)))
         replace HO_610001 := Aside0.mk (Kd.R_elder' (Rz HO_610001) (Kd.R_base ho0) hb)
         replace BK592 := Aside0.mk (blk_below (g := gb592) (o := .cells #[.int .i64 a0_0, .slice A0_1 l0_1.length c0_1] 37 (0, 0)) (Bz BK592) hb)
         replace BK609 := Aside0.mk (blk_below (g := gb609) (o := .cells #[.int .i64 t605, .slice Ao30 t606.length co30] 25 (0, 0)) (Bz BK609) hb)
         replace HB := Aside0.mk (below_step (by exact Lz2 HB GE592 GE609) hb)
         (try clear hb)
         (try clear hb2)
         (try clear hk)
         (try clear hi)
         (try clear ho0)
         obtain ⟨Ao48, co48, eo48⟩ := Kd.R_slice HO621.out
         (first | subst eo48 | (injection eo48 with f1_ f2_ f3_; have f4_ := f1_.symm; have f5_ := f3_.symm; clear f1_ f2_ f3_; subst f4_; subst f5_))
         refine hK.out _ _ ⟨(blk_cell BK609.out 0).trans rfl, (blk_cell BK609.out 1).trans rfl, (blk_cell BK592.out 0).trans rfl, (blk_cell BK592.out 1).trans rfl⟩ (fun hHeld => ?_)
         clear hK K
         refine norm_ (a' := ?_) ?_ ?_
         rotate_left
         ·show Act.put _ (some 58) _ = _
          simp only [Act.put, List.setIfInBounds_toArray, List.set_cons_zero, List.set_cons_succ, i64_w, i32_w]
          rfl
         refine one_ (i := 3) (N := some 59) #[true, true, true, true, false] rfl rfl (by kernel_rfl) (by decide) (fun K hK => ?_)
         refine goes_ Try.func29 (by kernel_rfl) rfl #[.agg #[.int .i64 t605, .slice Ao30 t606.length co30], .agg #[.int .i64 t618, .slice Ao48 t619.length co48]] (by rfl) rfl rfl (by (try simp only [List.map_toArray, List.map_cons, List.map_nil]); first | done | rfl | (simp only [List.length_drop, List.length_take]; rfl)) ?_
         with_reducible refine (laws_eqGraph.calls kj40 t605 _ _ t606 t618 _ _ t619 t622 _ ?side1 ?side2 ?side3 ?side4 A44.out).mono ?_
         (case side1 => exact Cz ((Kd.R_reads' HO_610001.out).2.2))
         (case side2 => exact (Kd.R_reads' HO_610001.out).2.1)
         (case side3 => exact Cz ((Kd.R_reads' HO621.out).2.2))
         (case side4 => exact (Kd.R_reads' HO621.out).2.1)
         rintro e w49 ⟨rfl, hb⟩
         refine ⟨_, rfl, ?_⟩
         replace HO_8 := Aside0.mk (Kd.R_below (Rz HO_8) hb)
         replace HO_11 := Aside0.mk (Kd.R_below (Rz HO_11) hb)
         replace HO_12 := Aside0.mk (Kd.R_below (Rz HO_12) hb)
         replace HO_610001 := Aside0.mk (Kd.R_below (Rz HO_610001) hb)
         replace HO621 := Aside0.mk (Kd.R_below (Rz HO621) hb)
         replace BK592 := Aside0.mk (blk_below (g := gb592) (o := .cells #[.int .i64 a0_0, .slice A0_1 l0_1.length c0_1] 37 (0, 0)) (Bz BK592) hb)
         replace BK609 := Aside0.mk (blk_below (g := gb609) (o := .cells #[.int .i64 t605, .slice Ao30 t606.length co30] 25 (0, 0)) (Bz BK609) hb)
         replace HB := Aside0.mk (below_step (by exact Lz2 HB GE592 GE609) hb)
         (try clear hb)
         (try clear hb2)
         (try clear hk)
         (try clear hi)
         refine hK.out _ _ ⟨(blk_cell BK609.out 0).trans rfl, (blk_cell BK609.out 1).trans rfl, (blk_cell BK592.out 0).trans rfl, (blk_cell BK592.out 1).trans rfl⟩ (fun hHeld => ?_)
         clear hK K
         refine norm_ (a' := ?_) ?_ ?_
         rotate_left
         ·show Act.put _ (some 59) _ = _
          simp only [Act.put, List.setIfInBounds_toArray, List.set_cons_zero, List.set_cons_succ, i64_w, i32_w]
          rfl
         refine pure_ (i := 4) (N := some 60) (v := ?_) (a' := ?_) #[true, true, true, true, true] rfl rfl (by kernel_rfl) (fun _ _ _ h => h) (Or.inl ⟨by rfl, ?_⟩) ?_ ?_
         rotate_left
         ·intro w'
          go_simp
          with_reducible rfl
         rotate_left
         ·simp only [Act.put, List.setIfInBounds_toArray, List.set_cons_zero, List.set_cons_succ, i64_w, i32_w]
          rfl
         refine done_ (by kernel_rfl) ?_
         go_upto_if 60 with (fail)
         go_cut [] (fun wc => ∃ (kq : Nat), Aside0 (laws_FnExactReducingScript.j4 kq l1 a2 t601 t604 t610 t613 t616 a0_0 l0_1 t605 t606 = some r) ∧ Aside0 (kq ≤ kj40) ∧ Aside0 (Kd.R (Kd.int .i64) 3 wc w.heap.size (fun k_ => some k_ ≠ ((.slice Ao33 t610.length co33) : Value).ownBlock ∧ some k_ ≠ (v614 : Value).ownBlock) v602 t601) ∧ Aside0 (Kd.R (Kd.int .i64) 3 wc w.heap.size (fun k_ => some k_ ≠ (v602 : Value).ownBlock ∧ some k_ ≠ (v614 : Value).ownBlock) (.slice Ao33 t610.length co33) t610) ∧ Aside0 (Kd.R (Kd.int .i64) 3 wc w.heap.size (fun k_ => some k_ ≠ (v602 : Value).ownBlock ∧ some k_ ≠ ((.slice Ao33 t610.length co33) : Value).ownBlock) v614 t613) ∧ Aside0 (Kd.R k70 70 wc w.heap.size (fun _ => True) (.slice Ao30 t606.length co30) t606) ∧ Aside0 (wc.heap[gb592]? = some (.cells #[.int .i64 a0_0, (.slice A0_1 l0_1.length c0_1)] 37 (0, 0))) ∧ Aside0 (wc.heap[gb609]? = some (.cells #[.int .i64 t605, (.slice Ao30 t606.length co30)] 25 (0, 0))) ∧ Aside0 (Below w.heap.size w wc))
         case first =>
          have H := HC45.out
          clear HC45
          by_cases c50 : t622 = true
          ·subst c50
           have H1 : (laws_FnExactReducingScript.j4 kj40 l1 a2 t601 t604 t610 t613 t616 a0_0 l0_1 t605 t606) = some r := by rw [if_pos rfl] at H; exact H
           clear H
           have H := H1
           clear H1
           have H' := Aside0.mk H
           clear H
           go_wp2
           go_meet
           case rel => exact ⟨_, H', ⟨by have := HJ3.out; have := HJ7.out; have := HJ17.out; have := HJ40.out; first | omega | exact Nat.le_refl _⟩, ⟨by exact Rz HO_8⟩, ⟨by exact Rz HO_11⟩, ⟨by exact Rz HO_12⟩, ⟨by (with_reducible repeat (first | apply Kd.R_alloc | apply Kd.R_drewN | apply Kd.R_drew)); exact Kd.R_mono HO_610001.out (fun _ hk => trivial)⟩, ⟨by exact Bz BK592⟩, ⟨by exact Bz BK609⟩, ⟨by exact Lz2 HB GE592 GE609⟩⟩
          replace c50 := Bool.eq_false_iff.mpr c50
          subst c50
          have H1 : (some false) = some r := by rw [if_neg (show ¬ (false = true) by decide)] at H; exact H
          clear H
          have H := H1
          clear H1
          obtain rfl := Option.some.inj H
          go_wp2
          go_ret
          exact ⟨by first | rfl | (simp [errW_none, errW_some] <;> rfl) | (simp [*, errW_none, errW_some] <;> rfl), by exact Lz2 HB GE592 GE609⟩
         case rest =>
          clear HC45
          try clear c1
          try clear c6
          try clear c6b0
          try clear c6b1
          try clear c11
          try clear c11b0
          try clear c36
          try clear c42
          try clear c50
          obtain ⟨kq, HA, HJ44, HO_8, HO_11, HO_12, HO_610001, BK592, BK609, HB⟩ := hcut
          cases kq with
          | zero => exact absurd HA.out (by simp [laws_FnExactReducingScript.j4])
          | succ kj44 =>
           have H := HA.out
           clear HA
           simp only [laws_FnExactReducingScript.j4] at H
           replace H := Option.bind_eq_some_iff.mp H
           obtain ⟨t623, A510, H⟩ := H
           replace H : ((laws_eqIntS.f kj44 t610 t623).bind fun t626 => (if t626 = true then (laws_FnExactReducingScript.j5 kj44 l1 a2 t601 t604 t610 t613 t616 a0_0 l0_1 t605 t606) else (some false))) = some r := H
           have A51 := Aside0.mk A510
           clear A510
           replace H := Option.bind_eq_some_iff.mp H
           obtain ⟨t626, A520, H⟩ := H
           replace H : (if t626 = true then (laws_FnExactReducingScript.j5 kj44 l1 a2 t601 t604 t610 t613 t616 a0_0 l0_1 t605 t606) else (some false)) = some r := H
           have A52 := Aside0.mk A520
           clear A520
           have HC53 := Aside0.mk H
           clear H
           go_upto_if 65 with (first | ((with_reducible refine gate_callee (f := 26) rfl ?_); refine goesM_ (some 63) rfl rfl Try.func26 (by kernel_rfl) rfl #[.slice A1 l1.length c1] rfl ?_; (with_reducible refine (laws_toIntS.calls kj44 _ _ l1 t623 _ ?side1 ?side2 A51.out).mono ?_); (case side1 => exact Cz ((Kd.C_below HR1.out HB.out))); (case side2 => exact HC1.out); rintro e w54 ⟨v624, rfl, ho0, hb⟩; refine ⟨_, rfl, ?_⟩; replace HO_610001 := Aside0.mk (Kd.R_below (Rz HO_610001) hb); have HO625 := Aside0.mk (Kd.R_lower (Kd.R_new' (Kd.R_new' (Kd.R_new' ho0 (Kd.R_lt (Rz HO_8))) (Kd.R_lt (Rz HO_11))) (Kd.R_lt (Rz HO_12))) (below_size (by exact Lz2 HB GE592 GE609))); replace HO_8 := Aside0.mk (Kd.R_elder' (Rz HO_8) (Kd.R_base ho0) hb); replace HO_11 := Aside0.mk (Kd.R_elder' (Rz HO_11) (Kd.R_base ho0) hb); replace HO_12 := Aside0.mk (Kd.R_elder' (Rz HO_12) (Kd.R_base ho0) hb); replace BK592 := Aside0.mk (blk_below (g := gb592) (o := .cells #[.int .i64 a0_0, .slice A0_1 l0_1.length c0_1] 37 (0, 0)) (Bz BK592) hb); replace BK609 := Aside0.mk (blk_below (g := gb609) (o := .cells #[.int .i64 t605, .slice Ao30 t606.length co30] 25 (0, 0)) (Bz BK609) hb); replace HB := Aside0.mk (below_step (by exact Lz2 HB GE592 GE609) hb); (try clear hb); (try clear ho0); obtain ⟨Ao55, co55, eo55⟩ := Kd.R_slice HO625.out; subst eo55) | ((with_reducible refine gate_callee (f := 28) rfl ?_); refine goesM_ (some 64) rfl rfl Try.func28 (by kernel_rfl) rfl #[.slice Ao33 t610.length co33, .slice Ao55 t623.length co55] rfl ?_; (with_reducible refine (laws_eqIntS.calls kj44 _ _ t610 _ _ t623 t626 _ ?side1 ?side2 ?side3 ?side4 A52.out).mono ?_); (case side1 => exact Cz ((Kd.R_reads' HO_11.out).2.2)); (case side2 => exact (Kd.R_reads' HO_11.out).2.1); (case side3 => exact Cz ((Kd.R_reads' HO625.out).2.2)); (case side4 => exact (Kd.R_reads' HO625.out).2.1); rintro e w' ⟨rfl, ⟨nd, rfl⟩⟩; refine ⟨_, rfl, ?_⟩))
           (try simp only [Act.put, List.setIfInBounds_toArray, List.set_cons_zero, List.set_cons_succ])
           go_cut [] (fun wc => ∃ (kq : Nat), Aside0 (laws_FnExactReducingScript.j5 kq l1 a2 t601 t604 t610 t613 t616 a0_0 l0_1 t605 t606 = some r) ∧ Aside0 (kq ≤ kj44) ∧ Aside0 (Kd.R (Kd.int .i64) 3 wc w.heap.size (fun k_ => some k_ ≠ ((.slice Ao33 t610.length co33) : Value).ownBlock ∧ some k_ ≠ (v614 : Value).ownBlock) v602 t601) ∧ Aside0 (Kd.R (Kd.int .i64) 3 wc w.heap.size (fun k_ => some k_ ≠ (v602 : Value).ownBlock ∧ some k_ ≠ (v614 : Value).ownBlock) (.slice Ao33 t610.length co33) t610) ∧ Aside0 (Kd.R (Kd.int .i64) 3 wc w.heap.size (fun k_ => some k_ ≠ (v602 : Value).ownBlock ∧ some k_ ≠ ((.slice Ao33 t610.length co33) : Value).ownBlock) v614 t613) ∧ Aside0 (Kd.R k70 70 wc w.heap.size (fun _ => True) (.slice Ao30 t606.length co30) t606) ∧ Aside0 (wc.heap[gb592]? = some (.cells #[.int .i64 a0_0, (.slice A0_1 l0_1.length c0_1)] 37 (0, 0))) ∧ Aside0 (wc.heap[gb609]? = some (.cells #[.int .i64 t605, (.slice Ao30 t606.length co30)] 25 (0, 0))) ∧ Aside0 (Below w.heap.size w wc))
           case first =>
            have H := HC53.out
            clear HC53
            by_cases c56 : t626 = true
            ·subst c56
             have H1 : (laws_FnExactReducingScript.j5 kj44 l1 a2 t601 t604 t610 t613 t616 a0_0 l0_1 t605 t606) = some r := by rw [if_pos rfl] at H; exact H
             clear H
             have H := H1
             clear H1
             have H' := Aside0.mk H
             clear H
             go_wp2
             go_meet
             case rel => exact ⟨_, H', ⟨by have := HJ3.out; have := HJ7.out; have := HJ17.out; have := HJ40.out; have := HJ44.out; first | omega | exact Nat.le_refl _⟩, ⟨by (with_reducible repeat (first | apply Kd.R_alloc | apply Kd.R_drewN | apply Kd.R_drew)); exact Kd.R_mono HO_8.out (fun _ hk => ⟨hk.1.1, hk.1.2⟩)⟩, ⟨by (with_reducible repeat (first | apply Kd.R_alloc | apply Kd.R_drewN | apply Kd.R_drew)); exact Kd.R_mono HO_11.out (fun _ hk => ⟨hk.1.1, hk.1.2⟩)⟩, ⟨by (with_reducible repeat (first | apply Kd.R_alloc | apply Kd.R_drewN | apply Kd.R_drew)); exact Kd.R_mono HO_12.out (fun _ hk => ⟨hk.1.1, hk.1.2⟩)⟩, ⟨by exact Rz HO_610001⟩, ⟨by exact Bz BK592⟩, ⟨by exact Bz BK609⟩, ⟨by exact Lz2 HB GE592 GE609⟩⟩
            replace c56 := Bool.eq_false_iff.mpr c56
            subst c56
            have H1 : (some false) = some r := by rw [if_neg (show ¬ (false = true) by decide)] at H; exact H
            clear H
            have H := H1
            clear H1
            obtain rfl := Option.some.inj H
            go_wp2
            go_ret
            exact ⟨by first | rfl | (simp [errW_none, errW_some] <;> rfl) | (simp [*, errW_none, errW_some] <;> rfl), by exact Lz2 HB GE592 GE609⟩
           case rest =>
            clear HC53
            try clear c1
            try clear c6
            try clear c6b0
            try clear c6b1
            try clear c11
            try clear c11b0
            try clear c36
            try clear c42
            try clear c50
            try clear c56
            obtain ⟨kq, HA, HJ52, HO_8, HO_11, HO_12, HO_610001, BK592, BK609, HB⟩ := hcut
            cases kq with
            | zero => exact absurd HA.out (by simp [laws_FnExactReducingScript.j5])
            | succ kj52 =>
             have H := HA.out
             clear HA
             simp only [laws_FnExactReducingScript.j5] at H
             replace H := Option.bind_eq_some_iff.mp H
             obtain ⟨⟨t627, t628⟩, A570, H⟩ := H
             replace H : ((laws_markIntS.f kj52 t610 t627).bind fun bt629 => (if bt629.1 < 0 then (laws_FnExactReducingScript.j6 kj52 l1 a2 t601 t604 t613 true a0_0 l0_1) else ((laws_eqIntS.f kj52 t613 t601).bind fun t631 => (if t631 = true then (laws_FnExactReducingScript.j6 kj52 l1 a2 t601 t604 t613 (t616 != t604) a0_0 l0_1) else (laws_FnExactReducingScript.j6 kj52 l1 a2 t601 t604 t613 true a0_0 l0_1))))) = some r := H
             have A57 := Aside0.mk A570
             clear A570
             replace H := Option.bind_eq_some_iff.mp H
             obtain ⟨⟨t629, t630⟩, A580, H⟩ := H
             replace H : (if t629 < 0 then (laws_FnExactReducingScript.j6 kj52 l1 a2 t601 t604 t613 true a0_0 l0_1) else ((laws_eqIntS.f kj52 t613 t601).bind fun t631 => (if t631 = true then (laws_FnExactReducingScript.j6 kj52 l1 a2 t601 t604 t613 (t616 != t604) a0_0 l0_1) else (laws_FnExactReducingScript.j6 kj52 l1 a2 t601 t604 t613 true a0_0 l0_1)))) = some r := H
             have A58 := Aside0.mk A580
             clear A580
             have HC59 := Aside0.mk H
             clear H
             have hnb60 := NB609_592.out
             have hnc60 := NB592_609.out
             have hcz61_0 : wc.cell? ⟨gb609, 0, none⟩ = some (.int .i64 t605) := (blk_cell BK609.out 0).trans rfl
             have hcz61_1 : wc.cell? ⟨gb609, 1, none⟩ = some (.slice Ao30 t606.length co30) := (blk_cell BK609.out 1).trans rfl
             have hfz61_0 := blk_frozen BK609.out 0
             have hfz61_1 := blk_frozen BK609.out 1
             go_upto_region 20 with (first | ((with_reducible refine gate_callee (f := 30) rfl ?_); refine goesM_ (some 68) rfl rfl Try.func30 (by kernel_rfl) rfl #[.agg #[.int .i64 t605, .slice Ao30 t606.length co30], .int .i64 1] rfl ?_; (with_reducible refine (laws_markGraph.calls kj52 t605 (fun k_ => some k_ = (.slice Ao30 t606.length co30 : Value).ownBlock) (.slice Ao30 t606.length co30) t606 1 t627 t628 w _ ?side1 ?side2 A57.out).mono ?_); (case side1 => exact Lz2 HB GE592 GE609); (case side2 => exact Kd.R_tight rfl HO_610001.out); rintro e w62 ⟨rfl, hy0, hb, hkp⟩; refine ⟨_, rfl, ?_⟩; replace HO_8 := Aside0.mk (Kd.R_mono (ok' := fun k_ => some k_ ≠ (.slice Ao33 t610.length co33 : Value).ownBlock ∧ some k_ ≠ (v614 : Value).ownBlock) (Kd.R_keptB ((Kd.R_apart' HO_8.out (Kd.R_typed HO_610001.out) (by decide))) hkp (fun k_ hk_ hs_ => (hk_.2) hs_)) (fun k_ hk_ => ⟨hk_.1.1.1, hk_.1.1.2⟩)); replace HO_11 := Aside0.mk (Kd.R_mono (ok' := fun k_ => some k_ ≠ (v602 : Value).ownBlock ∧ some k_ ≠ (v614 : Value).ownBlock) (Kd.R_keptB ((Kd.R_apart' HO_11.out (Kd.R_typed HO_610001.out) (by decide))) hkp (fun k_ hk_ hs_ => (hk_.2) hs_)) (fun k_ hk_ => ⟨hk_.1.1.1, hk_.1.1.2⟩)); replace HO_12 := Aside0.mk (Kd.R_mono (ok' := fun k_ => some k_ ≠ (v602 : Value).ownBlock ∧ some k_ ≠ (.slice Ao33 t610.length co33 : Value).ownBlock) (Kd.R_keptB ((Kd.R_apart' HO_12.out (Kd.R_typed HO_610001.out) (by decide))) hkp (fun k_ hk_ hs_ => (hk_.2) hs_)) (fun k_ hk_ => ⟨hk_.1.1.1, hk_.1.1.2⟩)); replace BK592 := Aside0.mk (blk_kept (Bz BK592) hkp (fun hs_ => (fun e_ => (Kd.R_ne HO_610001.out BK592.out (by decide)) e_) hs_)); replace BK609 := Aside0.mk (blk_kept (Bz BK609) hkp (fun hs_ => (fun e_ => (Kd.R_ne HO_610001.out BK609.out (by decide)) e_) hs_)); replace HO_610001 := Aside0.mk (Kd.R_reok rfl hy0 (fun k_ e_ => HO_610001.out.1 k_ e_)); replace HB := Aside0.mk (hb); (try clear hb); (try clear hkp); (try clear hy0)) | ((with_reducible refine gate_callee (f := 31) rfl ?_); refine goesM_ (some 71) rfl rfl Try.func31 (by kernel_rfl) rfl #[.slice Ao33 t610.length co33, .int .i64 t627] rfl ?_; (with_reducible refine (laws_markIntS.calls kj52 (fun k_ => some k_ = (.slice Ao33 t610.length co33 : Value).ownBlock) (.slice Ao33 t610.length co33) t610 t627 t629 t630 w _ ?side1 ?side2 A58.out).mono ?_); (case side1 => exact Lz2 HB GE592 GE609); (case side2 => exact Kd.R_tight rfl HO_11.out); rintro e w63 ⟨rfl, hy0, hb, hkp⟩; refine ⟨_, rfl, ?_⟩; replace HO_8 := Aside0.mk (Kd.R_mono (ok' := fun k_ => some k_ ≠ (.slice Ao33 t610.length co33 : Value).ownBlock ∧ some k_ ≠ (v614 : Value).ownBlock) (Kd.R_keptB (HO_8.out) hkp (fun k_ hk_ hs_ => (hk_.1) hs_)) (fun k_ hk_ => ⟨hk_.1.1, hk_.1.2⟩)); replace HO_12 := Aside0.mk (Kd.R_mono (ok' := fun k_ => some k_ ≠ (v602 : Value).ownBlock ∧ some k_ ≠ (.slice Ao33 t610.length co33 : Value).ownBlock) (Kd.R_keptB (HO_12.out) hkp (fun k_ hk_ hs_ => (hk_.2) hs_)) (fun k_ hk_ => ⟨hk_.1.1, hk_.1.2⟩)); replace HO_610001 := Aside0.mk (Kd.R_mono (ok' := fun k_ => True) (Kd.R_keptB ((Kd.R_apart' HO_610001.out (Kd.R_typed HO_11.out) (by decide))) hkp (fun k_ hk_ hs_ => (hk_.2) hs_)) (fun k_ hk_ => trivial)); replace BK592 := Aside0.mk (blk_kept (Bz BK592) hkp (fun hs_ => (fun e_ => (Kd.R_ne HO_11.out BK592.out (by decide)) e_) hs_)); replace BK609 := Aside0.mk (blk_kept (Bz BK609) hkp (fun hs_ => (fun e_ => (Kd.R_ne HO_11.out BK609.out (by decide)) e_) hs_)); replace HO_11 := Aside0.mk (Kd.R_reok rfl hy0 (fun k_ e_ => HO_11.out.1 k_ e_)); replace HB := Aside0.mk (hb); (try clear hb); (try clear hkp); (try clear hy0)))
             (try simp only [Act.put, List.setIfInBounds_toArray, List.set_cons_zero, List.set_cons_succ])
             go_cut [84] (fun v84 wc => ∃ (kq : Nat) (x84_58 : Bool), v84 = .bool x84_58 ∧ Aside0 (laws_FnExactReducingScript.j6 kq l1 a2 t601 t604 t613 x84_58 a0_0 l0_1 = some r) ∧ Aside0 (kq ≤ kj52) ∧ Aside0 (Kd.R (Kd.int .i64) 3 wc w.heap.size (fun k_ => some k_ ≠ (v614 : Value).ownBlock) v602 t601) ∧ Aside0 (Kd.R (Kd.int .i64) 3 wc w.heap.size (fun k_ => some k_ ≠ (v602 : Value).ownBlock) v614 t613) ∧ Aside0 (Kd.R k70 70 wc w.heap.size (fun _ => True) (.slice Ao30 t606.length co30) t628) ∧ Aside0 (wc.heap[gb592]? = some (.cells #[.int .i64 a0_0, (.slice A0_1 l0_1.length c0_1)] 37 (0, 0))) ∧ Aside0 (wc.heap[gb609]? = some (.cells #[.int .i64 t605, (.slice Ao30 t606.length co30)] 25 (0, 0))) ∧ Aside0 (Below w.heap.size w wc))
             case first =>
              have H := HC59.out
              clear HC59
              by_cases c64 : t629 < 0
              ·rw [if_pos c64] at H
               have c64b0 : decide (t629 < 0) = true := decide_eq_true c64
               clear c64
               (first | rw [c64b0] | (simp only [i64_w, i32_w]; rw [c64b0]) | skip)
               have H' := Aside0.mk H
               clear H
               go_wp2
               go_meet
               case rel => exact ⟨_, (true), (by first | rfl | (simp; done) | (simp [*]; done)), H', ⟨by have := HJ3.out; have := HJ7.out; have := HJ17.out; have := HJ40.out; have := HJ44.out; have := HJ52.out; first | omega | exact Nat.le_refl _⟩, ⟨by (with_reducible repeat (first | apply Kd.R_alloc | apply Kd.R_drewN | apply Kd.R_drew)); exact Kd.R_mono HO_8.out (fun _ hk => hk.2)⟩, ⟨by (with_reducible repeat (first | apply Kd.R_alloc | apply Kd.R_drewN | apply Kd.R_drew)); exact Kd.R_mono HO_12.out (fun _ hk => hk.1)⟩, ⟨by exact Rz HO_610001⟩, ⟨by exact Bz BK592⟩, ⟨by exact Bz BK609⟩, ⟨by exact Lz2 HB GE592 GE609⟩⟩
              rw [if_neg c64] at H
              have c64b0 : decide (t629 < 0) = false := decide_eq_false c64
              clear c64
              (first | rw [c64b0] | (simp only [i64_w, i32_w]; rw [c64b0]) | skip)
              replace H := Option.bind_eq_some_iff.mp H
              obtain ⟨t631, A650, H⟩ := H
              replace H : (if t631 = true then (laws_FnExactReducingScript.j6 kj52 l1 a2 t601 t604 t613 (t616 != t604) a0_0 l0_1) else (laws_FnExactReducingScript.j6 kj52 l1 a2 t601 t604 t613 true a0_0 l0_1)) = some r := H
              have A65 := Aside0.mk A650
              clear A650
              by_cases c66 : t631 = true
              ·subst c66
               have H1 : (laws_FnExactReducingScript.j6 kj52 l1 a2 t601 t604 t613 (t616 != t604) a0_0 l0_1) = some r := by rw [if_pos rfl] at H; exact H
               clear H
               have H := H1
               clear H1
               have H' := Aside0.mk H
               clear H
               obtain ⟨Ao67, co67, eo67⟩ := Kd.R_slice HO_12.out
               subst eo67
               obtain ⟨Ao68, co68, eo68⟩ := Kd.R_slice HO_8.out
               subst eo68
               go_wp2_with (first | (go_at_call 28; (with_reducible refine (laws_eqIntS.calls kj52 _ _ t613 _ _ t601 true _ ?side1 ?side2 ?side3 ?side4 A65.out).mono ?_); (case side1 => exact Cz ((Kd.R_reads' HO_12.out).2.2)); (case side2 => exact (Kd.R_reads' HO_12.out).2.1); (case side3 => exact Cz ((Kd.R_reads' HO_8.out).2.2)); (case side4 => exact (Kd.R_reads' HO_8.out).2.1); rintro e w' ⟨rfl, ⟨nd, rfl⟩⟩))
               go_meet
               case rel => exact ⟨_, ((t616 != t604)), (by first | rfl | (simp; done) | (simp [*]; done)), H', ⟨by have := HJ3.out; have := HJ7.out; have := HJ17.out; have := HJ40.out; have := HJ44.out; have := HJ52.out; first | omega | exact Nat.le_refl _⟩, ⟨by (with_reducible repeat (first | apply Kd.R_alloc | apply Kd.R_drewN | apply Kd.R_drew)); exact Kd.R_mono HO_8.out (fun _ hk => hk.2)⟩, ⟨by (with_reducible repeat (first | apply Kd.R_alloc | apply Kd.R_drewN | apply Kd.R_drew)); exact Kd.R_mono HO_12.out (fun _ hk => hk.1)⟩, ⟨by exact Rz HO_610001⟩, ⟨by exact Bz BK592⟩, ⟨by exact Bz BK609⟩, ⟨by exact Lz2 HB GE592 GE609⟩⟩
              replace c66 := Bool.eq_false_iff.mpr c66
              subst c66
              have H1 : (laws_FnExactReducingScript.j6 kj52 l1 a2 t601 t604 t613 true a0_0 l0_1) = some r := by rw [if_neg (show ¬ (false = true) by decide)] at H; exact H
              clear H
              have H := H1
              clear H1
              have H' := Aside0.mk H
              clear H
              obtain ⟨Ao69, co69, eo69⟩ := Kd.R_slice HO_12.out
              subst eo69
              obtain ⟨Ao70, co70, eo70⟩ := Kd.R_slice HO_8.out
              subst eo70
              go_wp2_with (first | (go_at_call 28; (with_reducible refine (laws_eqIntS.calls kj52 _ _ t613 _ _ t601 false _ ?side1 ?side2 ?side3 ?side4 A65.out).mono ?_); (case side1 => exact Cz ((Kd.R_reads' HO_12.out).2.2)); (case side2 => exact (Kd.R_reads' HO_12.out).2.1); (case side3 => exact Cz ((Kd.R_reads' HO_8.out).2.2)); (case side4 => exact (Kd.R_reads' HO_8.out).2.1); rintro e w' ⟨rfl, ⟨nd, rfl⟩⟩))
              go_meet
              case rel => exact ⟨_, (true), (by first | rfl | (simp; done) | (simp [*]; done)), H', ⟨by have := HJ3.out; have := HJ7.out; have := HJ17.out; have := HJ40.out; have := HJ44.out; have := HJ52.out; first | omega | exact Nat.le_refl _⟩, ⟨by (with_reducible repeat (first | apply Kd.R_alloc | apply Kd.R_drewN | apply Kd.R_drew)); exact Kd.R_mono HO_8.out (fun _ hk => hk.2)⟩, ⟨by (with_reducible repeat (first | apply Kd.R_alloc | apply Kd.R_drewN | apply Kd.R_drew)); exact Kd.R_mono HO_12.out (fun _ hk => hk.1)⟩, ⟨by exact Rz HO_610001⟩, ⟨by exact Bz BK592⟩, ⟨by exact Bz BK609⟩, ⟨by exact Lz2 HB GE592 GE609⟩⟩
             case rest =>
              clear HC59
              try clear c1
              try clear c6
              try clear c6b0
              try clear c6b1
              try clear c11
              try clear c11b0
              try clear c36
              try clear c42
              try clear c50
              try clear c56
              try clear c64
              try clear c64b0
              try clear c66
              obtain ⟨kq, x84_58, rfl, HA, HJ58, HO_8, HO_12, HO_610001, BK592, BK609, HB⟩ := hcut
              have hl610001_58 := (Kd.R_reads' HO_610001.out).1
              rw [hl610001_58] at HO_610001
              (try simp only [hl610001_58])
              (try simp only [hl610001_58] at BK592)
              (try simp only [hl610001_58] at BK609)
              (try simp only [hl610001_58] at HO_8)
              (try simp only [hl610001_58] at HO_12)
              cases kq with
              | zero => exact absurd HA.out (by simp [laws_FnExactReducingScript.j6])
              | succ kj58 =>
               have H := HA.out
               clear HA
               simp only [laws_FnExactReducingScript.j6] at H
               have HC71 := Aside0.mk H
               clear H
               go_upto_if 84 with (fail)
               go_cut [] (fun wc => ∃ (kq : Nat), Aside0 (laws_FnExactReducingScript.j7 kq l1 a2 t601 t604 t613 a0_0 l0_1 = some r) ∧ Aside0 (kq ≤ kj58) ∧ Aside0 (Kd.R (Kd.int .i64) 3 wc w.heap.size (fun k_ => some k_ ≠ (v614 : Value).ownBlock) v602 t601) ∧ Aside0 (Kd.R (Kd.int .i64) 3 wc w.heap.size (fun k_ => some k_ ≠ (v602 : Value).ownBlock) v614 t613) ∧ Aside0 (Kd.R k70 70 wc w.heap.size (fun _ => True) (.slice Ao30 t628.length co30) t628) ∧ Aside0 (wc.heap[gb592]? = some (.cells #[.int .i64 a0_0, (.slice A0_1 l0_1.length c0_1)] 37 (0, 0))) ∧ Aside0 (wc.heap[gb609]? = some (.cells #[.int .i64 t605, (.slice Ao30 t628.length co30)] 25 (0, 0))) ∧ Aside0 (Below w.heap.size w wc))
               case first =>
                have H := HC71.out
                clear HC71
                by_cases c72 : x84_58 = true
                ·subst c72
                 have H1 : (some false) = some r := by rw [if_pos rfl] at H; exact H
                 clear H
                 have H := H1
                 clear H1
                 obtain rfl := Option.some.inj H
                 go_wp2
                 go_ret
                 exact ⟨by first | rfl | (simp [errW_none, errW_some] <;> rfl) | (simp [*, errW_none, errW_some] <;> rfl), by exact Lz2 HB GE592 GE609⟩
                replace c72 := Bool.eq_false_iff.mpr c72
                subst c72
                have H1 : (laws_FnExactReducingScript.j7 kj58 l1 a2 t601 t604 t613 a0_0 l0_1) = some r := by rw [if_neg (show ¬ (false = true) by decide)] at H; exact H
                clear H
                have H := H1
                clear H1
                have H' := Aside0.mk H
                clear H
                go_wp2
                go_meet
                case rel => exact ⟨_, H', ⟨by have := HJ3.out; have := HJ7.out; have := HJ17.out; have := HJ40.out; have := HJ44.out; have := HJ52.out; have := HJ58.out; first | omega | exact Nat.le_refl _⟩, ⟨by (try simp only [hl610001_58]); exact Rz HO_8⟩, ⟨by (try simp only [hl610001_58]); exact Rz HO_12⟩, ⟨by (try simp only [hl610001_58]); exact Rz HO_610001⟩, ⟨by (try simp only [hl610001_58]); exact Bz BK592⟩, ⟨by (try simp only [hl610001_58]); exact Bz BK609⟩, ⟨by exact Lz2 HB GE592 GE609⟩⟩
               case rest =>
                clear HC71
                try clear c1
                try clear c6
                try clear c6b0
                try clear c6b1
                try clear c11
                try clear c11b0
                try clear c36
                try clear c42
                try clear c50
                try clear c56
                try clear c64
                try clear c64b0
                try clear c66
                try clear c72
                obtain ⟨kq, HA, HJ70, HO_8, HO_12, HO_610001, BK592, BK609, HB⟩ := hcut
                cases kq with
                | zero => exact absurd HA.out (by simp [laws_FnExactReducingScript.j7])
                | succ kj70 =>
                 have H := HA.out
                 clear HA
                 simp only [laws_FnExactReducingScript.j7] at H
                 replace H := Option.bind_eq_some_iff.mp H
                 obtain ⟨⟨t632, t633⟩, A730, H⟩ := H
                 replace H : ((laws_heldIntS.f kj70 t633 1).bind fun t634 => (if t634 < 0 then (some false) else (laws_FnExactReducingScript.j8 kj70 l1 a2 t601 t604 t633 t632 t634 a0_0 l0_1))) = some r := H
                 have A73 := Aside0.mk A730
                 clear A730
                 replace H := Option.bind_eq_some_iff.mp H
                 obtain ⟨t634, A740, H⟩ := H
                 replace H : (if t634 < 0 then (some false) else (laws_FnExactReducingScript.j8 kj70 l1 a2 t601 t604 t633 t632 t634 a0_0 l0_1)) = some r := H
                 have A74 := Aside0.mk A740
                 clear A740
                 have HC75 := Aside0.mk H
                 clear H
                 obtain ⟨Ao76, co76, eo76⟩ := Kd.R_slice HO_12.out
                 subst eo76
                 go_upto_if 92 with (first | ((with_reducible refine gate_callee (f := 31) rfl ?_); refine goesM_ (some 87) rfl rfl Try.func31 (by kernel_rfl) rfl #[.slice Ao76 t613.length co76, .int .i64 1] rfl ?_; (with_reducible refine (laws_markIntS.calls kj70 (fun k_ => some k_ = (.slice Ao76 t613.length co76 : Value).ownBlock) (.slice Ao76 t613.length co76) t613 1 t632 t633 w _ ?side1 ?side2 A73.out).mono ?_); (case side1 => exact Lz2 HB GE592 GE609); (case side2 => exact Kd.R_tight rfl HO_12.out); rintro e w77 ⟨rfl, hy0, hb, hkp⟩; refine ⟨_, rfl, ?_⟩; replace HO_8 := Aside0.mk (Kd.R_mono (ok' := fun k_ => some k_ ≠ (.slice Ao76 t613.length co76 : Value).ownBlock) (Kd.R_keptB (HO_8.out) hkp (fun k_ hk_ hs_ => (hk_) hs_)) (fun k_ hk_ => hk_.1)); replace HO_610001 := Aside0.mk (Kd.R_mono (ok' := fun k_ => True) (Kd.R_keptB ((Kd.R_apart' HO_610001.out (Kd.R_typed HO_12.out) (by decide))) hkp (fun k_ hk_ hs_ => (hk_.2) hs_)) (fun k_ hk_ => trivial)); replace BK592 := Aside0.mk (blk_kept (Bz BK592) hkp (fun hs_ => (fun e_ => (Kd.R_ne HO_12.out BK592.out (by decide)) e_) hs_)); replace BK609 := Aside0.mk (blk_kept (Bz BK609) hkp (fun hs_ => (fun e_ => (Kd.R_ne HO_12.out BK609.out (by decide)) e_) hs_)); replace HO_12 := Aside0.mk (Kd.R_reok rfl hy0 (fun k_ e_ => HO_12.out.1 k_ e_)); replace HB := Aside0.mk (hb); (try clear hb); (try clear hkp); (try clear hy0)) | ((with_reducible refine gate_callee (f := 32) rfl ?_); refine goesL_ (some 90) rfl rfl Try.func32 (by kernel_rfl) rfl #[.slice Ao76 t633.length co76, .int .i64 1] rfl (by (try simp only [List.map_toArray, List.map_cons, List.map_nil]); first | done | (rw [show t633.length = t613.length from (Kd.R_reads' HO_12.out).1.symm] <;> rfl) | rfl | (simp only [List.length_drop, List.length_take]; rfl)) ?_; (with_reducible refine (laws_heldIntS.calls kj70 _ _ t633 1 t634 _ ?side1 ?side2 A74.out).mono ?_); (case side1 => exact Cz ((Kd.R_reads' HO_12.out).2.2)); (case side2 => rw [show t633.length = t613.length from (Kd.R_reads' HO_12.out).1.symm]; exact (Kd.R_reads' HO_12.out).2.1); rintro e w' ⟨rfl, ⟨nd, rfl⟩⟩; refine ⟨_, rfl, ?_⟩))
                 (try simp only [Act.put, List.setIfInBounds_toArray, List.set_cons_zero, List.set_cons_succ])
                 go_cut [] (fun wc => ∃ (kq : Nat), Aside0 (laws_FnExactReducingScript.j8 kq l1 a2 t601 t604 t633 t632 t634 a0_0 l0_1 = some r) ∧ Aside0 (kq ≤ kj70) ∧ Aside0 (Kd.R (Kd.int .i64) 3 wc w.heap.size (fun k_ => some k_ ≠ ((.slice Ao76 t613.length co76) : Value).ownBlock) v602 t601) ∧ Aside0 (Kd.R (Kd.int .i64) 3 wc w.heap.size (fun k_ => some k_ ≠ (v602 : Value).ownBlock) (.slice Ao76 t613.length co76) t633) ∧ Aside0 (Kd.R k70 70 wc w.heap.size (fun _ => True) (.slice Ao30 t628.length co30) t628) ∧ Aside0 (wc.heap[gb592]? = some (.cells #[.int .i64 a0_0, (.slice A0_1 l0_1.length c0_1)] 37 (0, 0))) ∧ Aside0 (wc.heap[gb609]? = some (.cells #[.int .i64 t605, (.slice Ao30 t628.length co30)] 25 (0, 0))) ∧ Aside0 (Below w.heap.size w wc))
                 case first =>
                  have H := HC75.out
                  clear HC75
                  by_cases c78 : t634 < 0
                  ·rw [if_pos c78] at H
                   have c78b0 : decide (t634 < 0) = true := decide_eq_true c78
                   clear c78
                   (first | rw [c78b0] | (simp only [i64_w, i32_w]; rw [c78b0]) | skip)
                   obtain rfl := Option.some.inj H
                   go_wp2
                   go_ret
                   exact ⟨by first | rfl | (simp [errW_none, errW_some] <;> rfl) | (simp [*, errW_none, errW_some] <;> rfl), by exact Lz2 HB GE592 GE609⟩
                  rw [if_neg c78] at H
                  have c78b0 : decide (t634 < 0) = false := decide_eq_false c78
                  clear c78
                  (first | rw [c78b0] | (simp only [i64_w, i32_w]; rw [c78b0]) | skip)
                  have H' := Aside0.mk H
                  clear H
                  go_wp2
                  go_meet
                  case rel => exact ⟨_, H', ⟨by have := HJ3.out; have := HJ7.out; have := HJ17.out; have := HJ40.out; have := HJ44.out; have := HJ52.out; have := HJ58.out; have := HJ70.out; first | omega | exact Nat.le_refl _⟩, ⟨by (try simp only [hl610001_58]); exact Rz HO_8⟩, ⟨by (try simp only [hl610001_58]); exact Rz HO_12⟩, ⟨by (try simp only [hl610001_58]); exact Rz HO_610001⟩, ⟨by (try simp only [hl610001_58]); exact Bz BK592⟩, ⟨by (try simp only [hl610001_58]); exact Bz BK609⟩, ⟨by exact Lz2 HB GE592 GE609⟩⟩
                 case rest =>
                  clear HC75
                  try clear c1
                  try clear c6
                  try clear c6b0
                  try clear c6b1
                  try clear c11
                  try clear c11b0
                  try clear c36
                  try clear c42
                  try clear c50
                  try clear c56
                  try clear c64
                  try clear c64b0
                  try clear c66
                  try clear c72
                  try clear c78
                  try clear c78b0
                  obtain ⟨kq, HA, HJ74, HO_8, HO_12, HO_610001, BK592, BK609, HB⟩ := hcut
                  have hl12_74 := (Kd.R_reads' HO_12.out).1
                  rw [hl12_74] at HO_12
                  (try simp only [hl12_74])
                  (try simp only [hl12_74] at BK592)
                  (try simp only [hl12_74] at BK609)
                  (try simp only [hl12_74] at HO_8)
                  (try simp only [hl12_74] at HO_610001)
                  cases kq with
                  | zero => exact absurd HA.out (by simp [laws_FnExactReducingScript.j8])
                  | succ kj74 =>
                   have H := HA.out
                   clear HA
                   simp only [laws_FnExactReducingScript.j8] at H
                   have HC79 := Aside0.mk H
                   clear H
                   go_upto_if 95 with (fail)
                   go_cut [] (fun wc => ∃ (kq : Nat), Aside0 (laws_FnExactReducingScript.j9 kq l1 a2 t601 t604 t633 t632 a0_0 l0_1 = some r) ∧ Aside0 (kq ≤ kj74) ∧ Aside0 (Kd.R (Kd.int .i64) 3 wc w.heap.size (fun k_ => some k_ ≠ ((.slice Ao76 t633.length co76) : Value).ownBlock) v602 t601) ∧ Aside0 (Kd.R (Kd.int .i64) 3 wc w.heap.size (fun k_ => some k_ ≠ (v602 : Value).ownBlock) (.slice Ao76 t633.length co76) t633) ∧ Aside0 (Kd.R k70 70 wc w.heap.size (fun _ => True) (.slice Ao30 t628.length co30) t628) ∧ Aside0 (wc.heap[gb592]? = some (.cells #[.int .i64 a0_0, (.slice A0_1 l0_1.length c0_1)] 37 (0, 0))) ∧ Aside0 (wc.heap[gb609]? = some (.cells #[.int .i64 t605, (.slice Ao30 t628.length co30)] 25 (0, 0))) ∧ Aside0 (Below w.heap.size w wc))
                   case first =>
                    have H := HC79.out
                    clear HC79
                    by_cases c80 : t634 = t632
                    ·rw [if_pos c80] at H
                     have c80b0 : (t634 == t632) = true := beq_iff_eq.mpr c80
                     have c80b1 : (t634 != t632) = false := bne_eq_false_iff_eq.mpr c80
                     clear c80
                     (first | rw [c80b0] | (simp only [i64_w, i32_w]; rw [c80b0]) | skip)
                     have H' := Aside0.mk H
                     clear H
                     go_wp2
                     go_meet
                     case rel => exact ⟨_, H', ⟨by have := HJ3.out; have := HJ7.out; have := HJ17.out; have := HJ40.out; have := HJ44.out; have := HJ52.out; have := HJ58.out; have := HJ70.out; have := HJ74.out; first | omega | exact Nat.le_refl _⟩, ⟨by (try simp only [hl610001_58]); (try simp only [hl12_74]); exact Rz HO_8⟩, ⟨by (try simp only [hl610001_58]); (try simp only [hl12_74]); exact Rz HO_12⟩, ⟨by (try simp only [hl610001_58]); (try simp only [hl12_74]); exact Rz HO_610001⟩, ⟨by (try simp only [hl610001_58]); (try simp only [hl12_74]); exact Bz BK592⟩, ⟨by (try simp only [hl610001_58]); (try simp only [hl12_74]); exact Bz BK609⟩, ⟨by exact Lz2 HB GE592 GE609⟩⟩
                    rw [if_neg c80] at H
                    have c80b0 : (t634 == t632) = false := beq_eq_false_iff_ne.mpr c80
                    have c80b1 : (t634 != t632) = true := bne_iff_ne.mpr c80
                    (first | rw [c80b0] | (simp only [i64_w, i32_w]; rw [c80b0]) | skip)
                    obtain rfl := Option.some.inj H
                    go_wp2
                    go_ret
                    exact ⟨by first | rfl | (simp [errW_none, errW_some] <;> rfl) | (simp [*, errW_none, errW_some] <;> rfl), by exact Lz2 HB GE592 GE609⟩
                   case rest =>
                    clear HC79
                    try clear c1
                    try clear c6
                    try clear c6b0
                    try clear c6b1
                    try clear c11
                    try clear c11b0
                    try clear c36
                    try clear c42
                    try clear c50
                    try clear c56
                    try clear c64
                    try clear c64b0
                    try clear c66
                    try clear c72
                    try clear c78
                    try clear c78b0
                    try clear c80
                    try clear c80b0
                    try clear c80b1
                    obtain ⟨kq, HA, HJ78, HO_8, HO_12, HO_610001, BK592, BK609, HB⟩ := hcut
                    cases kq with
                    | zero => exact absurd HA.out (by simp [laws_FnExactReducingScript.j9])
                    | succ kj78 =>
                     have H := HA.out
                     clear HA
                     simp only [laws_FnExactReducingScript.j9] at H
                     replace H := Option.bind_eq_some_iff.mp H
                     obtain ⟨⟨t635, t636⟩, A810, H⟩ := H
                     replace H : ((laws_toIntS.f kj78 l1).bind fun t639 => ((impl_ReducingScript.f kj78 t635 t636 t639 a2).bind fun bt642 => ((laws_eqIntS.f kj78 bt642.1 t601).bind fun t646 => (if t646 = true then (laws_FnExactReducingScript.j10 kj78 t633 t632 (bt642.2 != t604)) else (laws_FnExactReducingScript.j10 kj78 t633 t632 true))))) = some r := H
                     have A81 := Aside0.mk A810
                     clear A810
                     replace H := Option.bind_eq_some_iff.mp H
                     obtain ⟨t639, A820, H⟩ := H
                     replace H : ((impl_ReducingScript.f kj78 t635 t636 t639 a2).bind fun bt642 => ((laws_eqIntS.f kj78 bt642.1 t601).bind fun t646 => (if t646 = true then (laws_FnExactReducingScript.j10 kj78 t633 t632 (bt642.2 != t604)) else (laws_FnExactReducingScript.j10 kj78 t633 t632 true)))) = some r := H
                     have A82 := Aside0.mk A820
                     clear A820
                     replace H := Option.bind_eq_some_iff.mp H
                     obtain ⟨⟨t642, t645⟩, A830, H⟩ := H
                     replace H : ((laws_eqIntS.f kj78 t642 t601).bind fun t646 => (if t646 = true then (laws_FnExactReducingScript.j10 kj78 t633 t632 (t645 != t604)) else (laws_FnExactReducingScript.j10 kj78 t633 t632 true))) = some r := H
                     have A83 := Aside0.mk A830
                     clear A830
                     have HC84 := Aside0.mk H
                     clear H
                     have hnb85 := NB592_609.out
                     have hnc85 := NB609_592.out
                     have hcz86_0 : wc.cell? ⟨gb592, 0, none⟩ = some (.int .i64 a0_0) := (blk_cell BK592.out 0).trans rfl
                     have hcz86_1 : wc.cell? ⟨gb592, 1, none⟩ = some (.slice A0_1 l0_1.length c0_1) := (blk_cell BK592.out 1).trans rfl
                     have hfz86_0 := blk_frozen BK592.out 0
                     have hfz86_1 := blk_frozen BK592.out 1
                     go_upto_region 31 with (first | ((with_reducible refine gate_callee (f := 25) rfl ?_); refine goesM_ (some 98) rfl rfl Try.func25 (by kernel_rfl) rfl #[.agg #[.int .i64 a0_0, .slice A0_1 l0_1.length c0_1]] rfl ?_; (with_reducible refine (laws_toGraph.calls kj78 a0_0 _ _ l0_1 t635 t636 _ ?side1 ?side2 A81.out).mono ?_); (case side1 => exact Cz ((Kd.C_below HR0_1.out HB.out))); (case side2 => exact HC0_1.out); rintro e w87 ⟨v637, rfl, ho0, hb⟩; refine ⟨_, rfl, ?_⟩; replace HO_8 := Aside0.mk (Kd.R_below (Rz HO_8) hb); replace HO_12 := Aside0.mk (Kd.R_below (Rz HO_12) hb); have HO638 := Aside0.mk (Kd.R_lower (Kd.R_new' ho0 (Kd.R_lt (Rz HO_610001))) (below_size (by exact Lz2 HB GE592 GE609))); replace HO_610001 := Aside0.mk (Kd.R_elder' (Rz HO_610001) (Kd.R_base ho0) hb); replace BK592 := Aside0.mk (blk_below (g := gb592) (o := .cells #[.int .i64 a0_0, .slice A0_1 l0_1.length c0_1] 37 (0, 0)) (Bz BK592) hb); replace BK609 := Aside0.mk (blk_below (g := gb609) (o := .cells #[.int .i64 t605, .slice Ao30 t628.length co30] 25 (0, 0)) (Bz BK609) hb); replace HB := Aside0.mk (below_step (by exact Lz2 HB GE592 GE609) hb); (try clear hb); (try clear ho0)) | ((with_reducible refine gate_callee (f := 26) rfl ?_); refine goesM_ (some 100) rfl rfl Try.func26 (by kernel_rfl) rfl #[.slice A1 l1.length c1] rfl ?_; (with_reducible refine (laws_toIntS.calls kj78 _ _ l1 t639 _ ?side1 ?side2 A82.out).mono ?_); (case side1 => exact Cz ((Kd.C_below HR1.out HB.out))); (case side2 => exact HC1.out); rintro e w88 ⟨v640, rfl, ho0, hb⟩; refine ⟨_, rfl, ?_⟩; replace HO_610001 := Aside0.mk (Kd.R_below (Rz HO_610001) hb); replace HO638 := Aside0.mk (Kd.R_below (Rz HO638) hb); have HO641 := Aside0.mk (Kd.R_lower (Kd.R_new' (Kd.R_new' ho0 (Kd.R_lt (Rz HO_8))) (Kd.R_lt (Rz HO_12))) (below_size (by exact Lz2 HB GE592 GE609))); replace HO_8 := Aside0.mk (Kd.R_elder' (Rz HO_8) (Kd.R_base ho0) hb); replace HO_12 := Aside0.mk (Kd.R_elder' (Rz HO_12) (Kd.R_base ho0) hb); replace BK592 := Aside0.mk (blk_below (g := gb592) (o := .cells #[.int .i64 a0_0, .slice A0_1 l0_1.length c0_1] 37 (0, 0)) (Bz BK592) hb); replace BK609 := Aside0.mk (blk_below (g := gb609) (o := .cells #[.int .i64 t605, .slice Ao30 t628.length co30] 25 (0, 0)) (Bz BK609) hb); replace HB := Aside0.mk (below_step (by exact Lz2 HB GE592 GE609) hb); (try clear hb); (try clear ho0); obtain ⟨Ao89, co89, eo89⟩ := Kd.R_slice HO638.out; subst eo89; obtain ⟨Ao90, co90, eo90⟩ := Kd.R_slice HO641.out; subst eo90) | ((with_reducible refine gate_callee (f := 44) rfl ?_); refine goesM_ (some 102) rfl rfl Try.func44 (by kernel_rfl) rfl #[.agg #[.int .i64 t635, .slice Ao89 t636.length co89], .slice Ao90 t639.length co90, .int .i64 a2] rfl ?_; (with_reducible refine (impl_ReducingScript.calls kj78 t635 _ _ t636 _ _ t639 a2 t642 t645 _ ?side1 ?side2 ?side3 ?side4 A83.out).mono ?_); (case side1 => exact Cz ((Kd.R_reads' HO638.out).2.2)); (case side2 => exact (Kd.R_reads' HO638.out).2.1); (case side3 => exact Cz ((Kd.R_reads' HO641.out).2.2)); (case side4 => exact (Kd.R_reads' HO641.out).2.1); rintro e w91 ⟨v643, rfl, ho0, hb⟩; refine ⟨_, rfl, ?_⟩; replace HO_610001 := Aside0.mk (Kd.R_below (Rz HO_610001) hb); replace HO638 := Aside0.mk (Kd.R_below (Rz HO638) hb); have HO644 := Aside0.mk (Kd.R_lower (Kd.R_new' (Kd.R_new' (Kd.R_new' ho0 (Kd.R_lt (Rz HO_8))) (Kd.R_lt (Rz HO_12))) (Kd.R_lt (Rz HO641))) (below_size (by exact Lz2 HB GE592 GE609))); replace HO_8 := Aside0.mk (Kd.R_elder' (Rz HO_8) (Kd.R_base ho0) hb); replace HO_12 := Aside0.mk (Kd.R_elder' (Rz HO_12) (Kd.R_base ho0) hb); replace HO641 := Aside0.mk (Kd.R_elder' (Rz HO641) (Kd.R_base ho0) hb); replace BK592 := Aside0.mk (blk_below (g := gb592) (o := .cells #[.int .i64 a0_0, .slice A0_1 l0_1.length c0_1] 37 (0, 0)) (Bz BK592) hb); replace BK609 := Aside0.mk (blk_below (g := gb609) (o := .cells #[.int .i64 t605, .slice Ao30 t628.length co30] 25 (0, 0)) (Bz BK609) hb); replace HB := Aside0.mk (below_step (by exact Lz2 HB GE592 GE609) hb); (try clear hb); (try clear ho0)))
                     (try simp only [Act.put, List.setIfInBounds_toArray, List.set_cons_zero, List.set_cons_succ])
                     go_cut [113] (fun v113 wc => ∃ (kq : Nat) (x113_83 : Bool), v113 = .bool x113_83 ∧ Aside0 (laws_FnExactReducingScript.j10 kq t633 t632 x113_83 = some r) ∧ Aside0 (kq ≤ kj78) ∧ Aside0 (Kd.R (Kd.int .i64) 3 wc w.heap.size (fun _ => True) (.slice Ao76 t633.length co76) t633) ∧ Aside0 (Kd.R k70 70 wc w.heap.size (fun _ => True) (.slice Ao30 t628.length co30) t628) ∧ Aside0 (wc.heap[gb592]? = some (.cells #[.int .i64 a0_0, (.slice A0_1 l0_1.length c0_1)] 37 (0, 0))) ∧ Aside0 (wc.heap[gb609]? = some (.cells #[.int .i64 t605, (.slice Ao30 t628.length co30)] 25 (0, 0))) ∧ Aside0 (Below w.heap.size w wc))
                     case first =>
                      have H := HC84.out
                      clear HC84
                      replace H := Option.bind_eq_some_iff.mp H
                      obtain ⟨t646, A920, H⟩ := H
                      replace H : (if t646 = true then (laws_FnExactReducingScript.j10 kj78 t633 t632 (t645 != t604)) else (laws_FnExactReducingScript.j10 kj78 t633 t632 true)) = some r := H
                      have A92 := Aside0.mk A920
                      clear A920
                      by_cases c93 : t646 = true
                      ·subst c93
                       have H1 : (laws_FnExactReducingScript.j10 kj78 t633 t632 (t645 != t604)) = some r := by rw [if_pos rfl] at H; exact H
                       clear H
                       have H := H1
                       clear H1
                       have H' := Aside0.mk H
                       clear H
                       obtain ⟨Ao94, co94, eo94⟩ := Kd.R_slice HO644.out
                       subst eo94
                       obtain ⟨Ao95, co95, eo95⟩ := Kd.R_slice HO_8.out
                       subst eo95
                       go_wp2_with (first | ((with_reducible refine gate_callee (f := 28) rfl ?_); refine goesM_ (some 107) rfl rfl Try.func28 (by kernel_rfl) rfl #[.slice Ao94 t642.length co94, .slice Ao95 t601.length co95] rfl ?_; (with_reducible refine (laws_eqIntS.calls kj78 _ _ t642 _ _ t601 true _ ?side1 ?side2 ?side3 ?side4 A92.out).mono ?_); (case side1 => exact Cz ((Kd.R_reads' HO644.out).2.2)); (case side2 => exact (Kd.R_reads' HO644.out).2.1); (case side3 => exact Cz ((Kd.R_reads' HO_8.out).2.2)); (case side4 => exact (Kd.R_reads' HO_8.out).2.1); rintro e w' ⟨rfl, ⟨nd, rfl⟩⟩; refine ⟨_, rfl, ?_⟩))
                       go_meet
                       case rel => exact ⟨_, ((t645 != t604)), (by first | rfl | (simp; done) | (simp [*]; done)), H', ⟨by have := HJ3.out; have := HJ7.out; have := HJ17.out; have := HJ40.out; have := HJ44.out; have := HJ52.out; have := HJ58.out; have := HJ70.out; have := HJ74.out; have := HJ78.out; first | omega | exact Nat.le_refl _⟩, ⟨by (try simp only [hl610001_58]); (try simp only [hl12_74]); (with_reducible repeat (first | apply Kd.R_alloc | apply Kd.R_drewN | apply Kd.R_drew)); exact Kd.R_mono HO_12.out (fun _ hk => trivial)⟩, ⟨by (try simp only [hl610001_58]); (try simp only [hl12_74]); (with_reducible repeat (first | apply Kd.R_alloc | apply Kd.R_drewN | apply Kd.R_drew)); exact Kd.R_mono HO_610001.out (fun _ hk => trivial)⟩, ⟨by (try simp only [hl610001_58]); (try simp only [hl12_74]); exact Bz BK592⟩, ⟨by (try simp only [hl610001_58]); (try simp only [hl12_74]); exact Bz BK609⟩, ⟨by exact Lz2 HB GE592 GE609⟩⟩
                      replace c93 := Bool.eq_false_iff.mpr c93
                      subst c93
                      have H1 : (laws_FnExactReducingScript.j10 kj78 t633 t632 true) = some r := by rw [if_neg (show ¬ (false = true) by decide)] at H; exact H
                      clear H
                      have H := H1
                      clear H1
                      have H' := Aside0.mk H
                      clear H
                      obtain ⟨Ao96, co96, eo96⟩ := Kd.R_slice HO644.out
                      subst eo96
                      obtain ⟨Ao97, co97, eo97⟩ := Kd.R_slice HO_8.out
                      subst eo97
                      go_wp2_with (first | ((with_reducible refine gate_callee (f := 28) rfl ?_); refine goesM_ (some 107) rfl rfl Try.func28 (by kernel_rfl) rfl #[.slice Ao96 t642.length co96, .slice Ao97 t601.length co97] rfl ?_; (with_reducible refine (laws_eqIntS.calls kj78 _ _ t642 _ _ t601 false _ ?side1 ?side2 ?side3 ?side4 A92.out).mono ?_); (case side1 => exact Cz ((Kd.R_reads' HO644.out).2.2)); (case side2 => exact (Kd.R_reads' HO644.out).2.1); (case side3 => exact Cz ((Kd.R_reads' HO_8.out).2.2)); (case side4 => exact (Kd.R_reads' HO_8.out).2.1); rintro e w' ⟨rfl, ⟨nd, rfl⟩⟩; refine ⟨_, rfl, ?_⟩))
                      go_meet
                      case rel => exact ⟨_, (true), (by first | rfl | (simp; done) | (simp [*]; done)), H', ⟨by have := HJ3.out; have := HJ7.out; have := HJ17.out; have := HJ40.out; have := HJ44.out; have := HJ52.out; have := HJ58.out; have := HJ70.out; have := HJ74.out; have := HJ78.out; first | omega | exact Nat.le_refl _⟩, ⟨by (try simp only [hl610001_58]); (try simp only [hl12_74]); (with_reducible repeat (first | apply Kd.R_alloc | apply Kd.R_drewN | apply Kd.R_drew)); exact Kd.R_mono HO_12.out (fun _ hk => trivial)⟩, ⟨by (try simp only [hl610001_58]); (try simp only [hl12_74]); (with_reducible repeat (first | apply Kd.R_alloc | apply Kd.R_drewN | apply Kd.R_drew)); exact Kd.R_mono HO_610001.out (fun _ hk => trivial)⟩, ⟨by (try simp only [hl610001_58]); (try simp only [hl12_74]); exact Bz BK592⟩, ⟨by (try simp only [hl610001_58]); (try simp only [hl12_74]); exact Bz BK609⟩, ⟨by exact Lz2 HB GE592 GE609⟩⟩
                     case rest =>
                      clear HC84
                      try clear c1
                      try clear c6
                      try clear c6b0
                      try clear c6b1
                      try clear c11
                      try clear c11b0
                      try clear c36
                      try clear c42
                      try clear c50
                      try clear c56
                      try clear c64
                      try clear c64b0
                      try clear c66
                      try clear c72
                      try clear c78
                      try clear c78b0
                      try clear c80
                      try clear c80b0
                      try clear c80b1
                      try clear c93
                      obtain ⟨kq, x113_83, rfl, HA, HJ83, HO_12, HO_610001, BK592, BK609, HB⟩ := hcut
                      cases kq with
                      | zero => exact absurd HA.out (by simp [laws_FnExactReducingScript.j10])
                      | succ kj83 =>
                       have H := HA.out
                       clear HA
                       simp only [laws_FnExactReducingScript.j10] at H
                       have HC98 := Aside0.mk H
                       clear H
                       go_upto_if 113 with (fail)
                       go_cut [] (fun wc => ∃ (kq : Nat), Aside0 (laws_FnExactReducingScript.j11 kq t633 t632 = some r) ∧ Aside0 (kq ≤ kj83) ∧ Aside0 (Kd.R (Kd.int .i64) 3 wc w.heap.size (fun _ => True) (.slice Ao76 t633.length co76) t633) ∧ Aside0 (Kd.R k70 70 wc w.heap.size (fun _ => True) (.slice Ao30 t628.length co30) t628) ∧ Aside0 (wc.heap[gb592]? = some (.cells #[.int .i64 a0_0, (.slice A0_1 l0_1.length c0_1)] 37 (0, 0))) ∧ Aside0 (wc.heap[gb609]? = some (.cells #[.int .i64 t605, (.slice Ao30 t628.length co30)] 25 (0, 0))) ∧ Aside0 (Below w.heap.size w wc))
                       case first =>
                        have H := HC98.out
                        clear HC98
                        by_cases c99 : x113_83 = true
                        ·subst c99
                         have H1 : (some false) = some r := by rw [if_pos rfl] at H; exact H
                         clear H
                         have H := H1
                         clear H1
                         obtain rfl := Option.some.inj H
                         go_wp2
                         go_ret
                         exact ⟨by first | rfl | (simp [errW_none, errW_some] <;> rfl) | (simp [*, errW_none, errW_some] <;> rfl), by exact Lz2 HB GE592 GE609⟩
                        replace c99 := Bool.eq_false_iff.mpr c99
                        subst c99
                        have H1 : (laws_FnExactReducingScript.j11 kj83 t633 t632) = some r := by rw [if_neg (show ¬ (false = true) by decide)] at H; exact H
                        clear H
                        have H := H1
                        clear H1
                        have H' := Aside0.mk H
                        clear H
                        go_wp2
                        go_meet
                        case rel => exact ⟨_, H', ⟨by have := HJ3.out; have := HJ7.out; have := HJ17.out; have := HJ40.out; have := HJ44.out; have := HJ52.out; have := HJ58.out; have := HJ70.out; have := HJ74.out; have := HJ78.out; have := HJ83.out; first | omega | exact Nat.le_refl _⟩, ⟨by (try simp only [hl610001_58]); (try simp only [hl12_74]); exact Rz HO_12⟩, ⟨by (try simp only [hl610001_58]); (try simp only [hl12_74]); exact Rz HO_610001⟩, ⟨by (try simp only [hl610001_58]); (try simp only [hl12_74]); exact Bz BK592⟩, ⟨by (try simp only [hl610001_58]); (try simp only [hl12_74]); exact Bz BK609⟩, ⟨by exact Lz2 HB GE592 GE609⟩⟩
                       case rest =>
                        clear HC98
                        try clear c1
                        try clear c6
                        try clear c6b0
                        try clear c6b1
                        try clear c11
                        try clear c11b0
                        try clear c36
                        try clear c42
                        try clear c50
                        try clear c56
                        try clear c64
                        try clear c64b0
                        try clear c66
                        try clear c72
                        try clear c78
                        try clear c78b0
                        try clear c80
                        try clear c80b0
                        try clear c80b1
                        try clear c93
                        try clear c99
                        obtain ⟨kq, HA, HJ97, HO_12, HO_610001, BK592, BK609, HB⟩ := hcut
                        cases kq with
                        | zero => exact absurd HA.out (by simp [laws_FnExactReducingScript.j11])
                        | succ kj97 =>
                         have H := HA.out
                         clear HA
                         simp only [laws_FnExactReducingScript.j11] at H
                         replace H := Option.bind_eq_some_iff.mp H
                         obtain ⟨t647, A1000, H⟩ := H
                         replace H : (if t647 < 0 then (some false) else (laws_FnExactReducingScript.j12 kj97 t632 t647)) = some r := H
                         have A100 := Aside0.mk A1000
                         clear A1000
                         have HC101 := Aside0.mk H
                         clear H
                         go_upto_if 118 with (first | ((with_reducible refine gate_callee (f := 32) rfl ?_); refine goesM_ (some 116) rfl rfl Try.func32 (by kernel_rfl) rfl #[.slice Ao76 t633.length co76, .int .i64 1] rfl ?_; (with_reducible refine (laws_heldIntS.calls kj97 _ _ t633 1 t647 _ ?side1 ?side2 A100.out).mono ?_); (case side1 => exact Cz ((Kd.R_reads' HO_12.out).2.2)); (case side2 => exact (Kd.R_reads' HO_12.out).2.1); rintro e w' ⟨rfl, ⟨nd, rfl⟩⟩; refine ⟨_, rfl, ?_⟩))
                         (try simp only [Act.put, List.setIfInBounds_toArray, List.set_cons_zero, List.set_cons_succ])
                         go_cut [] (fun wc => ∃ (kq : Nat), Aside0 (laws_FnExactReducingScript.j12 kq t632 t647 = some r) ∧ Aside0 (kq ≤ kj97) ∧ Aside0 (Kd.R k70 70 wc w.heap.size (fun _ => True) (.slice Ao30 t628.length co30) t628) ∧ Aside0 (wc.heap[gb592]? = some (.cells #[.int .i64 a0_0, (.slice A0_1 l0_1.length c0_1)] 37 (0, 0))) ∧ Aside0 (wc.heap[gb609]? = some (.cells #[.int .i64 t605, (.slice Ao30 t628.length co30)] 25 (0, 0))) ∧ Aside0 (Below w.heap.size w wc))
                         case first =>
                          have H := HC101.out
                          clear HC101
                          by_cases c102 : t647 < 0
                          ·rw [if_pos c102] at H
                           have c102b0 : decide (t647 < 0) = true := decide_eq_true c102
                           clear c102
                           (first | rw [c102b0] | (simp only [i64_w, i32_w]; rw [c102b0]) | skip)
                           obtain rfl := Option.some.inj H
                           go_wp2
                           go_ret
                           exact ⟨by first | rfl | (simp [errW_none, errW_some] <;> rfl) | (simp [*, errW_none, errW_some] <;> rfl), by exact Lz2 HB GE592 GE609⟩
                          rw [if_neg c102] at H
                          have c102b0 : decide (t647 < 0) = false := decide_eq_false c102
                          clear c102
                          (first | rw [c102b0] | (simp only [i64_w, i32_w]; rw [c102b0]) | skip)
                          have H' := Aside0.mk H
                          clear H
                          go_wp2
                          go_meet
                          case rel => exact ⟨_, H', ⟨by have := HJ3.out; have := HJ7.out; have := HJ17.out; have := HJ40.out; have := HJ44.out; have := HJ52.out; have := HJ58.out; have := HJ70.out; have := HJ74.out; have := HJ78.out; have := HJ83.out; have := HJ97.out; first | omega | exact Nat.le_refl _⟩, ⟨by (try simp only [hl610001_58]); (try simp only [hl12_74]); exact Rz HO_610001⟩, ⟨by (try simp only [hl610001_58]); (try simp only [hl12_74]); exact Bz BK592⟩, ⟨by (try simp only [hl610001_58]); (try simp only [hl12_74]); exact Bz BK609⟩, ⟨by exact Lz2 HB GE592 GE609⟩⟩
                         case rest =>
                          clear HC101
                          try clear c1
                          try clear c6
                          try clear c6b0
                          try clear c6b1
                          try clear c11
                          try clear c11b0
                          try clear c36
                          try clear c42
                          try clear c50
                          try clear c56
                          try clear c64
                          try clear c64b0
                          try clear c66
                          try clear c72
                          try clear c78
                          try clear c78b0
                          try clear c80
                          try clear c80b0
                          try clear c80b1
                          try clear c93
                          try clear c99
                          try clear c102
                          try clear c102b0
                          obtain ⟨kq, HA, HJ100, HO_610001, BK592, BK609, HB⟩ := hcut
                          cases kq with
                          | zero => exact absurd HA.out (by simp [laws_FnExactReducingScript.j12])
                          | succ kj100 =>
                           have H := HA.out
                           clear HA
                           simp only [laws_FnExactReducingScript.j12] at H
                           by_cases c103 : t647 = t632
                           ·rw [if_pos c103] at H
                            have c103b0 : (t647 == t632) = true := beq_iff_eq.mpr c103
                            have c103b1 : (t647 != t632) = false := bne_eq_false_iff_eq.mpr c103
                            clear c103
                            obtain rfl := Option.some.inj H
                            go_wp2
                            go_ret
                            exact ⟨by first | rfl | (simp [errW_none, errW_some] <;> rfl) | (simp [*, errW_none, errW_some] <;> rfl), by exact Lz2 HB GE592 GE609⟩
                           rw [if_neg c103] at H
                           have c103b0 : (t647 == t632) = false := beq_eq_false_iff_ne.mpr c103
                           have c103b1 : (t647 != t632) = true := bne_iff_ne.mpr c103
                           obtain rfl := Option.some.inj H
                           go_wp2
                           go_ret
                           exact ⟨by first | rfl | (simp [errW_none, errW_some] <;> rfl) | (simp [*, errW_none, errW_some] <;> rfl), by exact Lz2 HB GE592 GE609⟩
end Go.Proofs.Ytnebapnfkolflaa.P
end
section
namespace Go.Proofs.Ytnebapnfkolflaa.Pure
open Go.RowKit Go.Proofs.Ytnebapnfkolflaa.P Go.Proofs.YtnebapnfkolflaaW.PrintWords Go.Proofs.YtnebapnfkolflaaW.PrintLast Go.Proofs.YtnebapnfkolflaaW.PrintMore
def StatFnExactReducingScript : Prop := ∀ (a0_0 : Int) (l0_1 : List (S95)) (l1 : List (Int)) (a2 : Int), ((Lit.int .i64 a0_0).wf = true ∧ (l0_1.length ≤ maxLen ∧ ∀ x4 ∈ l0_1, (Lit.int .i64 x4.f0).wf = true ∧ (Lit.int .i64 x4.f1).wf = true)) → (l1.length ≤ maxLen ∧ ∀ x2 ∈ l1, (Lit.int .i64 x2).wf = true) → (Lit.int .i64 a2).wf = true → ∃ k, laws_FnExactReducingScript.f k a0_0 l0_1 l1 a2 = some true
end Go.Proofs.Ytnebapnfkolflaa.Pure
end
section
set_option linter.unusedVariables false
set_option linter.unusedSimpArgs false
namespace Go.Proofs.Ytnebapnfkolflaa.Pure
open Go.RowKit Go.Proofs.Ytnebapnfkolflaa.P Go.Proofs.YtnebapnfkolflaaW.PrintWords Go.Proofs.YtnebapnfkolflaaW.PrintLast Go.Proofs.YtnebapnfkolflaaW.PrintMore Go.Proofs.Ytnebapnfkolflaa.Base Go.Proofs.Ytnebapnfkolflaa.Reduce Go.Proofs.Ytnebapnfkolflaa.Loops Go.Proofs.Ytnebapnfkolflaa.Bits
theorem reducingScript_both (n : Int) (es : List S70) (d : List Int) (v : Int) (hl : es.length < 4611686018427387904) (hd : d.length < 4611686018427387904) :
    ∃ (r : List Int) (q : Bool), Ev (fun k => impl_ReducingScript.f k n es d v) (r, q) ∧ Ev (fun k => spec_ReducingScript.f k n es d v) (r, q) ∧ r.length ≤ 6 ∧ True := by
  obtain ⟨b1, b2, h1, h2, h3, h4⟩ := redOk n es d v hl hd
  simp only [impl_ReducingScript.f, spec_ReducingScript.f]
  cases b1 with
  | false => exact ⟨[], false, Ev.bind h1 (ev_iff (Ev.now _)), Ev.bind h3 (ev_iff (Ev.now _)), by simp, trivial⟩
  | true =>
    cases b2 with
    | false => exact ⟨[], false, Ev.bind h1 (ev_ift rfl (Ev.bind h2 (ev_iff (Ev.now _)))), Ev.bind h3 (ev_iff (Ev.now _)), by simp, trivial⟩
    | true =>
      obtain ⟨hD, m, u, rfl, rfl, S⟩ := h4 rfl
      obtain ⟨s, s1, s2, s3, s4, s5, s6, s7, s8⟩ := reduce_both S
      have f := edgesB_facts S.g.1
      exact ⟨s, true, Ev.bind h1 (ev_ift rfl (Ev.bind h2 (ev_ift rfl (Ev.bind s7 (Ev.now _))))), Ev.bind h3 (ev_ift rfl (Ev.bind s8 (Ev.now _))), by omega, trivial⟩
end Go.Proofs.Ytnebapnfkolflaa.Pure
end
section
set_option linter.unusedVariables false
set_option linter.unusedSimpArgs false
namespace Go.Proofs.Ytnebapnfkolflaa.Pure
open Go.RowKit Go.Proofs.Ytnebapnfkolflaa.P Go.Proofs.YtnebapnfkolflaaW.PrintWords Go.Proofs.YtnebapnfkolflaaW.PrintLast Go.Proofs.YtnebapnfkolflaaW.PrintMore Go.Proofs.Ytnebapnfkolflaa.Base Go.Proofs.Ytnebapnfkolflaa.Reduce Go.Proofs.Ytnebapnfkolflaa.Loops Go.Proofs.Ytnebapnfkolflaa.Bits
theorem FnExactReducingScript : StatFnExactReducingScript := by
  intro n l d1 i2 ⟨_, hl, _⟩ ⟨_, _⟩ _
  refine Ev.rounds (r := true) ?_
  unfold laws_FnExactReducingScript.f
  by_cases hd1 : (d1.length : Int) > 1048576
  · repeat (first
      | exact Ev.now _
      | dsimp only
      | with_reducible refine ev_ift (by first | rfl | omega) ?_
      | with_reducible refine ev_ifn (by omega) ?_
      | with_reducible refine ev_ifb ?_
      | with_reducible refine ev_ifnn ?_
      | with_reducible refine ev_iff ?_
      | (refine ev_succ ?_; simp only [if_true, laws_FnExactReducingScript.j0, laws_FnExactReducingScript.j1, laws_FnExactReducingScript.j2, laws_FnExactReducingScript.j3, laws_FnExactReducingScript.j4, laws_FnExactReducingScript.j5, laws_FnExactReducingScript.j6, laws_FnExactReducingScript.j7, laws_FnExactReducingScript.j8, laws_FnExactReducingScript.j9, laws_FnExactReducingScript.j10, laws_FnExactReducingScript.j11, laws_FnExactReducingScript.j12])
      )
  have hs := szGraph_eq n l hl 1048576 (by omega) (by omega)
  by_cases h : (l.length : Int) ≤ 1048576
  · have es : Ev (fun _ : Nat => laws_szGraph.f n l 1048576) (1048576 - (l.length : Int)) := ev_const fun _ => by rw [hs, if_pos h]
    have tg := toGraph_ev n l (by omega)
    have hm := map_cv_length l
    have hL : (l.map cvE).length < 4611686018427387904 := by omega
    have hLd1 : d1.length < 4611686018427387904 := by omega
    have td1 := toIntS_ev d1 (by omega)
    have ed1 := eqIntS_ev d1 hLd1
    obtain ⟨r, q, g1, g2, hr, _⟩ := reducingScript_both n (l.map cvE) d1 i2 hL hLd1
    have eg := eqGraph_ev n (l.map cvE) hL
    have er := eqIntS_ev r (by omega)
    obtain ⟨y, my⟩ := markGraph_ev n (l.map cvE) (by omega)
    have md1 := markIntS_ev (2 * ((l.map cvE).length : Int) + 1) (by omega) d1 (by omega)
    have mr := markIntS_ev 1 (by omega) r (by omega)
    have he := heldIntS_ev r.length (by omega)
    repeat (first
      | exact Ev.now _
      | dsimp only
      | (with_reducible refine Ev.bind es ?_) | (with_reducible refine Ev.bind tg ?_) | (with_reducible refine Ev.bind td1 ?_) | (with_reducible refine Ev.bind ed1 ?_) | (with_reducible refine Ev.bind g1 ?_) | (with_reducible refine Ev.bind g2 ?_) | (with_reducible refine Ev.bind eg ?_) | (with_reducible refine Ev.bind er ?_) | (with_reducible refine Ev.bind my ?_) | (with_reducible refine Ev.bind md1 ?_) | (with_reducible refine Ev.bind mr ?_) | (with_reducible refine Ev.bind he ?_)
      | with_reducible refine ev_ift (by first | rfl | omega) ?_
      | with_reducible refine ev_ifn (by omega) ?_
      | with_reducible refine ev_ifb ?_
      | with_reducible refine ev_ifnn ?_
      | with_reducible refine ev_iff ?_
      | (refine ev_succ ?_; simp only [if_true, laws_FnExactReducingScript.j0, laws_FnExactReducingScript.j1, laws_FnExactReducingScript.j2, laws_FnExactReducingScript.j3, laws_FnExactReducingScript.j4, laws_FnExactReducingScript.j5, laws_FnExactReducingScript.j6, laws_FnExactReducingScript.j7, laws_FnExactReducingScript.j8, laws_FnExactReducingScript.j9, laws_FnExactReducingScript.j10, laws_FnExactReducingScript.j11, laws_FnExactReducingScript.j12])
      )
  · have es : Ev (fun _ : Nat => laws_szGraph.f n l 1048576) (-1) := ev_const fun _ => by rw [hs, if_neg h]
    repeat (first
      | exact Ev.now _
      | dsimp only
      | (with_reducible refine Ev.bind es ?_)
      | with_reducible refine ev_ift (by first | rfl | omega) ?_
      | with_reducible refine ev_ifn (by omega) ?_
      | with_reducible refine ev_ifb ?_
      | with_reducible refine ev_ifnn ?_
      | with_reducible refine ev_iff ?_
      | (refine ev_succ ?_; simp only [if_true, laws_FnExactReducingScript.j0, laws_FnExactReducingScript.j1, laws_FnExactReducingScript.j2, laws_FnExactReducingScript.j3, laws_FnExactReducingScript.j4, laws_FnExactReducingScript.j5, laws_FnExactReducingScript.j6, laws_FnExactReducingScript.j7, laws_FnExactReducingScript.j8, laws_FnExactReducingScript.j9, laws_FnExactReducingScript.j10, laws_FnExactReducingScript.j11, laws_FnExactReducingScript.j12])
      )
end Go.Proofs.Ytnebapnfkolflaa.Pure
end
