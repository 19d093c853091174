/- Functions of the program as plain Lean functions and that the machine's calls answer as they do, the words of the print that these use, lemmas and plain proofs of laws. Put together by a program of this work that leaves out what nothing uses; Lean checks it. -/
import Derived.Test.YtnebapnfkolflaaGba58acd38e
import Derived.Test.YtnebapnfkolflaaGe1d48e96ce
import Derived.Test.YtnebapnfkolflaaGc3b3b645ff
import Derived.Test.YtnebapnfkolflaaG39afe4bd0c
import Derived.Test.YtnebapnfkolflaaG9659f13a83
section
namespace Go.Proofs.Ytnebapnfkolflaa.P
open Go.RowKit Go.Proofs.YtnebapnfkolflaaW.PrintWords Go.Proofs.YtnebapnfkolflaaW.PrintLast Go.Proofs.YtnebapnfkolflaaW.PrintMore
attribute [local go_sem] max2_int min2_int max_two min_two max_three min_three max_four min_four
set_option linter.unusedVariables false
set_option linter.unusedSimpArgs false
def impl_ChipsAt.f (k : Nat) (a0_0 : Int) (l0_1 : List (S70)) (l1 : List Int) (a2 : Int) : Option (Int × Bool) := (impl_ReducedOf.f k a0_0 l0_1 l1 a2).bind fun bt440 => (if bt440.2 = true then (if 0 ≤ a2 then (if a2 < (bt440.1.length : Int) then (some (rd bt440.1 a2, true)) else (none)) else (none)) else (some (0, false)))
set_option maxHeartbeats 8000000 in
set_option maxRecDepth 100000 in
theorem impl_ChipsAt.calls (k : Nat) (a0_0 : Int) (A0_1 : Option Addr) (c0_1 : Nat) (l0_1 : List (S70)) (A1 : Option Addr) (c1 : Nat) (l1 : List Int) (a2 : Int) (r1 : Int) (r2 : Bool) (w : World) (hr0_1 : Kd.C k70 w A0_1 l0_1.length l0_1) (hc0_1 : l0_1.length ≤ c0_1) (hr1 : Kd.C (Kd.int .i64) w A1 l1.length l1) (hc1 : l1.length ≤ c1) (h : impl_ChipsAt.f k a0_0 l0_1 l1 a2 = some (r1, r2)) :
  Calls Try.prog 38 #[.agg #[.int .i64 a0_0, .slice A0_1 l0_1.length c0_1], .slice A1 l1.length c1, .int .i64 a2] w fun e w' => e = .returned (.tuple #[.int .i64 r1, .bool r2]) ∧ Below w.heap.size w w' := by
 have hu25 := Try.underlying25
 have HR0_1 := Aside0.mk hr0_1
 have HC0_1 := Aside0.mk hc0_1
 clear hr0_1 hc0_1
 have HR1 := Aside0.mk hr1
 have HC1 := Aside0.mk hc1
 clear hr1 hc1
 have HB := Aside0.mk (Below.refl w.heap.size w)
 have H : ((impl_ReducedOf.f k a0_0 l0_1 l1 a2).bind fun bt440 => (if bt440.2 = true then (if 0 ≤ a2 then (if a2 < (bt440.1.length : Int) then (some (rd bt440.1 a2, true)) else (none)) else (none)) else (some (0, false)))) = some (r1, r2) := h
 clear h
 replace H := Option.bind_eq_some_iff.mp H
 obtain ⟨⟨t440, t443⟩, A40, H⟩ := H
 replace H : (if t443 = true then (if 0 ≤ a2 then (if a2 < (t440.length : Int) then (some (rd t440 a2, true)) else (none)) else (none)) else (some (0, false))) = some (r1, r2) := H
 have A4 := Aside0.mk A40
 clear A40
 by_cases c5 : t443 = true
 ·subst c5
  have H1 : (if 0 ≤ a2 then (if a2 < (t440.length : Int) then (some (rd t440 a2, true)) else (none)) else (none)) = some (r1, r2) := by rw [if_pos rfl] at H; exact H
  clear H
  have H := H1
  clear H1
  by_cases c6 : 0 ≤ a2
  ·rw [if_pos c6] at H
   have c6b0 : decide (0 ≤ a2) = true := decide_eq_true c6
   clear c6
   by_cases c7 : a2 < (t440.length : Int)
   ·rw [if_pos c7] at H
    have c7b0 : decide (a2 < (t440.length : Int)) = true := decide_eq_true c7
    clear c7
    simp only [Option.some.injEq, Prod.mk.injEq] at H
    obtain ⟨rfl, rfl⟩ := H
    go_enter Try.func38, Try.ntmps38
    go_wp2_with (first | ((with_reducible refine gate_dst (N := 3) rfl ?_); refine box_event ?hg (N := 3) ?hd (cs := #[.int .i64 a0_0, .slice A0_1 l0_1.length c0_1]) (t := 25) ?hr ?_; (case hd => rfl); (case hg => rfl); (case hr => first | (go_simp; done) | (go_simp; rfl)); intro gb439 hg w8 hbox hb; have BK439 := Aside0.mk (hbox); have GW439 := Aside0.mk ((by rw [hg]; exact (below_size (Lz HB)) : w.heap.size ≤ gb439)); have GE439 := Aside0.mk ((by rw [hg]; exact (below_size (Lz HB)) : w.heap.size ≤ gb439)); replace HB := Aside0.mk (below_step (Lz HB) hb); clear hb hbox hg; have hcz9_0 : w8.cell? ⟨gb439, 0, none⟩ = some (.int .i64 a0_0) := (blk_cell BK439.out 0).trans rfl; have hcz9_1 : w8.cell? ⟨gb439, 1, none⟩ = some (.slice A0_1 l0_1.length c0_1) := (blk_cell BK439.out 1).trans rfl; have hfz9_0 := blk_frozen BK439.out 0; have hfz9_1 := blk_frozen BK439.out 1) | ((with_reducible refine gate_callee (f := 42) rfl ?_); refine goesM_ (some 14) rfl rfl Try.func42 (by kernel_rfl) rfl #[.agg #[.int .i64 a0_0, .slice A0_1 l0_1.length c0_1], .slice A1 l1.length c1, .int .i64 a2] rfl ?_; (with_reducible refine (impl_ReducedOf.calls k a0_0 _ _ l0_1 _ _ l1 a2 t440 true _ ?side1 ?side2 ?side3 ?side4 A4.out).mono ?_); (case side1 => exact Cz ((Kd.C_below HR0_1.out HB.out))); (case side2 => exact HC0_1.out); (case side3 => exact Cz ((Kd.C_below HR1.out HB.out))); (case side4 => exact HC1.out); rintro e w10 ⟨v441, rfl, ho0, hb⟩; refine ⟨_, rfl, ?_⟩; have HO442 := Aside0.mk (Kd.R_lower ho0 (below_size (by exact Lz1 HB GE439))); replace BK439 := Aside0.mk (blk_below (g := gb439) (o := .cells #[.int .i64 a0_0, .slice A0_1 l0_1.length c0_1] 25 (0, 0)) (Bz BK439) hb); replace HB := Aside0.mk (below_step (by exact Lz1 HB GE439) hb); (try clear hb); (try clear ho0); obtain ⟨Ao11, co11, eo11⟩ := Kd.R_slice HO442.out; subst eo11; have p444 : 0 ≤ (a2 : Int) := of_decide_eq_true (by first | (with_reducible assumption) | assumption); have q444 : a2 < (t440.length : Int) := of_decide_eq_true (by first | (with_reducible assumption) | assumption); obtain ⟨ad444, e444, hx444_0⟩ := Kd.at_int (Kd.R_reads' HO442.out).2.2 a2 p444 q444; cases e444; replace p444 := eq_true p444; replace q444 := eq_true q444))
    go_ret2
    exact ⟨by first | rfl | (simp [errW_none, errW_some] <;> rfl) | (simp [*, errW_none, errW_some] <;> rfl), by exact Lz1 HB GE439⟩
   rw [if_neg c7] at H
   exact absurd H (by simp)
  rw [if_neg c6] at H
  exact absurd H (by simp)
 replace c5 := Bool.eq_false_iff.mpr c5
 subst c5
 have H1 : (some (0, false)) = some (r1, r2) := by rw [if_neg (show ¬ (false = true) by decide)] at H; exact H
 clear H
 have H := H1
 clear H1
 simp only [Option.some.injEq, Prod.mk.injEq] at H
 obtain ⟨rfl, rfl⟩ := H
 go_enter Try.func38, Try.ntmps38
 go_wp2_with (first | ((with_reducible refine gate_dst (N := 3) rfl ?_); refine box_event ?hg (N := 3) ?hd (cs := #[.int .i64 a0_0, .slice A0_1 l0_1.length c0_1]) (t := 25) ?hr ?_; (case hd => rfl); (case hg => rfl); (case hr => first | (go_simp; done) | (go_simp; rfl)); intro gb439 hg w12 hbox hb; have BK439 := Aside0.mk (hbox); have GW439 := Aside0.mk ((by rw [hg]; exact (below_size (Lz HB)) : w.heap.size ≤ gb439)); have GE439 := Aside0.mk ((by rw [hg]; exact (below_size (Lz HB)) : w.heap.size ≤ gb439)); replace HB := Aside0.mk (below_step (Lz HB) hb); clear hb hbox hg; have hcz13_0 : w12.cell? ⟨gb439, 0, none⟩ = some (.int .i64 a0_0) := (blk_cell BK439.out 0).trans rfl; have hcz13_1 : w12.cell? ⟨gb439, 1, none⟩ = some (.slice A0_1 l0_1.length c0_1) := (blk_cell BK439.out 1).trans rfl; have hfz13_0 := blk_frozen BK439.out 0; have hfz13_1 := blk_frozen BK439.out 1) | ((with_reducible refine gate_callee (f := 42) rfl ?_); refine goesM_ (some 14) rfl rfl Try.func42 (by kernel_rfl) rfl #[.agg #[.int .i64 a0_0, .slice A0_1 l0_1.length c0_1], .slice A1 l1.length c1, .int .i64 a2] rfl ?_; (with_reducible refine (impl_ReducedOf.calls k a0_0 _ _ l0_1 _ _ l1 a2 t440 false _ ?side1 ?side2 ?side3 ?side4 A4.out).mono ?_); (case side1 => exact Cz ((Kd.C_below HR0_1.out HB.out))); (case side2 => exact HC0_1.out); (case side3 => exact Cz ((Kd.C_below HR1.out HB.out))); (case side4 => exact HC1.out); rintro e w14 ⟨v441, rfl, ho0, hb⟩; refine ⟨_, rfl, ?_⟩; have HO442 := Aside0.mk (Kd.R_lower ho0 (below_size (by exact Lz1 HB GE439))); replace BK439 := Aside0.mk (blk_below (g := gb439) (o := .cells #[.int .i64 a0_0, .slice A0_1 l0_1.length c0_1] 25 (0, 0)) (Bz BK439) hb); replace HB := Aside0.mk (below_step (by exact Lz1 HB GE439) hb); (try clear hb); (try clear ho0)))
 go_ret2
 exact ⟨by first | rfl | (simp [errW_none, errW_some] <;> rfl) | (simp [*, errW_none, errW_some] <;> rfl), by exact Lz1 HB GE439⟩
end Go.Proofs.Ytnebapnfkolflaa.P
end
section
namespace Go.Proofs.Ytnebapnfkolflaa.P
open Go.RowKit Go.Proofs.YtnebapnfkolflaaW.PrintWords Go.Proofs.YtnebapnfkolflaaW.PrintLast Go.Proofs.YtnebapnfkolflaaW.PrintMore
attribute [local go_sem] max2_int min2_int max_two min_two max_three min_three max_four min_four
set_option linter.unusedVariables false
set_option linter.unusedSimpArgs false
mutual
def laws_FnExactChipsAt.j0 : Nat → List Int → Int → Int → List (S95) → Option (Bool)
 | 0, _, _, _, _ => none
 | k + 1, x1, x2, x446000, x446001 => (laws_szGraph.f x446000 x446001 1048576).bind fun t446 => (if t446 < 0 then (some true) else (laws_FnExactChipsAt.j1 k x1 x2 x446000 x446001))
def laws_FnExactChipsAt.j1 : Nat → List Int → Int → Int → List (S95) → Option (Bool)
 | 0, _, _, _, _ => none
 | k + 1, x1, x2, x446000, x446001 => (laws_toGraph.f k x446000 x446001).bind fun bt447 => ((laws_toIntS.f k x1).bind fun t451 => ((spec_ChipsAt.f k bt447.1 bt447.2 t451 x2).bind fun bt454 => ((laws_toGraph.f k x446000 x446001).bind fun bt456 => ((laws_toIntS.f k x1).bind fun t461 => ((impl_ChipsAt.f k bt456.1 bt456.2 t461 x2).bind fun bt464 => (if bt464.1 = bt454.1 then (laws_FnExactChipsAt.j2 k x1 t461 (bt464.2 != bt454.2) x446000 x446001 bt456.1 bt456.2) else (laws_FnExactChipsAt.j2 k x1 t461 true x446000 x446001 bt456.1 bt456.2)))))))
def laws_FnExactChipsAt.j2 : Nat → List Int → List Int → Bool → Int → List (S95) → Int → List (S70) → Option (Bool)
 | 0, _, _, _, _, _, _, _ => none
 | k + 1, x1, x11, x49, x446000, x446001, x461000, x461001 => if x49 = true then (some false) else (laws_FnExactChipsAt.j3 k x1 x11 x446000 x446001 x461000 x461001)
def laws_FnExactChipsAt.j3 : Nat → List Int → List Int → Int → List (S95) → Int → List (S70) → Option (Bool)
 | 0, _, _, _, _, _, _ => none
 | k + 1, x1, x11, x446000, x446001, x461000, x461001 => (laws_toGraph.f k x446000 x446001).bind fun bt466 => ((laws_eqGraph.f k x461000 x461001 bt466.1 bt466.2).bind fun t470 => (if t470 = true then (laws_FnExactChipsAt.j4 k x1 x11) else (some false)))
def laws_FnExactChipsAt.j4 : Nat → List Int → List Int → Option (Bool)
 | 0, _, _ => none
 | k + 1, x1, x11 => (laws_toIntS.f k x1).bind fun t471 => ((laws_eqIntS.f k x11 t471).bind fun t474 => (if t474 = true then (some true) else (some false)))
end
def laws_FnExactChipsAt.f (k : Nat) (a0_0 : Int) (l0_1 : List (S95)) (l1 : List Int) (a2 : Int) : Option (Bool) := if (l1.length : Int) > 1048576 then (some true) else (laws_FnExactChipsAt.j0 k l1 a2 a0_0 l0_1)
set_option maxHeartbeats 8000000 in
set_option maxRecDepth 100000 in
theorem laws_FnExactChipsAt.calls (k : Nat) (a0_0 : Int) (A0_1 : Option Addr) (c0_1 : Nat) (l0_1 : List (S95)) (A1 : Option Addr) (c1 : Nat) (l1 : List Int) (a2 : Int) (r : Bool) (w : World) (hr0_1 : Kd.C k95 w A0_1 l0_1.length l0_1) (hc0_1 : l0_1.length ≤ c0_1) (hr1 : Kd.C (Kd.int .i64) w A1 l1.length l1) (hc1 : l1.length ≤ c1) (h : laws_FnExactChipsAt.f k a0_0 l0_1 l1 a2 = some r) :
  Calls Try.prog 8 #[.agg #[.int .i64 a0_0, .slice A0_1 l0_1.length c0_1], .slice A1 l1.length c1, .int .i64 a2] w fun e w' => e = .returned (.bool r) ∧ Below w.heap.size w w' := by
 have hu37 := Try.underlying37
 have hu25 := Try.underlying25
 have HR0_1 := Aside0.mk hr0_1
 have HC0_1 := Aside0.mk hc0_1
 clear hr0_1 hc0_1
 have HR1 := Aside0.mk hr1
 have HC1 := Aside0.mk hc1
 clear hr1 hc1
 have HB := Aside0.mk (Below.refl w.heap.size w)
 have H : (if (l1.length : Int) > 1048576 then (some true) else (laws_FnExactChipsAt.j0 k l1 a2 a0_0 l0_1)) = some r := h
 clear h
 have HC4 := Aside0.mk H
 clear H
 go_enter Try.func8, Try.ntmps8
 go_upto_if 16 with (first | ((with_reducible refine gate_dst (N := 3) rfl ?_); refine box_event ?hg (N := 3) ?hd (cs := #[.int .i64 a0_0, .slice A0_1 l0_1.length c0_1]) (t := 37) ?hr ?_; (case hd => rfl); (case hg => rfl); (case hr => first | (go_simp; done) | (go_simp; rfl)); intro gb445 hg w5 hbox hb; have BK445 := Aside0.mk (hbox); have GW445 := Aside0.mk ((by rw [hg]; exact (below_size (Lz HB)) : w.heap.size ≤ gb445)); have GE445 := Aside0.mk ((by rw [hg]; exact (below_size (Lz HB)) : w.heap.size ≤ gb445)); replace HB := Aside0.mk (below_step (Lz HB) hb); clear hb hbox hg))
 (try simp only [Act.put, List.setIfInBounds_toArray, List.set_cons_zero, List.set_cons_succ])
 go_cut [] (fun wc => ∃ (kq : Nat), Aside0 (laws_FnExactChipsAt.j0 kq l1 a2 a0_0 l0_1 = some r) ∧ Aside0 (kq ≤ k) ∧ Aside0 (wc.heap[gb445]? = some (.cells #[.int .i64 a0_0, (.slice A0_1 l0_1.length c0_1)] 37 (0, 0))) ∧ Aside0 (Below w.heap.size w wc))
 case first =>
  have H := HC4.out
  clear HC4
  by_cases c6 : (l1.length : Int) > 1048576
  ·rw [if_pos c6] at H
   have c6b0 : decide (1048576 < (l1.length : Int)) = true := decide_eq_true c6
   have c6b1 : decide (1048576 < l1.length) = true := decide_eq_true (by omega)
   clear c6
   (first | rw [c6b0] | (simp only [i64_w, i32_w]; rw [c6b0]) | skip)
   obtain rfl := Option.some.inj H
   go_wp2
   go_ret
   exact ⟨by first | rfl | (simp [errW_none, errW_some] <;> rfl) | (simp [*, errW_none, errW_some] <;> rfl), by exact Lz1 HB GE445⟩
  rw [if_neg c6] at H
  have c6b0 : decide (1048576 < (l1.length : Int)) = false := decide_eq_false c6
  have c6b1 : decide (1048576 < l1.length) = false := decide_eq_false (by omega)
  clear c6
  (first | rw [c6b0] | (simp only [i64_w, i32_w]; rw [c6b0]) | skip)
  have H' := Aside0.mk H
  clear H
  go_wp2
  go_meet
  case rel => exact ⟨_, H', ⟨by first | omega | exact Nat.le_refl _⟩, ⟨by exact Bz BK445⟩, ⟨by exact Lz1 HB GE445⟩⟩
 case rest =>
  clear HC4
  try clear c1
  try clear c6
  try clear c6b0
  try clear c6b1
  obtain ⟨kq, HA, HJ3, BK445, HB⟩ := hcut
  cases kq with
  | zero => exact absurd HA.out (by simp [laws_FnExactChipsAt.j0])
  | succ kj3 =>
   have H := HA.out
   clear HA
   simp only [laws_FnExactChipsAt.j0] at H
   replace H := Option.bind_eq_some_iff.mp H
   obtain ⟨t446, A70, H⟩ := H
   replace H : (if t446 < 0 then (some true) else (laws_FnExactChipsAt.j1 kj3 l1 a2 a0_0 l0_1)) = some r := H
   have A7 := Aside0.mk A70
   clear A70
   have HC8 := Aside0.mk H
   clear H
   have hcz9_0 : wc.cell? ⟨gb445, 0, none⟩ = some (.int .i64 a0_0) := (blk_cell BK445.out 0).trans rfl
   have hcz9_1 : wc.cell? ⟨gb445, 1, none⟩ = some (.slice A0_1 l0_1.length c0_1) := (blk_cell BK445.out 1).trans rfl
   have hfz9_0 := blk_frozen BK445.out 0
   have hfz9_1 := blk_frozen BK445.out 1
   go_upto_if 21 with (first | ((with_reducible refine gate_callee (f := 23) rfl ?_); refine goesM_ (some 19) rfl rfl Try.func23 (by kernel_rfl) rfl #[.agg #[.int .i64 a0_0, .slice A0_1 l0_1.length c0_1], .int .i64 1048576] rfl ?_; (with_reducible refine (laws_szGraph.calls a0_0 _ _ l0_1 1048576 t446 _ ?side1 ?side2 A7.out).mono ?_); (case side1 => exact Cz ((Kd.C_below HR0_1.out HB.out))); (case side2 => exact HC0_1.out); rintro e w10 ⟨rfl, hb⟩; refine ⟨_, rfl, ?_⟩; replace BK445 := Aside0.mk (blk_below (g := gb445) (o := .cells #[.int .i64 a0_0, .slice A0_1 l0_1.length c0_1] 37 (0, 0)) (Bz BK445) hb); replace HB := Aside0.mk (below_step (by exact Lz1 HB GE445) hb); (try clear hb); (try clear hb2); (try clear hk); (try clear hi)))
   (try simp only [Act.put, List.setIfInBounds_toArray, List.set_cons_zero, List.set_cons_succ])
   go_cut [] (fun wc => ∃ (kq : Nat), Aside0 (laws_FnExactChipsAt.j1 kq l1 a2 a0_0 l0_1 = some r) ∧ Aside0 (kq ≤ kj3) ∧ Aside0 (wc.heap[gb445]? = some (.cells #[.int .i64 a0_0, (.slice A0_1 l0_1.length c0_1)] 37 (0, 0))) ∧ Aside0 (Below w.heap.size w wc))
   case first =>
    have H := HC8.out
    clear HC8
    by_cases c11 : t446 < 0
    ·rw [if_pos c11] at H
     have c11b0 : decide (t446 < 0) = true := decide_eq_true c11
     clear c11
     (first | rw [c11b0] | (simp only [i64_w, i32_w]; rw [c11b0]) | skip)
     obtain rfl := Option.some.inj H
     go_wp2
     go_ret
     exact ⟨by first | rfl | (simp [errW_none, errW_some] <;> rfl) | (simp [*, errW_none, errW_some] <;> rfl), by exact Lz1 HB GE445⟩
    rw [if_neg c11] at H
    have c11b0 : decide (t446 < 0) = false := decide_eq_false c11
    clear c11
    (first | rw [c11b0] | (simp only [i64_w, i32_w]; rw [c11b0]) | skip)
    have H' := Aside0.mk H
    clear H
    go_wp2
    go_meet
    case rel => exact ⟨_, H', ⟨by have := HJ3.out; first | omega | exact Nat.le_refl _⟩, ⟨by exact Bz BK445⟩, ⟨by exact Lz1 HB GE445⟩⟩
   case rest =>
    clear HC8
    try clear c1
    try clear c6
    try clear c6b0
    try clear c6b1
    try clear c11
    try clear c11b0
    obtain ⟨kq, HA, HJ7, BK445, HB⟩ := hcut
    cases kq with
    | zero => exact absurd HA.out (by simp [laws_FnExactChipsAt.j1])
    | succ kj7 =>
     have H := HA.out
     clear HA
     simp only [laws_FnExactChipsAt.j1] at H
     replace H := Option.bind_eq_some_iff.mp H
     obtain ⟨⟨t447, t448⟩, A120, H⟩ := H
     replace H : ((laws_toIntS.f kj7 l1).bind fun t451 => ((spec_ChipsAt.f kj7 t447 t448 t451 a2).bind fun bt454 => ((laws_toGraph.f kj7 a0_0 l0_1).bind fun bt456 => ((laws_toIntS.f kj7 l1).bind fun t461 => ((impl_ChipsAt.f kj7 bt456.1 bt456.2 t461 a2).bind fun bt464 => (if bt464.1 = bt454.1 then (laws_FnExactChipsAt.j2 kj7 l1 t461 (bt464.2 != bt454.2) a0_0 l0_1 bt456.1 bt456.2) else (laws_FnExactChipsAt.j2 kj7 l1 t461 true a0_0 l0_1 bt456.1 bt456.2))))))) = some r := H
     have A12 := Aside0.mk A120
     clear A120
     replace H := Option.bind_eq_some_iff.mp H
     obtain ⟨t451, A130, H⟩ := H
     replace H : ((spec_ChipsAt.f kj7 t447 t448 t451 a2).bind fun bt454 => ((laws_toGraph.f kj7 a0_0 l0_1).bind fun bt456 => ((laws_toIntS.f kj7 l1).bind fun t461 => ((impl_ChipsAt.f kj7 bt456.1 bt456.2 t461 a2).bind fun bt464 => (if bt464.1 = bt454.1 then (laws_FnExactChipsAt.j2 kj7 l1 t461 (bt464.2 != bt454.2) a0_0 l0_1 bt456.1 bt456.2) else (laws_FnExactChipsAt.j2 kj7 l1 t461 true a0_0 l0_1 bt456.1 bt456.2)))))) = some r := H
     have A13 := Aside0.mk A130
     clear A130
     replace H := Option.bind_eq_some_iff.mp H
     obtain ⟨⟨t454, t455⟩, A140, H⟩ := H
     replace H : ((laws_toGraph.f kj7 a0_0 l0_1).bind fun bt456 => ((laws_toIntS.f kj7 l1).bind fun t461 => ((impl_ChipsAt.f kj7 bt456.1 bt456.2 t461 a2).bind fun bt464 => (if bt464.1 = t454 then (laws_FnExactChipsAt.j2 kj7 l1 t461 (bt464.2 != t455) a0_0 l0_1 bt456.1 bt456.2) else (laws_FnExactChipsAt.j2 kj7 l1 t461 true a0_0 l0_1 bt456.1 bt456.2))))) = some r := H
     have A14 := Aside0.mk A140
     clear A140
     replace H := Option.bind_eq_some_iff.mp H
     obtain ⟨⟨t456, t457⟩, A150, H⟩ := H
     replace H : ((laws_toIntS.f kj7 l1).bind fun t461 => ((impl_ChipsAt.f kj7 t456 t457 t461 a2).bind fun bt464 => (if bt464.1 = t454 then (laws_FnExactChipsAt.j2 kj7 l1 t461 (bt464.2 != t455) a0_0 l0_1 t456 t457) else (laws_FnExactChipsAt.j2 kj7 l1 t461 true a0_0 l0_1 t456 t457)))) = some r := H
     have A15 := Aside0.mk A150
     clear A150
     replace H := Option.bind_eq_some_iff.mp H
     obtain ⟨t461, A160, H⟩ := H
     replace H : ((impl_ChipsAt.f kj7 t456 t457 t461 a2).bind fun bt464 => (if bt464.1 = t454 then (laws_FnExactChipsAt.j2 kj7 l1 t461 (bt464.2 != t455) a0_0 l0_1 t456 t457) else (laws_FnExactChipsAt.j2 kj7 l1 t461 true a0_0 l0_1 t456 t457))) = some r := H
     have A16 := Aside0.mk A160
     clear A160
     replace H := Option.bind_eq_some_iff.mp H
     obtain ⟨⟨t464, t465⟩, A170, H⟩ := H
     replace H : (if t464 = t454 then (laws_FnExactChipsAt.j2 kj7 l1 t461 (t465 != t455) a0_0 l0_1 t456 t457) else (laws_FnExactChipsAt.j2 kj7 l1 t461 true a0_0 l0_1 t456 t457)) = some r := H
     have A17 := Aside0.mk A170
     clear A170
     have HC18 := Aside0.mk H
     clear H
     have hcz19_0 : wc.cell? ⟨gb445, 0, none⟩ = some (.int .i64 a0_0) := (blk_cell BK445.out 0).trans rfl
     have hcz19_1 : wc.cell? ⟨gb445, 1, none⟩ = some (.slice A0_1 l0_1.length c0_1) := (blk_cell BK445.out 1).trans rfl
     have hfz19_0 := blk_frozen BK445.out 0
     have hfz19_1 := blk_frozen BK445.out 1
     go_upto_region 11 with (first | ((with_reducible refine gate_callee (f := 25) rfl ?_); refine goesM_ (some 24) rfl rfl Try.func25 (by kernel_rfl) rfl #[.agg #[.int .i64 a0_0, .slice A0_1 l0_1.length c0_1]] rfl ?_; (with_reducible refine (laws_toGraph.calls kj7 a0_0 _ _ l0_1 t447 t448 _ ?side1 ?side2 A12.out).mono ?_); (case side1 => exact Cz ((Kd.C_below HR0_1.out HB.out))); (case side2 => exact HC0_1.out); rintro e w20 ⟨v449, rfl, ho0, hb⟩; refine ⟨_, rfl, ?_⟩; have HO450 := Aside0.mk (Kd.R_lower ho0 (below_size (by exact Lz1 HB GE445))); replace BK445 := Aside0.mk (blk_below (g := gb445) (o := .cells #[.int .i64 a0_0, .slice A0_1 l0_1.length c0_1] 37 (0, 0)) (Bz BK445) hb); replace HB := Aside0.mk (below_step (by exact Lz1 HB GE445) hb); (try clear hb); (try clear ho0)) | ((with_reducible refine gate_callee (f := 26) rfl ?_); refine goesM_ (some 26) rfl rfl Try.func26 (by kernel_rfl) rfl #[.slice A1 l1.length c1] rfl ?_; (with_reducible refine (laws_toIntS.calls kj7 _ _ l1 t451 _ ?side1 ?side2 A13.out).mono ?_); (case side1 => exact Cz ((Kd.C_below HR1.out HB.out))); (case side2 => exact HC1.out); rintro e w21 ⟨v452, rfl, ho0, hb⟩; refine ⟨_, rfl, ?_⟩; replace HO450 := Aside0.mk (Kd.R_below (Rz HO450) hb); have HO453 := Aside0.mk (Kd.R_lower ho0 (below_size (by exact Lz1 HB GE445))); replace BK445 := Aside0.mk (blk_below (g := gb445) (o := .cells #[.int .i64 a0_0, .slice A0_1 l0_1.length c0_1] 37 (0, 0)) (Bz BK445) hb); replace HB := Aside0.mk (below_step (by exact Lz1 HB GE445) hb); (try clear hb); (try clear ho0); obtain ⟨Ao22, co22, eo22⟩ := Kd.R_slice HO450.out; subst eo22; obtain ⟨Ao23, co23, eo23⟩ := Kd.R_slice HO453.out; subst eo23) | ((with_reducible refine gate_callee (f := 37) rfl ?_); refine goesM_ (some 28) rfl rfl Try.func37 (by kernel_rfl) rfl #[.agg #[.int .i64 t447, .slice Ao22 t448.length co22], .slice Ao23 t451.length co23, .int .i64 a2] rfl ?_; (with_reducible refine (spec_ChipsAt.calls kj7 t447 _ _ t448 _ _ t451 a2 t454 t455 _ ?side1 ?side2 ?side3 ?side4 A14.out).mono ?_); (case side1 => exact Cz ((Kd.R_reads' HO450.out).2.2)); (case side2 => exact (Kd.R_reads' HO450.out).2.1); (case side3 => exact Cz ((Kd.R_reads' HO453.out).2.2)); (case side4 => exact (Kd.R_reads' HO453.out).2.1); rintro e w24 ⟨rfl, hb⟩; refine ⟨_, rfl, ?_⟩; replace HO450 := Aside0.mk (Kd.R_below (Rz HO450) hb); replace HO453 := Aside0.mk (Kd.R_below (Rz HO453) hb); replace BK445 := Aside0.mk (blk_below (g := gb445) (o := .cells #[.int .i64 a0_0, .slice A0_1 l0_1.length c0_1] 37 (0, 0)) (Bz BK445) hb); replace HB := Aside0.mk (below_step (by exact Lz1 HB GE445) hb); (try clear hb); (try clear hb2); (try clear hk); (try clear hi); have hcz25_0 : w24.cell? ⟨gb445, 0, none⟩ = some (.int .i64 a0_0) := (blk_cell BK445.out 0).trans rfl; have hcz25_1 : w24.cell? ⟨gb445, 1, none⟩ = some (.slice A0_1 l0_1.length c0_1) := (blk_cell BK445.out 1).trans rfl; have hfz25_0 := blk_frozen BK445.out 0; have hfz25_1 := blk_frozen BK445.out 1) | ((with_reducible refine gate_callee (f := 25) rfl ?_); refine goesM_ (some 32) rfl rfl Try.func25 (by kernel_rfl) rfl #[.agg #[.int .i64 a0_0, .slice A0_1 l0_1.length c0_1]] rfl ?_; (with_reducible refine (laws_toGraph.calls kj7 a0_0 _ _ l0_1 t456 t457 _ ?side1 ?side2 A15.out).mono ?_); (case side1 => exact Cz ((Kd.C_below HR0_1.out HB.out))); (case side2 => exact HC0_1.out); rintro e w26 ⟨v458, rfl, ho0, hb⟩; refine ⟨_, rfl, ?_⟩; replace HO453 := Aside0.mk (Kd.R_below (Rz HO453) hb); have HO459 := Aside0.mk (Kd.R_lower (Kd.R_new' ho0 (Kd.R_lt (Rz HO450))) (below_size (by exact Lz1 HB GE445))); replace HO450 := Aside0.mk (Kd.R_elder' (Rz HO450) (Kd.R_base ho0) hb); replace BK445 := Aside0.mk (blk_below (g := gb445) (o := .cells #[.int .i64 a0_0, .slice A0_1 l0_1.length c0_1] 37 (0, 0)) (Bz BK445) hb); replace HB := Aside0.mk (below_step (by exact Lz1 HB GE445) hb); (try clear hb); (try clear ho0)) | ((with_reducible refine gate_dst (N := 10) rfl ?_); refine box_event ?hg (N := 10) ?hd (cs := #[.int .i64 0, .slice none 0 0]) (t := 25) ?hr ?_; (case hd => rfl); (case hg => rfl); (case hr => first | (go_simp; done) | (go_simp; rfl)); intro gb460 hg w27 hbox hb; replace HO450 := Aside0.mk (Kd.R_below (Rz HO450) hb); replace HO453 := Aside0.mk (Kd.R_below (Rz HO453) hb); replace HO459 := Aside0.mk (Kd.R_below (Rz HO459) hb); have BK460 := Aside0.mk (hbox); have GW460 := Aside0.mk ((by rw [hg]; exact (below_size (by exact Lz1 HB GE445)) : w.heap.size ≤ gb460)); have GE460 := Aside0.mk ((by rw [hg]; exact (below_size (by exact Lz1 HB GE445)) : w.heap.size ≤ gb460)); replace HB := Aside0.mk (below_step (by exact Lz1 HB GE445) hb); have NB445_460 := Aside0.mk ((by rw [hg]; exact Nat.ne_of_lt (blk_lt (g := gb445) (o := .cells #[.int .i64 a0_0, .slice A0_1 l0_1.length c0_1] 37 (0, 0)) (Bz BK445)) : gb445 ≠ gb460)); have NB460_445 := Aside0.mk ((by rw [hg]; exact Nat.ne_of_gt (blk_lt (g := gb445) (o := .cells #[.int .i64 a0_0, .slice A0_1 l0_1.length c0_1] 37 (0, 0)) (Bz BK445)) : gb460 ≠ gb445)); replace BK445 := Aside0.mk (blk_below (g := gb445) (o := .cells #[.int .i64 a0_0, .slice A0_1 l0_1.length c0_1] 37 (0, 0)) (Bz BK445) hb); clear hb hbox hg; have hnb28 := NB460_445.out; have hnc28 := NB445_460.out; have hcz29_0 : w27.cell? ⟨gb460, 0, none⟩ = some (.int .i64 0) := (blk_cell BK460.out 0).trans rfl; have hcz29_1 : w27.cell? ⟨gb460, 1, none⟩ = some (.slice none 0 0) := (blk_cell BK460.out 1).trans rfl; have hfz29_0 := blk_frozen BK460.out 0; have hfz29_1 := blk_frozen BK460.out 1; obtain ⟨Ao30, co30, eo30⟩ := Kd.R_slice HO459.out; subst eo30) | ((with_reducible refine gate_callee (f := 26) rfl ?_); refine goesM_ (some 34) rfl rfl Try.func26 (by kernel_rfl) rfl #[.slice A1 l1.length c1] rfl ?_; (with_reducible refine (laws_toIntS.calls kj7 _ _ l1 t461 _ ?side1 ?side2 A16.out).mono ?_); (case side1 => exact Kd.C_below HR1.out (by exact Lz2 HB GE445 GE460)); (case side2 => exact HC1.out); rintro e w31 ⟨v462, rfl, ho0, hb⟩; refine ⟨_, rfl, ?_⟩; replace HO450 := Aside0.mk (Kd.R_below (by (with_reducible repeat (first | apply Kd.R_alloc | apply Kd.R_drewN | apply Kd.R_drew)); exact (Kd.R_mono (Kd.R_far (p := ⟨gb460, 1, none⟩) (Kd.R_far (p := ⟨gb460, 0, none⟩) (Kd.R_types HO450.out BK460.out (by decide)) (fun _ hk => hk.2) (.int .i64 t456)) (fun _ hk => hk.2) (.slice Ao30 t457.length co30)) (fun _ h_ => h_.1))) hb); replace HO459 := Aside0.mk (Kd.R_below (by (with_reducible repeat (first | apply Kd.R_alloc | apply Kd.R_drewN | apply Kd.R_drew)); exact (Kd.R_mono (Kd.R_far (p := ⟨gb460, 1, none⟩) (Kd.R_far (p := ⟨gb460, 0, none⟩) (Kd.R_types HO459.out BK460.out (by decide)) (fun _ hk => hk.2) (.int .i64 t456)) (fun _ hk => hk.2) (.slice Ao30 t457.length co30)) (fun _ h_ => h_.1))) hb); have HO463 := Aside0.mk (Kd.R_lower (Kd.R_new' ho0 (Kd.R_lt (by (with_reducible repeat (first | apply Kd.R_alloc | apply Kd.R_drewN | apply Kd.R_drew)); exact (Kd.R_mono (Kd.R_far (p := ⟨gb460, 1, none⟩) (Kd.R_far (p := ⟨gb460, 0, none⟩) (Kd.R_types HO453.out BK460.out (by decide)) (fun _ hk => hk.2) (.int .i64 t456)) (fun _ hk => hk.2) (.slice Ao30 t457.length co30)) (fun _ h_ => h_.1))))) (below_size (by exact Lz2 HB GE445 GE460))); replace HO453 := Aside0.mk (Kd.R_elder' (by (with_reducible repeat (first | apply Kd.R_alloc | apply Kd.R_drewN | apply Kd.R_drew)); exact (Kd.R_mono (Kd.R_far (p := ⟨gb460, 1, none⟩) (Kd.R_far (p := ⟨gb460, 0, none⟩) (Kd.R_types HO453.out BK460.out (by decide)) (fun _ hk => hk.2) (.int .i64 t456)) (fun _ hk => hk.2) (.slice Ao30 t457.length co30)) (fun _ h_ => h_.1))) (Kd.R_base ho0) hb); replace BK445 := Aside0.mk (blk_below (g := gb445) (o := .cells #[.int .i64 a0_0, .slice A0_1 l0_1.length c0_1] 37 (0, 0)) (by (with_reducible repeat (first | refine blk_drewN ?_ _ | refine blk_drew ?_ | refine blk_alloc ?_ _)); refine blk_far ?_ NB445_460.out _; (with_reducible repeat (first | refine blk_drewN ?_ _ | refine blk_drew ?_ | refine blk_alloc ?_ _)); refine blk_far ?_ NB445_460.out _; exact Bz BK445) hb); replace BK460 := Aside0.mk (blk_below (g := gb460) (o := .cells #[.int .i64 t456, .slice Ao30 t457.length co30] 25 (0, 0)) (by (with_reducible repeat (first | refine blk_drewN ?_ _ | refine blk_drew ?_ | refine blk_alloc ?_ _)); refine blk_put (cs := #[.int .i64 t456, .slice none 0 0]) ?_ 1 _ rfl; (with_reducible repeat (first | refine blk_drewN ?_ _ | refine blk_drew ?_ | refine blk_alloc ?_ _)); refine blk_put (cs := #[.int .i64 0, .slice none 0 0]) ?_ 0 _ rfl; exact Bz BK460) hb); replace HB := Aside0.mk (below_step (by exact Lz2 HB GE445 GE460) hb); (try clear hb); (try clear ho0); have hcz32_0 : w31.cell? ⟨gb460, 0, none⟩ = some (.int .i64 t456) := (blk_cell BK460.out 0).trans rfl; have hcz32_1 : w31.cell? ⟨gb460, 1, none⟩ = some (.slice Ao30 t457.length co30) := (blk_cell BK460.out 1).trans rfl; have hfz32_0 := blk_frozen BK460.out 0; have hfz32_1 := blk_frozen BK460.out 1; obtain ⟨Ao33, co33, eo33⟩ := Kd.R_slice HO463.out; subst eo33) | ((with_reducible refine gate_callee (f := 38) rfl ?_); refine goesM_ (some 39) rfl rfl Try.func38 (by kernel_rfl) rfl #[.agg #[.int .i64 t456, .slice Ao30 t457.length co30], .slice Ao33 t461.length co33, .int .i64 a2] rfl ?_; (with_reducible refine (impl_ChipsAt.calls kj7 t456 _ _ t457 _ _ t461 a2 t464 t465 _ ?side1 ?side2 ?side3 ?side4 A17.out).mono ?_); (case side1 => exact Cz ((Kd.R_reads' HO459.out).2.2)); (case side2 => exact (Kd.R_reads' HO459.out).2.1); (case side3 => exact Cz ((Kd.R_reads' HO463.out).2.2)); (case side4 => exact (Kd.R_reads' HO463.out).2.1); rintro e w34 ⟨rfl, hb⟩; refine ⟨_, rfl, ?_⟩; replace HO450 := Aside0.mk (Kd.R_below (Rz HO450) hb); replace HO453 := Aside0.mk (Kd.R_below (Rz HO453) hb); replace HO459 := Aside0.mk (Kd.R_below (Rz HO459) hb); replace HO463 := Aside0.mk (Kd.R_below (Rz HO463) hb); replace BK445 := Aside0.mk (blk_below (g := gb445) (o := .cells #[.int .i64 a0_0, .slice A0_1 l0_1.length c0_1] 37 (0, 0)) (Bz BK445) hb); replace BK460 := Aside0.mk (blk_below (g := gb460) (o := .cells #[.int .i64 t456, .slice Ao30 t457.length co30] 25 (0, 0)) (Bz BK460) hb); replace HB := Aside0.mk (below_step (by exact Lz2 HB GE445 GE460) hb); (try clear hb); (try clear hb2); (try clear hk); (try clear hi)))
     (try simp only [Act.put, List.setIfInBounds_toArray, List.set_cons_zero, List.set_cons_succ])
     go_cut [49] (fun v49 wc => ∃ (kq : Nat) (x49_17 : Bool), v49 = .bool x49_17 ∧ Aside0 (laws_FnExactChipsAt.j2 kq l1 t461 x49_17 a0_0 l0_1 t456 t457 = some r) ∧ Aside0 (kq ≤ kj7) ∧ Aside0 (Kd.R (Kd.int .i64) 3 wc w.heap.size (fun _ => True) (.slice Ao33 t461.length co33) t461) ∧ Aside0 (Kd.R k70 70 wc w.heap.size (fun _ => True) (.slice Ao30 t457.length co30) t457) ∧ Aside0 (wc.heap[gb445]? = some (.cells #[.int .i64 a0_0, (.slice A0_1 l0_1.length c0_1)] 37 (0, 0))) ∧ Aside0 (wc.heap[gb460]? = some (.cells #[.int .i64 t456, (.slice Ao30 t457.length co30)] 25 (0, 0))) ∧ Aside0 (Below w.heap.size w wc))
     case first =>
      have H := HC18.out
      clear HC18
      by_cases c35 : t464 = t454
      ·rw [if_pos c35] at H
       have c35b0 : (t464 == t454) = true := beq_iff_eq.mpr c35
       have c35b1 : (t464 != t454) = false := bne_eq_false_iff_eq.mpr c35
       clear c35
       (first | rw [c35b0] | (simp only [i64_w, i32_w]; rw [c35b0]) | skip)
       have H' := Aside0.mk H
       clear H
       go_wp2
       go_meet
       case rel => exact ⟨_, ((t465 != t455)), (by first | rfl | (simp; done) | (simp [*]; done)), H', ⟨by have := HJ3.out; have := HJ7.out; first | omega | exact Nat.le_refl _⟩, ⟨by (with_reducible repeat (first | apply Kd.R_alloc | apply Kd.R_drewN | apply Kd.R_drew)); exact Kd.R_mono HO463.out (fun _ hk => trivial)⟩, ⟨by (with_reducible repeat (first | apply Kd.R_alloc | apply Kd.R_drewN | apply Kd.R_drew)); exact Kd.R_mono HO459.out (fun _ hk => trivial)⟩, ⟨by exact Bz BK445⟩, ⟨by exact Bz BK460⟩, ⟨by exact Lz2 HB GE445 GE460⟩⟩
      rw [if_neg c35] at H
      have c35b0 : (t464 == t454) = false := beq_eq_false_iff_ne.mpr c35
      have c35b1 : (t464 != t454) = true := bne_iff_ne.mpr c35
      (first | rw [c35b0] | (simp only [i64_w, i32_w]; rw [c35b0]) | skip)
      have H' := Aside0.mk H
      clear H
      go_wp2
      go_meet
      case rel => exact ⟨_, (true), (by first | rfl | (simp; done) | (simp [*]; done)), H', ⟨by have := HJ3.out; have := HJ7.out; first | omega | exact Nat.le_refl _⟩, ⟨by (with_reducible repeat (first | apply Kd.R_alloc | apply Kd.R_drewN | apply Kd.R_drew)); exact Kd.R_mono HO463.out (fun _ hk => trivial)⟩, ⟨by (with_reducible repeat (first | apply Kd.R_alloc | apply Kd.R_drewN | apply Kd.R_drew)); exact Kd.R_mono HO459.out (fun _ hk => trivial)⟩, ⟨by exact Bz BK445⟩, ⟨by exact Bz BK460⟩, ⟨by exact Lz2 HB GE445 GE460⟩⟩
     case rest =>
      clear HC18
      try clear c1
      try clear c6
      try clear c6b0
      try clear c6b1
      try clear c11
      try clear c11b0
      try clear c35
      try clear c35b0
      try clear c35b1
      obtain ⟨kq, x49_17, rfl, HA, HJ17, HO_11, HO_461001, BK445, BK460, HB⟩ := hcut
      cases kq with
      | zero => exact absurd HA.out (by simp [laws_FnExactChipsAt.j2])
      | succ kj17 =>
       have H := HA.out
       clear HA
       simp only [laws_FnExactChipsAt.j2] at H
       have HC36 := Aside0.mk H
       clear H
       go_upto_if 49 with (fail)
       go_cut [] (fun wc => ∃ (kq : Nat), Aside0 (laws_FnExactChipsAt.j3 kq l1 t461 a0_0 l0_1 t456 t457 = some r) ∧ Aside0 (kq ≤ kj17) ∧ Aside0 (Kd.R (Kd.int .i64) 3 wc w.heap.size (fun _ => True) (.slice Ao33 t461.length co33) t461) ∧ Aside0 (Kd.R k70 70 wc w.heap.size (fun _ => True) (.slice Ao30 t457.length co30) t457) ∧ Aside0 (wc.heap[gb445]? = some (.cells #[.int .i64 a0_0, (.slice A0_1 l0_1.length c0_1)] 37 (0, 0))) ∧ Aside0 (wc.heap[gb460]? = some (.cells #[.int .i64 t456, (.slice Ao30 t457.length co30)] 25 (0, 0))) ∧ Aside0 (Below w.heap.size w wc))
       case first =>
        have H := HC36.out
        clear HC36
        by_cases c37 : x49_17 = true
        ·subst c37
         have H1 : (some false) = some r := by rw [if_pos rfl] at H; exact H
         clear H
         have H := H1
         clear H1
         obtain rfl := Option.some.inj H
         go_wp2
         go_ret
         exact ⟨by first | rfl | (simp [errW_none, errW_some] <;> rfl) | (simp [*, errW_none, errW_some] <;> rfl), by exact Lz2 HB GE445 GE460⟩
        replace c37 := Bool.eq_false_iff.mpr c37
        subst c37
        have H1 : (laws_FnExactChipsAt.j3 kj17 l1 t461 a0_0 l0_1 t456 t457) = some r := by rw [if_neg (show ¬ (false = true) by decide)] at H; exact H
        clear H
        have H := H1
        clear H1
        have H' := Aside0.mk H
        clear H
        go_wp2
        go_meet
        case rel => exact ⟨_, H', ⟨by have := HJ3.out; have := HJ7.out; have := HJ17.out; first | omega | exact Nat.le_refl _⟩, ⟨by exact Rz HO_11⟩, ⟨by exact Rz HO_461001⟩, ⟨by exact Bz BK445⟩, ⟨by exact Bz BK460⟩, ⟨by exact Lz2 HB GE445 GE460⟩⟩
       case rest =>
        clear HC36
        try clear c1
        try clear c6
        try clear c6b0
        try clear c6b1
        try clear c11
        try clear c11b0
        try clear c35
        try clear c35b0
        try clear c35b1
        try clear c37
        obtain ⟨kq, HA, HJ35, HO_11, HO_461001, BK445, BK460, HB⟩ := hcut
        cases kq with
        | zero => exact absurd HA.out (by simp [laws_FnExactChipsAt.j3])
        | succ kj35 =>
         have H := HA.out
         clear HA
         simp only [laws_FnExactChipsAt.j3] at H
         replace H := Option.bind_eq_some_iff.mp H
         obtain ⟨⟨t466, t467⟩, A380, H⟩ := H
         replace H : ((laws_eqGraph.f kj35 t456 t457 t466 t467).bind fun t470 => (if t470 = true then (laws_FnExactChipsAt.j4 kj35 l1 t461) else (some false))) = some r := H
         have A38 := Aside0.mk A380
         clear A380
         replace H := Option.bind_eq_some_iff.mp H
         obtain ⟨t470, A390, H⟩ := H
         replace H : (if t470 = true then (laws_FnExactChipsAt.j4 kj35 l1 t461) else (some false)) = some r := H
         have A39 := Aside0.mk A390
         clear A390
         have HC40 := Aside0.mk H
         clear H
         try go_wp2
         replace HO_11 := Aside0.mk (Kd.R_drew HO_11.out)
         replace HO_461001 := Aside0.mk (Kd.R_drew HO_461001.out)
         replace BK445 := Aside0.mk (blk_drew BK445.out)
         replace BK460 := Aside0.mk (blk_drew BK460.out)
         replace HB := Aside0.mk (below_drew1 HB.out)
         refine start_ (n := 5) (S := fun w' => w'.cell? ⟨gb460, 0, none⟩ = some (.int .i64 t456) ∧ w'.cell? ⟨gb460, 1, none⟩ = some (.slice Ao30 t457.length co30) ∧ w'.cell? ⟨gb445, 0, none⟩ = some (.int .i64 a0_0) ∧ w'.cell? ⟨gb445, 1, none⟩ = some (.slice A0_1 l0_1.length c0_1)) (ds := []) #[false, false, false, false, false] (by kernel_rfl) rfl rfl ⟨(blk_cell BK460.out 0).trans rfl, (blk_cell BK460.out 1).trans rfl, (blk_cell BK445.out 0).trans rfl, (blk_cell BK445.out 1).trans rfl⟩ (fun hHeld => ?_)
         generalize wc.drew = w41 at HO_11 HO_461001 BK445 BK460 HB hHeld ⊢
         refine take_ (i := 0) (N := some 50) (v := ?_) (a' := ?_) #[true, false, false, false, false] rfl rfl (by kernel_rfl) (fun _ _ _ h => h) (Or.inl ⟨by rfl, ?_⟩) hHeld ?_ ?_
         rotate_left
         ·rintro w' ⟨s0, s1, s2, s3⟩
          go_simp
          with_reducible rfl
         rotate_left
         ·simp only [Act.put, List.setIfInBounds_toArray, List.set_cons_zero, List.set_cons_succ, i64_w, i32_w]
          rfl
         refine take_ (i := 1) (N := some 51) (v := ?_) (a' := ?_) #[true, true, false, false, false] rfl rfl (by kernel_rfl) (fun _ _ _ h => h) (Or.inl ⟨by rfl, ?_⟩) hHeld ?_ ?_
         rotate_left
         ·rintro w' ⟨s0, s1, s2, s3⟩
          go_simp
          with_reducible rfl
         rotate_left
         ·simp only [Act.put, List.setIfInBounds_toArray, List.set_cons_zero, List.set_cons_succ, i64_w, i32_w]
          rfl
         refine one_ (i := 2) (N := some 52) #[true, true, true, false, false] rfl rfl (by kernel_rfl) (by decide) (fun K hK => ?_)
         refine goes_ Try.func25 (by kernel_rfl) rfl #[.agg #[.int .i64 a0_0, .slice A0_1 l0_1.length c0_1]] (by rfl) rfl rfl (by (try simp only [List.map_toArray, List.map_cons, List.map_nil]); first | done | rfl | (simp only [List.length_drop, List.length_take]; rfl)) ?_
         with_reducible refine (laws_toGraph.calls kj35 a0_0 _ _ l0_1 t466 t467 _ ?side1 ?side2 A38.out).mono ?_
         (case side1 => exact Cz ((Kd.C_below HR0_1.out HB.out)))
         (case side2 => exact HC0_1.out)
         rintro e w42 ⟨v468, rfl, ho0, hb⟩
         refine ⟨_, rfl, ?_⟩
         replace HO_11 := Aside0.mk (Kd.R_below (Rz HO_11) hb)
         have HO469 := Aside0.mk (Kd.R_lower (Kd.R_new' ho0 (Kd.R_lt (Rz HO_461001))) (below_size (by exact Lz2 HB GE445 GE460)))
         replace HO_461001 := Aside0.mk (Kd.R_elder' (Rz HO_461001) (Kd.R_base ho0) hb)
         replace BK445 := Aside0.mk (blk_below (g := gb445) (o := .cells #[.int .i64 a0_0, .slice A0_1 l0_1.length c0_1] 37 (0, 0)) (Bz BK445) hb)
         replace BK460 := Aside0.mk (blk_below (g := gb460) (o := .cells #[.int .i64 t456, .slice Ao30 t457.length co30] 25 (0, 0)) (Bz BK460) hb)
         replace HB := Aside0.mk (below_step (by exact Lz2 HB GE445 GE460) hb)
         (try clear hb)
         (try clear hb2)
         (try clear hk)
         (try clear hi)
         (try clear ho0)
         obtain ⟨Ao43, co43, eo43⟩ := Kd.R_slice HO469.out
         (first | subst eo43 | (injection eo43 with f1_ f2_ f3_; have f4_ := f1_.symm; have f5_ := f3_.symm; clear f1_ f2_ f3_; subst f4_; subst f5_))
         refine hK.out _ _ ⟨(blk_cell BK460.out 0).trans rfl, (blk_cell BK460.out 1).trans rfl, (blk_cell BK445.out 0).trans rfl, (blk_cell BK445.out 1).trans rfl⟩ (fun hHeld => ?_)
         clear hK K
         refine norm_ (a' := ?_) ?_ ?_
         rotate_left
         ·show Act.put _ (some 52) _ = _
          simp only [Act.put, List.setIfInBounds_toArray, List.set_cons_zero, List.set_cons_succ, i64_w, i32_w]
          rfl
         refine one_ (i := 3) (N := some 53) #[true, true, true, true, false] rfl rfl (by kernel_rfl) (by decide) (fun K hK => ?_)
         refine goes_ Try.func29 (by kernel_rfl) rfl #[.agg #[.int .i64 t456, .slice Ao30 t457.length co30], .agg #[.int .i64 t466, .slice Ao43 t467.length co43]] (by rfl) rfl rfl (by (try simp only [List.map_toArray, List.map_cons, List.map_nil]); first | done | rfl | (simp only [List.length_drop, List.length_take]; rfl)) ?_
         with_reducible refine (laws_eqGraph.calls kj35 t456 _ _ t457 t466 _ _ t467 t470 _ ?side1 ?side2 ?side3 ?side4 A39.out).mono ?_
         (case side1 => exact Cz ((Kd.R_reads' HO_461001.out).2.2))
         (case side2 => exact (Kd.R_reads' HO_461001.out).2.1)
         (case side3 => exact Cz ((Kd.R_reads' HO469.out).2.2))
         (case side4 => exact (Kd.R_reads' HO469.out).2.1)
         rintro e w44 ⟨rfl, hb⟩
         refine ⟨_, rfl, ?_⟩
         replace HO_11 := Aside0.mk (Kd.R_below (Rz HO_11) hb)
         replace HO_461001 := Aside0.mk (Kd.R_below (Rz HO_461001) hb)
         replace HO469 := Aside0.mk (Kd.R_below (Rz HO469) hb)
         replace BK445 := Aside0.mk (blk_below (g := gb445) (o := .cells #[.int .i64 a0_0, .slice A0_1 l0_1.length c0_1] 37 (0, 0)) (Bz BK445) hb)
         replace BK460 := Aside0.mk (blk_below (g := gb460) (o := .cells #[.int .i64 t456, .slice Ao30 t457.length co30] 25 (0, 0)) (Bz BK460) hb)
         replace HB := Aside0.mk (below_step (by exact Lz2 HB GE445 GE460) hb)
         (try clear hb)
         (try clear hb2)
         (try clear hk)
         (try clear hi)
         refine hK.out _ _ ⟨(blk_cell BK460.out 0).trans rfl, (blk_cell BK460.out 1).trans rfl, (blk_cell BK445.out 0).trans rfl, (blk_cell BK445.out 1).trans rfl⟩ (fun hHeld => ?_)
         clear hK K
         refine norm_ (a' := ?_) ?_ ?_
         rotate_left
         ·show Act.put _ (some 53) _ = _
          simp only [Act.put, List.setIfInBounds_toArray, List.set_cons_zero, List.set_cons_succ, i64_w, i32_w]
          rfl
         refine pure_ (i := 4) (N := some 54) (v := ?_) (a' := ?_) #[true, true, true, true, true] rfl rfl (by kernel_rfl) (fun _ _ _ h => h) (Or.inl ⟨by rfl, ?_⟩) ?_ ?_
         rotate_left
         ·intro w'
          go_simp
          with_reducible rfl
         rotate_left
         ·simp only [Act.put, List.setIfInBounds_toArray, List.set_cons_zero, List.set_cons_succ, i64_w, i32_w]
          rfl
         refine done_ (by kernel_rfl) ?_
         go_upto_if 54 with (fail)
         go_cut [] (fun wc => ∃ (kq : Nat), Aside0 (laws_FnExactChipsAt.j4 kq l1 t461 = some r) ∧ Aside0 (kq ≤ kj35) ∧ Aside0 (Kd.R (Kd.int .i64) 3 wc w.heap.size (fun _ => True) (.slice Ao33 t461.length co33) t461) ∧ Aside0 (Kd.R k70 70 wc w.heap.size (fun _ => True) (.slice Ao30 t457.length co30) t457) ∧ Aside0 (wc.heap[gb445]? = some (.cells #[.int .i64 a0_0, (.slice A0_1 l0_1.length c0_1)] 37 (0, 0))) ∧ Aside0 (wc.heap[gb460]? = some (.cells #[.int .i64 t456, (.slice Ao30 t457.length co30)] 25 (0, 0))) ∧ Aside0 (Below w.heap.size w wc))
         case first =>
          have H := HC40.out
          clear HC40
          by_cases c45 : t470 = true
          ·subst c45
           have H1 : (laws_FnExactChipsAt.j4 kj35 l1 t461) = some r := by rw [if_pos rfl] at H; exact H
           clear H
           have H := H1
           clear H1
           have H' := Aside0.mk H
           clear H
           go_wp2
           go_meet
           case rel => exact ⟨_, H', ⟨by have := HJ3.out; have := HJ7.out; have := HJ17.out; have := HJ35.out; first | omega | exact Nat.le_refl _⟩, ⟨by exact Rz HO_11⟩, ⟨by (with_reducible repeat (first | apply Kd.R_alloc | apply Kd.R_drewN | apply Kd.R_drew)); exact Kd.R_mono HO_461001.out (fun _ hk => trivial)⟩, ⟨by exact Bz BK445⟩, ⟨by exact Bz BK460⟩, ⟨by exact Lz2 HB GE445 GE460⟩⟩
          replace c45 := Bool.eq_false_iff.mpr c45
          subst c45
          have H1 : (some false) = some r := by rw [if_neg (show ¬ (false = true) by decide)] at H; exact H
          clear H
          have H := H1
          clear H1
          obtain rfl := Option.some.inj H
          go_wp2
          go_ret
          exact ⟨by first | rfl | (simp [errW_none, errW_some] <;> rfl) | (simp [*, errW_none, errW_some] <;> rfl), by exact Lz2 HB GE445 GE460⟩
         case rest =>
          clear HC40
          try clear c1
          try clear c6
          try clear c6b0
          try clear c6b1
          try clear c11
          try clear c11b0
          try clear c35
          try clear c35b0
          try clear c35b1
          try clear c37
          try clear c45
          obtain ⟨kq, HA, HJ39, HO_11, HO_461001, BK445, BK460, HB⟩ := hcut
          cases kq with
          | zero => exact absurd HA.out (by simp [laws_FnExactChipsAt.j4])
          | succ kj39 =>
           have H := HA.out
           clear HA
           simp only [laws_FnExactChipsAt.j4] at H
           replace H := Option.bind_eq_some_iff.mp H
           obtain ⟨t471, A460, H⟩ := H
           replace H : ((laws_eqIntS.f kj39 t461 t471).bind fun t474 => (if t474 = true then (some true) else (some false))) = some r := H
           have A46 := Aside0.mk A460
           clear A460
           replace H := Option.bind_eq_some_iff.mp H
           obtain ⟨t474, A470, H⟩ := H
           replace H : (if t474 = true then (some true) else (some false)) = some r := H
           have A47 := Aside0.mk A470
           clear A470
           by_cases c48 : t474 = true
           ·subst c48
            have H1 : (some true) = some r := by rw [if_pos rfl] at H; exact H
            clear H
            have H := H1
            clear H1
            obtain rfl := Option.some.inj H
            go_wp2_with (first | ((with_reducible refine gate_callee (f := 26) rfl ?_); refine goesM_ (some 57) rfl rfl Try.func26 (by kernel_rfl) rfl #[.slice A1 l1.length c1] rfl ?_; (with_reducible refine (laws_toIntS.calls kj39 _ _ l1 t471 _ ?side1 ?side2 A46.out).mono ?_); (case side1 => exact Cz ((Kd.C_below HR1.out HB.out))); (case side2 => exact HC1.out); rintro e w49 ⟨v472, rfl, ho0, hb⟩; refine ⟨_, rfl, ?_⟩; replace HO_461001 := Aside0.mk (Kd.R_below (Rz HO_461001) hb); have HO473 := Aside0.mk (Kd.R_lower (Kd.R_new' ho0 (Kd.R_lt (Rz HO_11))) (below_size (by exact Lz2 HB GE445 GE460))); replace HO_11 := Aside0.mk (Kd.R_elder' (Rz HO_11) (Kd.R_base ho0) hb); replace BK445 := Aside0.mk (blk_below (g := gb445) (o := .cells #[.int .i64 a0_0, .slice A0_1 l0_1.length c0_1] 37 (0, 0)) (Bz BK445) hb); replace BK460 := Aside0.mk (blk_below (g := gb460) (o := .cells #[.int .i64 t456, .slice Ao30 t457.length co30] 25 (0, 0)) (Bz BK460) hb); replace HB := Aside0.mk (below_step (by exact Lz2 HB GE445 GE460) hb); (try clear hb); (try clear ho0); obtain ⟨Ao50, co50, eo50⟩ := Kd.R_slice HO473.out; subst eo50) | ((with_reducible refine gate_callee (f := 28) rfl ?_); refine goesM_ (some 58) rfl rfl Try.func28 (by kernel_rfl) rfl #[.slice Ao33 t461.length co33, .slice Ao50 t471.length co50] rfl ?_; (with_reducible refine (laws_eqIntS.calls kj39 _ _ t461 _ _ t471 true _ ?side1 ?side2 ?side3 ?side4 A47.out).mono ?_); (case side1 => exact Cz ((Kd.R_reads' HO_11.out).2.2)); (case side2 => exact (Kd.R_reads' HO_11.out).2.1); (case side3 => exact Cz ((Kd.R_reads' HO473.out).2.2)); (case side4 => exact (Kd.R_reads' HO473.out).2.1); rintro e w' ⟨rfl, ⟨nd, rfl⟩⟩; refine ⟨_, rfl, ?_⟩))
            go_ret
            exact ⟨by first | rfl | (simp [errW_none, errW_some] <;> rfl) | (simp [*, errW_none, errW_some] <;> rfl), by exact Lz2 HB GE445 GE460⟩
           replace c48 := Bool.eq_false_iff.mpr c48
           subst c48
           have H1 : (some false) = some r := by rw [if_neg (show ¬ (false = true) by decide)] at H; exact H
           clear H
           have H := H1
           clear H1
           obtain rfl := Option.some.inj H
           go_wp2_with (first | ((with_reducible refine gate_callee (f := 26) rfl ?_); refine goesM_ (some 57) rfl rfl Try.func26 (by kernel_rfl) rfl #[.slice A1 l1.length c1] rfl ?_; (with_reducible refine (laws_toIntS.calls kj39 _ _ l1 t471 _ ?side1 ?side2 A46.out).mono ?_); (case side1 => exact Cz ((Kd.C_below HR1.out HB.out))); (case side2 => exact HC1.out); rintro e w51 ⟨v472, rfl, ho0, hb⟩; refine ⟨_, rfl, ?_⟩; replace HO_461001 := Aside0.mk (Kd.R_below (Rz HO_461001) hb); have HO473 := Aside0.mk (Kd.R_lower (Kd.R_new' ho0 (Kd.R_lt (Rz HO_11))) (below_size (by exact Lz2 HB GE445 GE460))); replace HO_11 := Aside0.mk (Kd.R_elder' (Rz HO_11) (Kd.R_base ho0) hb); replace BK445 := Aside0.mk (blk_below (g := gb445) (o := .cells #[.int .i64 a0_0, .slice A0_1 l0_1.length c0_1] 37 (0, 0)) (Bz BK445) hb); replace BK460 := Aside0.mk (blk_below (g := gb460) (o := .cells #[.int .i64 t456, .slice Ao30 t457.length co30] 25 (0, 0)) (Bz BK460) hb); replace HB := Aside0.mk (below_step (by exact Lz2 HB GE445 GE460) hb); (try clear hb); (try clear ho0); obtain ⟨Ao52, co52, eo52⟩ := Kd.R_slice HO473.out; subst eo52) | ((with_reducible refine gate_callee (f := 28) rfl ?_); refine goesM_ (some 58) rfl rfl Try.func28 (by kernel_rfl) rfl #[.slice Ao33 t461.length co33, .slice Ao52 t471.length co52] rfl ?_; (with_reducible refine (laws_eqIntS.calls kj39 _ _ t461 _ _ t471 false _ ?side1 ?side2 ?side3 ?side4 A47.out).mono ?_); (case side1 => exact Cz ((Kd.R_reads' HO_11.out).2.2)); (case side2 => exact (Kd.R_reads' HO_11.out).2.1); (case side3 => exact Cz ((Kd.R_reads' HO473.out).2.2)); (case side4 => exact (Kd.R_reads' HO473.out).2.1); rintro e w' ⟨rfl, ⟨nd, rfl⟩⟩; refine ⟨_, rfl, ?_⟩))
           go_ret
           exact ⟨by first | rfl | (simp [errW_none, errW_some] <;> rfl) | (simp [*, errW_none, errW_some] <;> rfl), by exact Lz2 HB GE445 GE460⟩
end Go.Proofs.Ytnebapnfkolflaa.P
end
section
namespace Go.Proofs.Ytnebapnfkolflaa.Pure
open Go.RowKit Go.Proofs.Ytnebapnfkolflaa.P Go.Proofs.YtnebapnfkolflaaW.PrintWords Go.Proofs.YtnebapnfkolflaaW.PrintLast Go.Proofs.YtnebapnfkolflaaW.PrintMore
def StatFnExactChipsAt : Prop := ∀ (a0_0 : Int) (l0_1 : List (S95)) (l1 : List (Int)) (a2 : Int), ((Lit.int .i64 a0_0).wf = true ∧ (l0_1.length ≤ maxLen ∧ ∀ x4 ∈ l0_1, (Lit.int .i64 x4.f0).wf = true ∧ (Lit.int .i64 x4.f1).wf = true)) → (l1.length ≤ maxLen ∧ ∀ x2 ∈ l1, (Lit.int .i64 x2).wf = true) → (Lit.int .i64 a2).wf = true → ∃ k, laws_FnExactChipsAt.f k a0_0 l0_1 l1 a2 = some true
end Go.Proofs.Ytnebapnfkolflaa.Pure
end
section
set_option linter.unusedVariables false
set_option linter.unusedSimpArgs false
namespace Go.Proofs.Ytnebapnfkolflaa.Pure
open Go.RowKit Go.Proofs.Ytnebapnfkolflaa.P Go.Proofs.YtnebapnfkolflaaW.PrintWords Go.Proofs.YtnebapnfkolflaaW.PrintLast Go.Proofs.YtnebapnfkolflaaW.PrintMore Go.Proofs.Ytnebapnfkolflaa.Base Go.Proofs.Ytnebapnfkolflaa.Reduce Go.Proofs.Ytnebapnfkolflaa.Loops Go.Proofs.Ytnebapnfkolflaa.Bits
theorem chipsAt_both (n : Int) (es : List S70) (d : List Int) (v : Int) (hl : es.length < 4611686018427387904) (hd : d.length < 4611686018427387904) :
    ∃ (r : Int) (q : Bool), Ev (fun k => impl_ChipsAt.f k n es d v) (r, q) ∧ Ev (fun k => spec_ChipsAt.f k n es d v) (r, q) ∧ True := by
  obtain ⟨r, q, h1, h2, h3, h4⟩ := reducedOf_both n es d v hl hd
  simp only [impl_ChipsAt.f, spec_ChipsAt.f]
  cases q with
  | false => exact ⟨0, false, Ev.bind h1 (ev_iff (Ev.now _)), Ev.bind h2 (ev_iff (Ev.now _)), trivial⟩
  | true =>
    obtain ⟨_, hr, m, u, s, hn, hv, S, _⟩ := h4 rfl
    have := S.q
    exact ⟨rd r v, true, Ev.bind h1 (ev_ift rfl (ev_ift (by omega) (ev_ift (by dsimp only; omega) (Ev.now _)))), Ev.bind h2 (ev_ift rfl (ev_ift (by omega) (ev_ift (by dsimp only; omega) (Ev.now _)))), trivial⟩
end Go.Proofs.Ytnebapnfkolflaa.Pure
end
section
set_option linter.unusedVariables false
set_option linter.unusedSimpArgs false
namespace Go.Proofs.Ytnebapnfkolflaa.Pure
open Go.RowKit Go.Proofs.Ytnebapnfkolflaa.P Go.Proofs.YtnebapnfkolflaaW.PrintWords Go.Proofs.YtnebapnfkolflaaW.PrintLast Go.Proofs.YtnebapnfkolflaaW.PrintMore Go.Proofs.Ytnebapnfkolflaa.Base Go.Proofs.Ytnebapnfkolflaa.Reduce Go.Proofs.Ytnebapnfkolflaa.Loops Go.Proofs.Ytnebapnfkolflaa.Bits
theorem FnExactChipsAt : StatFnExactChipsAt := by
  intro n l d1 i2 ⟨_, hl, _⟩ ⟨_, _⟩ _
  refine Ev.rounds (r := true) ?_
  unfold laws_FnExactChipsAt.f
  by_cases hd1 : (d1.length : Int) > 1048576
  · repeat (first
      | exact Ev.now _
      | dsimp only
      | with_reducible refine ev_ift (by first | rfl | omega) ?_
      | with_reducible refine ev_ifn (by omega) ?_
      | with_reducible refine ev_ifb ?_
      | with_reducible refine ev_ifnn ?_
      | with_reducible refine ev_iff ?_
      | (refine ev_succ ?_; simp only [if_true, laws_FnExactChipsAt.j0, laws_FnExactChipsAt.j1, laws_FnExactChipsAt.j2, laws_FnExactChipsAt.j3, laws_FnExactChipsAt.j4])
      )
  have hs := szGraph_eq n l hl 1048576 (by omega) (by omega)
  by_cases h : (l.length : Int) ≤ 1048576
  · have es : Ev (fun _ : Nat => laws_szGraph.f n l 1048576) (1048576 - (l.length : Int)) := ev_const fun _ => by rw [hs, if_pos h]
    have tg := toGraph_ev n l (by omega)
    have hm := map_cv_length l
    have hL : (l.map cvE).length < 4611686018427387904 := by omega
    have hLd1 : d1.length < 4611686018427387904 := by omega
    have td1 := toIntS_ev d1 (by omega)
    have ed1 := eqIntS_ev d1 hLd1
    obtain ⟨r, q, g1, g2, _⟩ := chipsAt_both n (l.map cvE) d1 i2 hL hLd1
    have eg := eqGraph_ev n (l.map cvE) hL
    repeat (first
      | exact Ev.now _
      | dsimp only
      | (with_reducible refine Ev.bind es ?_) | (with_reducible refine Ev.bind tg ?_) | (with_reducible refine Ev.bind td1 ?_) | (with_reducible refine Ev.bind ed1 ?_) | (with_reducible refine Ev.bind g1 ?_) | (with_reducible refine Ev.bind g2 ?_) | (with_reducible refine Ev.bind eg ?_)
      | with_reducible refine ev_ift (by first | rfl | omega) ?_
      | with_reducible refine ev_ifn (by omega) ?_
      | with_reducible refine ev_ifb ?_
      | with_reducible refine ev_ifnn ?_
      | with_reducible refine ev_iff ?_
      | (refine ev_succ ?_; simp only [if_true, laws_FnExactChipsAt.j0, laws_FnExactChipsAt.j1, laws_FnExactChipsAt.j2, laws_FnExactChipsAt.j3, laws_FnExactChipsAt.j4])
      )
  · have es : Ev (fun _ : Nat => laws_szGraph.f n l 1048576) (-1) := ev_const fun _ => by rw [hs, if_neg h]
    repeat (first
      | exact Ev.now _
      | dsimp only
      | (with_reducible refine Ev.bind es ?_)
      | with_reducible refine ev_ift (by first | rfl | omega) ?_
      | with_reducible refine ev_ifn (by omega) ?_
      | with_reducible refine ev_ifb ?_
      | with_reducible refine ev_ifnn ?_
      | with_reducible refine ev_iff ?_
      | (refine ev_succ ?_; simp only [if_true, laws_FnExactChipsAt.j0, laws_FnExactChipsAt.j1, laws_FnExactChipsAt.j2, laws_FnExactChipsAt.j3, laws_FnExactChipsAt.j4])
      )
end Go.Proofs.Ytnebapnfkolflaa.Pure
end
