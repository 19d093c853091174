/- Functions of the program as plain Lean functions and that the machine's calls answer as they do, the words of the print that these use, lemmas and plain proofs of laws. Put together by a program of this work that leaves out what nothing uses; Lean checks it. -/
import Derived.Test.YtnebapnfkolflaaGba58acd38e
import Derived.Test.YtnebapnfkolflaaGe1d48e96ce
import Derived.Test.YtnebapnfkolflaaG0e5aa1090e
import Derived.Test.YtnebapnfkolflaaG366d3eeaa8
import Derived.Test.YtnebapnfkolflaaGb6028519ae
import Derived.Test.YtnebapnfkolflaaG32d6827594
import Derived.Test.YtnebapnfkolflaaG39afe4bd0c
import Derived.Test.YtnebapnfkolflaaG9659f13a83
section
namespace Go.Proofs.Ytnebapnfkolflaa.P
open Go.RowKit Go.Proofs.YtnebapnfkolflaaW.PrintWords Go.Proofs.YtnebapnfkolflaaW.PrintLast Go.Proofs.YtnebapnfkolflaaW.PrintMore
attribute [local go_sem] max2_int min2_int max_two min_two max_three min_three max_four min_four
set_option linter.unusedVariables false
set_option linter.unusedSimpArgs false
def spec_IsWinnable.f (k : Nat) (a0_0 : Int) (l0_1 : List (S70)) (l1 : List Int) : Option (Bool) := (spec_ChipsAt.f k a0_0 l0_1 l1 0).bind fun bt476 => (if bt476.2 = true then (some (decide (bt476.1 ≥ 0))) else (some false))
set_option maxHeartbeats 8000000 in
set_option maxRecDepth 100000 in
theorem spec_IsWinnable.calls (k : Nat) (a0_0 : Int) (A0_1 : Option Addr) (c0_1 : Nat) (l0_1 : List (S70)) (A1 : Option Addr) (c1 : Nat) (l1 : List Int) (r : Bool) (w : World) (hr0_1 : Kd.C k70 w A0_1 l0_1.length l0_1) (hc0_1 : l0_1.length ≤ c0_1) (hr1 : Kd.C (Kd.int .i64) w A1 l1.length l1) (hc1 : l1.length ≤ c1) (h : spec_IsWinnable.f k a0_0 l0_1 l1 = some r) :
  Calls Try.prog 39 #[.agg #[.int .i64 a0_0, .slice A0_1 l0_1.length c0_1], .slice A1 l1.length c1] w fun e w' => e = .returned (.bool r) ∧ Below w.heap.size w w' := by
 have hu25 := Try.underlying25
 have HR0_1 := Aside0.mk hr0_1
 have HC0_1 := Aside0.mk hc0_1
 clear hr0_1 hc0_1
 have HR1 := Aside0.mk hr1
 have HC1 := Aside0.mk hc1
 clear hr1 hc1
 have HB := Aside0.mk (Below.refl w.heap.size w)
 have H : ((spec_ChipsAt.f k a0_0 l0_1 l1 0).bind fun bt476 => (if bt476.2 = true then (some (decide (bt476.1 ≥ 0))) else (some false))) = some r := h
 clear h
 replace H := Option.bind_eq_some_iff.mp H
 obtain ⟨⟨t476, t477⟩, A30, H⟩ := H
 replace H : (if t477 = true then (some (decide (t476 ≥ 0))) else (some false)) = some r := H
 have A3 := Aside0.mk A30
 clear A30
 by_cases c4 : t477 = true
 ·subst c4
  have H1 : (some (decide (t476 ≥ 0))) = some r := by rw [if_pos rfl] at H; exact H
  clear H
  have H := H1
  clear H1
  obtain rfl := Option.some.inj H
  go_enter Try.func39, Try.ntmps39
  go_wp2_with (first | ((with_reducible refine gate_dst (N := 2) rfl ?_); refine box_event ?hg (N := 2) ?hd (cs := #[.int .i64 a0_0, .slice A0_1 l0_1.length c0_1]) (t := 25) ?hr ?_; (case hd => rfl); (case hg => rfl); (case hr => first | (go_simp; done) | (go_simp; rfl)); intro gb475 hg w5 hbox hb; have BK475 := Aside0.mk (hbox); have GW475 := Aside0.mk ((by rw [hg]; exact (below_size (Lz HB)) : w.heap.size ≤ gb475)); have GE475 := Aside0.mk ((by rw [hg]; exact (below_size (Lz HB)) : w.heap.size ≤ gb475)); replace HB := Aside0.mk (below_step (Lz HB) hb); clear hb hbox hg; have hcz6_0 : w5.cell? ⟨gb475, 0, none⟩ = some (.int .i64 a0_0) := (blk_cell BK475.out 0).trans rfl; have hcz6_1 : w5.cell? ⟨gb475, 1, none⟩ = some (.slice A0_1 l0_1.length c0_1) := (blk_cell BK475.out 1).trans rfl; have hfz6_0 := blk_frozen BK475.out 0; have hfz6_1 := blk_frozen BK475.out 1) | ((with_reducible refine gate_callee (f := 37) rfl ?_); refine goesM_ (some 10) rfl rfl Try.func37 (by kernel_rfl) rfl #[.agg #[.int .i64 a0_0, .slice A0_1 l0_1.length c0_1], .slice A1 l1.length c1, .int .i64 0] rfl ?_; (with_reducible refine (spec_ChipsAt.calls k a0_0 _ _ l0_1 _ _ l1 0 t476 true _ ?side1 ?side2 ?side3 ?side4 A3.out).mono ?_); (case side1 => exact Cz ((Kd.C_below HR0_1.out HB.out))); (case side2 => exact HC0_1.out); (case side3 => exact Cz ((Kd.C_below HR1.out HB.out))); (case side4 => exact HC1.out); rintro e w7 ⟨rfl, hb⟩; refine ⟨_, rfl, ?_⟩; replace BK475 := Aside0.mk (blk_below (g := gb475) (o := .cells #[.int .i64 a0_0, .slice A0_1 l0_1.length c0_1] 25 (0, 0)) (Bz BK475) hb); replace HB := Aside0.mk (below_step (by exact Lz1 HB GE475) hb); (try clear hb); (try clear hb2); (try clear hk); (try clear hi)))
  go_ret
  exact ⟨by first | rfl | (simp [errW_none, errW_some] <;> rfl) | (simp [*, errW_none, errW_some] <;> rfl), by exact Lz1 HB GE475⟩
 replace c4 := Bool.eq_false_iff.mpr c4
 subst c4
 have H1 : (some false) = some r := by rw [if_neg (show ¬ (false = true) by decide)] at H; exact H
 clear H
 have H := H1
 clear H1
 obtain rfl := Option.some.inj H
 go_enter Try.func39, Try.ntmps39
 go_wp2_with (first | ((with_reducible refine gate_dst (N := 2) rfl ?_); refine box_event ?hg (N := 2) ?hd (cs := #[.int .i64 a0_0, .slice A0_1 l0_1.length c0_1]) (t := 25) ?hr ?_; (case hd => rfl); (case hg => rfl); (case hr => first | (go_simp; done) | (go_simp; rfl)); intro gb475 hg w8 hbox hb; have BK475 := Aside0.mk (hbox); have GW475 := Aside0.mk ((by rw [hg]; exact (below_size (Lz HB)) : w.heap.size ≤ gb475)); have GE475 := Aside0.mk ((by rw [hg]; exact (below_size (Lz HB)) : w.heap.size ≤ gb475)); replace HB := Aside0.mk (below_step (Lz HB) hb); clear hb hbox hg; have hcz9_0 : w8.cell? ⟨gb475, 0, none⟩ = some (.int .i64 a0_0) := (blk_cell BK475.out 0).trans rfl; have hcz9_1 : w8.cell? ⟨gb475, 1, none⟩ = some (.slice A0_1 l0_1.length c0_1) := (blk_cell BK475.out 1).trans rfl; have hfz9_0 := blk_frozen BK475.out 0; have hfz9_1 := blk_frozen BK475.out 1) | ((with_reducible refine gate_callee (f := 37) rfl ?_); refine goesM_ (some 10) rfl rfl Try.func37 (by kernel_rfl) rfl #[.agg #[.int .i64 a0_0, .slice A0_1 l0_1.length c0_1], .slice A1 l1.length c1, .int .i64 0] rfl ?_; (with_reducible refine (spec_ChipsAt.calls k a0_0 _ _ l0_1 _ _ l1 0 t476 false _ ?side1 ?side2 ?side3 ?side4 A3.out).mono ?_); (case side1 => exact Cz ((Kd.C_below HR0_1.out HB.out))); (case side2 => exact HC0_1.out); (case side3 => exact Cz ((Kd.C_below HR1.out HB.out))); (case side4 => exact HC1.out); rintro e w10 ⟨rfl, hb⟩; refine ⟨_, rfl, ?_⟩; replace BK475 := Aside0.mk (blk_below (g := gb475) (o := .cells #[.int .i64 a0_0, .slice A0_1 l0_1.length c0_1] 25 (0, 0)) (Bz BK475) hb); replace HB := Aside0.mk (below_step (by exact Lz1 HB GE475) hb); (try clear hb); (try clear hb2); (try clear hk); (try clear hi)))
 go_ret
 exact ⟨by first | rfl | (simp [errW_none, errW_some] <;> rfl) | (simp [*, errW_none, errW_some] <;> rfl), by exact Lz1 HB GE475⟩
end Go.Proofs.Ytnebapnfkolflaa.P
end
section
namespace Go.Proofs.Ytnebapnfkolflaa.P
open Go.RowKit Go.Proofs.YtnebapnfkolflaaW.PrintWords Go.Proofs.YtnebapnfkolflaaW.PrintLast Go.Proofs.YtnebapnfkolflaaW.PrintMore
attribute [local go_sem] max2_int min2_int max_two min_two max_three min_three max_four min_four
set_option linter.unusedVariables false
set_option linter.unusedSimpArgs false
def impl_sumOf.l0 : Nat → Int → List Int → Int → Int → Option (Int)
 | 0, _, _, _, _ => none
 | k + 1, x3, x6, x7, x8 => if x8 < x7 then (if 0 ≤ x8 then (if x8 < (x6.length : Int) then (impl_sumOf.l0 k (wrap64 (x3 + (rd x6 x8))) x6 x7 (wrap64 (x8 + 1))) else (none)) else (none)) else (some x3)
def impl_sumOf.f (k : Nat) (l0 : List Int) : Option (Int) := impl_sumOf.l0 k 0 l0 (l0.length : Int) 0
set_option maxHeartbeats 8000000 in
set_option maxRecDepth 100000 in
theorem impl_sumOf.calls (k : Nat) (A0 : Option Addr) (c0 : Nat) (l0 : List Int) (r : Int) (w : World) (hr0 : Kd.C (Kd.int .i64) w A0 l0.length l0) (hc0 : l0.length ≤ c0) (h : impl_sumOf.f k l0 = some r) :
  Calls Try.prog 111 #[.slice A0 l0.length c0] w fun e w' => e = .returned (.int .i64 r) ∧ Drawn0 w w' := by
 have HR0 := Aside0.mk hr0
 have HC0 := Aside0.mk hc0
 clear hr0 hc0
 have H : (impl_sumOf.l0 k 0 l0 (l0.length : Int) 0) = some r := h
 clear h
 have H' := Aside0.mk H
 clear H
 go_enter Try.func111, Try.ntmps111
 go_wp2
 go_loopg [3, 8] k (fun kq v3 v8 w' => ∃ (x3_1 : Int) (x8_1 : Int), v3 = .int .i64 x3_1 ∧ v8 = .int .i64 x8_1 ∧ Aside0 (impl_sumOf.l0 kq x3_1 l0 (l0.length : Int) x8_1 = some r) ∧ Aside0 (kq ≤ k) ∧ Drawn0 w w')
 case atStart => exact ⟨(0), (0), (by first | rfl | (simp; done) | (simp [*]; done)), (by first | rfl | (simp; done) | (simp [*]; done)), H', ⟨Nat.le_refl _⟩, by repeat (first | exact Drawn0.refl _ | apply Drawn0.step)⟩
 case round =>
  clear H'
  obtain ⟨x3_1, x8_1, rfl, rfl, HA, HK1, ⟨m1, rfl⟩⟩ := hrel
  cases gk with
  | zero => exact absurd HA.out (by simp [impl_sumOf.l0])
  | succ k1 =>
   have H := HA.out
   clear HA
   simp only [impl_sumOf.l0] at H
   by_cases c2 : x8_1 < (l0.length : Int)
   ·rw [if_pos c2] at H
    have c2b0 : decide (x8_1 < (l0.length : Int)) = true := decide_eq_true c2
    clear c2
    by_cases c3 : 0 ≤ x8_1
    ·rw [if_pos c3] at H
     have c3b0 : decide (0 ≤ x8_1) = true := decide_eq_true c3
     clear c3
     by_cases c4 : x8_1 < (l0.length : Int)
     ·rw [if_pos c4] at H
      have c4b0 : decide (x8_1 < (l0.length : Int)) = true := decide_eq_true c4
      clear c4
      have H' := Aside0.mk H
      clear H
      have p478 : 0 ≤ (x8_1 : Int) := of_decide_eq_true (by first | (with_reducible assumption) | assumption)
      have q478 : x8_1 < (l0.length : Int) := of_decide_eq_true (by first | (with_reducible assumption) | assumption)
      obtain ⟨ad478, e478, hx478_0⟩ := Kd.at_int HR0.out x8_1 p478 q478
      cases e478
      replace p478 := eq_true p478
      replace q478 := eq_true q478
      go_wp2
      go_roundg k1
      case measure => have := HK1.out; omega
      case rel => exact ⟨(wrap64 (x3_1 + (rd l0 x8_1))), (wrap64 (x8_1 + 1)), (by first | rfl | (simp; done) | (simp [*]; done)), (by first | rfl | (simp; done) | (simp [*]; done)), H', ⟨by have := HK1.out; omega⟩, by repeat (first | exact Drawn0.refl _ | apply Drawn0.step)⟩
     rw [if_neg c4] at H
     exact absurd H (by simp)
    rw [if_neg c3] at H
    exact absurd H (by simp)
   rw [if_neg c2] at H
   have c2b0 : decide (x8_1 < (l0.length : Int)) = false := decide_eq_false c2
   clear c2
   obtain rfl := Option.some.inj H
   go_wp2
   go_ret
   exact ⟨by first | rfl | (simp; done) | (simp [*]; done), by repeat (first | exact Drawn0.refl _ | apply Drawn0.step)⟩
end Go.Proofs.Ytnebapnfkolflaa.P
end
section
namespace Go.Proofs.Ytnebapnfkolflaa.P
open Go.RowKit Go.Proofs.YtnebapnfkolflaaW.PrintWords Go.Proofs.YtnebapnfkolflaaW.PrintLast Go.Proofs.YtnebapnfkolflaaW.PrintMore
attribute [local go_sem] max2_int min2_int max_two min_two max_three min_three max_four min_four
set_option linter.unusedVariables false
set_option linter.unusedSimpArgs false
def impl_winnable.f (k : Nat) (a0_0 : Int) (l0_1 : List (S70)) (l1 : List Int) : Option (Bool) := (impl_sumOf.f k l1).bind fun t480 => (if t480 < 0 then (some false) else ((impl_reduce.f k a0_0 l0_1 l1 0).bind fun bt481 => (if 0 < (bt481.1.length : Int) then (some (decide ((rd bt481.1 0) ≥ 0))) else (none))))
set_option maxHeartbeats 8000000 in
set_option maxRecDepth 100000 in
theorem impl_winnable.calls (k : Nat) (a0_0 : Int) (A0_1 : Option Addr) (c0_1 : Nat) (l0_1 : List (S70)) (A1 : Option Addr) (c1 : Nat) (l1 : List Int) (r : Bool) (w : World) (hr0_1 : Kd.C k70 w A0_1 l0_1.length l0_1) (hc0_1 : l0_1.length ≤ c0_1) (hr1 : Kd.C (Kd.int .i64) w A1 l1.length l1) (hc1 : l1.length ≤ c1) (h : impl_winnable.f k a0_0 l0_1 l1 = some r) :
  Calls Try.prog 86 #[.agg #[.int .i64 a0_0, .slice A0_1 l0_1.length c0_1], .slice A1 l1.length c1] w fun e w' => e = .returned (.bool r) ∧ Below w.heap.size w w' := by
 have hu25 := Try.underlying25
 have HR0_1 := Aside0.mk hr0_1
 have HC0_1 := Aside0.mk hc0_1
 clear hr0_1 hc0_1
 have HR1 := Aside0.mk hr1
 have HC1 := Aside0.mk hc1
 clear hr1 hc1
 have HB := Aside0.mk (Below.refl w.heap.size w)
 have H : ((impl_sumOf.f k l1).bind fun t480 => (if t480 < 0 then (some false) else ((impl_reduce.f k a0_0 l0_1 l1 0).bind fun bt481 => (if 0 < (bt481.1.length : Int) then (some (decide ((rd bt481.1 0) ≥ 0))) else (none))))) = some r := h
 clear h
 replace H := Option.bind_eq_some_iff.mp H
 obtain ⟨t480, A30, H⟩ := H
 replace H : (if t480 < 0 then (some false) else ((impl_reduce.f k a0_0 l0_1 l1 0).bind fun bt481 => (if 0 < (bt481.1.length : Int) then (some (decide ((rd bt481.1 0) ≥ 0))) else (none)))) = some r := H
 have A3 := Aside0.mk A30
 clear A30
 by_cases c4 : t480 < 0
 ·rw [if_pos c4] at H
  have c4b0 : decide (t480 < 0) = true := decide_eq_true c4
  clear c4
  obtain rfl := Option.some.inj H
  go_enter Try.func86, Try.ntmps86
  go_wp2_with (first | ((with_reducible refine gate_dst (N := 2) rfl ?_); refine box_event ?hg (N := 2) ?hd (cs := #[.int .i64 a0_0, .slice A0_1 l0_1.length c0_1]) (t := 25) ?hr ?_; (case hd => rfl); (case hg => rfl); (case hr => first | (go_simp; done) | (go_simp; rfl)); intro gb479 hg w5 hbox hb; have BK479 := Aside0.mk (hbox); have GW479 := Aside0.mk ((by rw [hg]; exact (below_size (Lz HB)) : w.heap.size ≤ gb479)); have GE479 := Aside0.mk ((by rw [hg]; exact (below_size (Lz HB)) : w.heap.size ≤ gb479)); replace HB := Aside0.mk (below_step (Lz HB) hb); clear hb hbox hg) | ((with_reducible refine gate_callee (f := 111) rfl ?_); refine goesM_ (some 8) rfl rfl Try.func111 (by kernel_rfl) rfl #[.slice A1 l1.length c1] rfl ?_; (with_reducible refine (impl_sumOf.calls k _ _ l1 t480 _ ?side1 ?side2 A3.out).mono ?_); (case side1 => exact Cz ((Kd.C_below HR1.out HB.out))); (case side2 => exact HC1.out); rintro e w' ⟨rfl, ⟨nd, rfl⟩⟩; refine ⟨_, rfl, ?_⟩))
  go_ret
  exact ⟨by first | rfl | (simp [errW_none, errW_some] <;> rfl) | (simp [*, errW_none, errW_some] <;> rfl), by exact Lz1 HB GE479⟩
 rw [if_neg c4] at H
 have c4b0 : decide (t480 < 0) = false := decide_eq_false c4
 clear c4
 replace H := Option.bind_eq_some_iff.mp H
 obtain ⟨⟨t481, t484⟩, A60, H⟩ := H
 replace H : (if 0 < (t481.length : Int) then (some (decide ((rd t481 0) ≥ 0))) else (none)) = some r := H
 have A6 := Aside0.mk A60
 clear A60
 by_cases c7 : 0 < (t481.length : Int)
 ·rw [if_pos c7] at H
  have c7b0 : decide (0 < (t481.length : Int)) = true := decide_eq_true c7
  have c7b1 : decide (0 < t481.length) = true := decide_eq_true (by omega)
  clear c7
  obtain rfl := Option.some.inj H
  go_enter Try.func86, Try.ntmps86
  go_wp2_with (first | ((with_reducible refine gate_dst (N := 2) rfl ?_); refine box_event ?hg (N := 2) ?hd (cs := #[.int .i64 a0_0, .slice A0_1 l0_1.length c0_1]) (t := 25) ?hr ?_; (case hd => rfl); (case hg => rfl); (case hr => first | (go_simp; done) | (go_simp; rfl)); intro gb479 hg w8 hbox hb; have BK479 := Aside0.mk (hbox); have GW479 := Aside0.mk ((by rw [hg]; exact (below_size (Lz HB)) : w.heap.size ≤ gb479)); have GE479 := Aside0.mk ((by rw [hg]; exact (below_size (Lz HB)) : w.heap.size ≤ gb479)); replace HB := Aside0.mk (below_step (Lz HB) hb); clear hb hbox hg) | ((with_reducible refine gate_callee (f := 111) rfl ?_); refine goesM_ (some 8) rfl rfl Try.func111 (by kernel_rfl) rfl #[.slice A1 l1.length c1] rfl ?_; (with_reducible refine (impl_sumOf.calls k _ _ l1 t480 _ ?side1 ?side2 A3.out).mono ?_); (case side1 => exact Cz ((Kd.C_below HR1.out HB.out))); (case side2 => exact HC1.out); rintro e w' ⟨rfl, ⟨nd, rfl⟩⟩; refine ⟨_, rfl, ?_⟩; have hcz9_0 : w8.cell? ⟨gb479, 0, none⟩ = some (.int .i64 a0_0) := (blk_cell BK479.out 0).trans rfl; have hcz9_1 : w8.cell? ⟨gb479, 1, none⟩ = some (.slice A0_1 l0_1.length c0_1) := (blk_cell BK479.out 1).trans rfl; have hfz9_0 := blk_frozen BK479.out 0; have hfz9_1 := blk_frozen BK479.out 1) | ((with_reducible refine gate_callee (f := 82) rfl ?_); refine goesM_ (some 13) rfl rfl Try.func82 (by kernel_rfl) rfl #[.agg #[.int .i64 a0_0, .slice A0_1 l0_1.length c0_1], .slice A1 l1.length c1, .int .i64 0] rfl ?_; (with_reducible refine (impl_reduce.calls k a0_0 _ _ l0_1 _ _ l1 0 t481 t484 _ ?side1 ?side2 ?side3 ?side4 A6.out).mono ?_); (case side1 => repeat (first | exact (Kd.C_below HR0_1.out (by exact Lz1 HB GE479)) | (with_reducible refine Kd.C_alloc ?_ _) | (with_reducible refine Kd.C_drewN ?_ _) | (with_reducible refine Kd.C_drew ?_))); (case side2 => exact HC0_1.out); (case side3 => repeat (first | exact (Kd.C_below HR1.out (by exact Lz1 HB GE479)) | (with_reducible refine Kd.C_alloc ?_ _) | (with_reducible refine Kd.C_drewN ?_ _) | (with_reducible refine Kd.C_drew ?_))); (case side4 => exact HC1.out); rintro e w10 ⟨v482, v485, rfl, ho0, ho1, hb⟩; refine ⟨_, rfl, ?_⟩; have HO483 := Aside0.mk (Kd.R_lower ho0 (below_size (by exact Lz1 HB GE479))); have HO486 := Aside0.mk (Kd.R_lower ho1 (below_size (by exact Lz1 HB GE479))); replace BK479 := Aside0.mk (blk_below (g := gb479) (o := .cells #[.int .i64 a0_0, .slice A0_1 l0_1.length c0_1] 25 (0, 0)) (Bz BK479) hb); replace HB := Aside0.mk (below_step (by exact Lz1 HB GE479) hb); (try clear hb); (try clear ho0); (try clear ho1); obtain ⟨Ao11, co11, eo11⟩ := Kd.R_slice HO483.out; subst eo11; have p487 : 0 ≤ (0 : Int) := (by omega); have q487 : 0 < (t481.length : Int) := of_decide_eq_true (by first | (with_reducible assumption) | assumption); obtain ⟨ad487, e487, hx487_0⟩ := Kd.at_int (Kd.R_reads' HO483.out).2.2 0 p487 q487; cases e487; have qi487 : (0 < t481.length) = True := eq_true (by omega); (try rw [show ((0 : Int)).toNat = 0 from rfl] at hx487_0); (try rw [Addr.add_zero'] at hx487_0); replace p487 := eq_true p487; replace q487 := eq_true q487))
  go_ret
  exact ⟨by first | rfl | (simp [errW_none, errW_some] <;> rfl) | (simp [*, errW_none, errW_some] <;> rfl), by exact Lz1 HB GE479⟩
 rw [if_neg c7] at H
 exact absurd H (by simp)
end Go.Proofs.Ytnebapnfkolflaa.P
end
section
namespace Go.Proofs.Ytnebapnfkolflaa.P
open Go.RowKit Go.Proofs.YtnebapnfkolflaaW.PrintWords Go.Proofs.YtnebapnfkolflaaW.PrintLast Go.Proofs.YtnebapnfkolflaaW.PrintMore
attribute [local go_sem] max2_int min2_int max_two min_two max_three min_three max_four min_four
set_option linter.unusedVariables false
set_option linter.unusedSimpArgs false
def impl_IsWinnable.f (k : Nat) (a0_0 : Int) (l0_1 : List (S70)) (l1 : List Int) : Option (Bool) := (impl_DivisorOk.f k a0_0 l0_1 l1).bind fun t489 => (if t489 = true then ((impl_winnable.f k a0_0 l0_1 l1).bind fun t490 => (some t490)) else (some false))
set_option maxHeartbeats 8000000 in
set_option maxRecDepth 100000 in
theorem impl_IsWinnable.calls (k : Nat) (a0_0 : Int) (A0_1 : Option Addr) (c0_1 : Nat) (l0_1 : List (S70)) (A1 : Option Addr) (c1 : Nat) (l1 : List Int) (r : Bool) (w : World) (hr0_1 : Kd.C k70 w A0_1 l0_1.length l0_1) (hc0_1 : l0_1.length ≤ c0_1) (hr1 : Kd.C (Kd.int .i64) w A1 l1.length l1) (hc1 : l1.length ≤ c1) (h : impl_IsWinnable.f k a0_0 l0_1 l1 = some r) :
  Calls Try.prog 40 #[.agg #[.int .i64 a0_0, .slice A0_1 l0_1.length c0_1], .slice A1 l1.length c1] w fun e w' => e = .returned (.bool r) ∧ Below w.heap.size w w' := by
 have hu25 := Try.underlying25
 have HR0_1 := Aside0.mk hr0_1
 have HC0_1 := Aside0.mk hc0_1
 clear hr0_1 hc0_1
 have HR1 := Aside0.mk hr1
 have HC1 := Aside0.mk hc1
 clear hr1 hc1
 have HB := Aside0.mk (Below.refl w.heap.size w)
 have H : ((impl_DivisorOk.f k a0_0 l0_1 l1).bind fun t489 => (if t489 = true then ((impl_winnable.f k a0_0 l0_1 l1).bind fun t490 => (some t490)) else (some false))) = some r := h
 clear h
 replace H := Option.bind_eq_some_iff.mp H
 obtain ⟨t489, A30, H⟩ := H
 replace H : (if t489 = true then ((impl_winnable.f k a0_0 l0_1 l1).bind fun t490 => (some t490)) else (some false)) = some r := H
 have A3 := Aside0.mk A30
 clear A30
 by_cases c4 : t489 = true
 ·subst c4
  have H1 : ((impl_winnable.f k a0_0 l0_1 l1).bind fun t490 => (some t490)) = some r := by rw [if_pos rfl] at H; exact H
  clear H
  have H := H1
  clear H1
  replace H := Option.bind_eq_some_iff.mp H
  obtain ⟨t490, A50, H⟩ := H
  replace H : (some t490) = some r := H
  have A5 := Aside0.mk A50
  clear A50
  obtain rfl := Option.some.inj H
  go_enter Try.func40, Try.ntmps40
  go_wp2_with (first | ((with_reducible refine gate_dst (N := 2) rfl ?_); refine box_event ?hg (N := 2) ?hd (cs := #[.int .i64 a0_0, .slice A0_1 l0_1.length c0_1]) (t := 25) ?hr ?_; (case hd => rfl); (case hg => rfl); (case hr => first | (go_simp; done) | (go_simp; rfl)); intro gb488 hg w6 hbox hb; have BK488 := Aside0.mk (hbox); have GW488 := Aside0.mk ((by rw [hg]; exact (below_size (Lz HB)) : w.heap.size ≤ gb488)); have GE488 := Aside0.mk ((by rw [hg]; exact (below_size (Lz HB)) : w.heap.size ≤ gb488)); replace HB := Aside0.mk (below_step (Lz HB) hb); clear hb hbox hg; have hcz7_0 : w6.cell? ⟨gb488, 0, none⟩ = some (.int .i64 a0_0) := (blk_cell BK488.out 0).trans rfl; have hcz7_1 : w6.cell? ⟨gb488, 1, none⟩ = some (.slice A0_1 l0_1.length c0_1) := (blk_cell BK488.out 1).trans rfl; have hfz7_0 := blk_frozen BK488.out 0; have hfz7_1 := blk_frozen BK488.out 1) | ((with_reducible refine gate_callee (f := 85) rfl ?_); refine goesM_ (some 7) rfl rfl Try.func85 (by kernel_rfl) rfl #[.agg #[.int .i64 a0_0, .slice A0_1 l0_1.length c0_1], .slice A1 l1.length c1] rfl ?_; (with_reducible refine (impl_DivisorOk.calls k a0_0 _ _ l0_1 _ _ l1 true _ ?side1 ?side2 ?side3 ?side4 A3.out).mono ?_); (case side1 => exact Cz ((Kd.C_below HR0_1.out HB.out))); (case side2 => exact HC0_1.out); (case side3 => exact Cz ((Kd.C_below HR1.out HB.out))); (case side4 => exact HC1.out); rintro e w8 ⟨rfl, hb⟩; refine ⟨_, rfl, ?_⟩; replace BK488 := Aside0.mk (blk_below (g := gb488) (o := .cells #[.int .i64 a0_0, .slice A0_1 l0_1.length c0_1] 25 (0, 0)) (Bz BK488) hb); replace HB := Aside0.mk (below_step (by exact Lz1 HB GE488) hb); (try clear hb); (try clear hb2); (try clear hk); (try clear hi); have hcz9_0 : w8.cell? ⟨gb488, 0, none⟩ = some (.int .i64 a0_0) := (blk_cell BK488.out 0).trans rfl; have hcz9_1 : w8.cell? ⟨gb488, 1, none⟩ = some (.slice A0_1 l0_1.length c0_1) := (blk_cell BK488.out 1).trans rfl; have hfz9_0 := blk_frozen BK488.out 0; have hfz9_1 := blk_frozen BK488.out 1) | (go_at_call 86; (with_reducible refine (impl_winnable.calls k a0_0 _ _ l0_1 _ _ l1 t490 _ ?side1 ?side2 ?side3 ?side4 A5.out).mono ?_); (case side1 => exact Cz ((Kd.C_below HR0_1.out HB.out))); (case side2 => exact HC0_1.out); (case side3 => exact Cz ((Kd.C_below HR1.out HB.out))); (case side4 => exact HC1.out); rintro e w10 ⟨rfl, hb⟩; replace BK488 := Aside0.mk (blk_below (g := gb488) (o := .cells #[.int .i64 a0_0, .slice A0_1 l0_1.length c0_1] 25 (0, 0)) (Bz BK488) hb); replace HB := Aside0.mk (below_step (by exact Lz1 HB GE488) hb); (try clear hb); (try clear hb2); (try clear hk); (try clear hi)))
  go_ret
  exact ⟨by first | rfl | (simp [errW_none, errW_some] <;> rfl) | (simp [*, errW_none, errW_some] <;> rfl), by exact Lz1 HB GE488⟩
 replace c4 := Bool.eq_false_iff.mpr c4
 subst c4
 have H1 : (some false) = some r := by rw [if_neg (show ¬ (false = true) by decide)] at H; exact H
 clear H
 have H := H1
 clear H1
 obtain rfl := Option.some.inj H
 go_enter Try.func40, Try.ntmps40
 go_wp2_with (first | ((with_reducible refine gate_dst (N := 2) rfl ?_); refine box_event ?hg (N := 2) ?hd (cs := #[.int .i64 a0_0, .slice A0_1 l0_1.length c0_1]) (t := 25) ?hr ?_; (case hd => rfl); (case hg => rfl); (case hr => first | (go_simp; done) | (go_simp; rfl)); intro gb488 hg w11 hbox hb; have BK488 := Aside0.mk (hbox); have GW488 := Aside0.mk ((by rw [hg]; exact (below_size (Lz HB)) : w.heap.size ≤ gb488)); have GE488 := Aside0.mk ((by rw [hg]; exact (below_size (Lz HB)) : w.heap.size ≤ gb488)); replace HB := Aside0.mk (below_step (Lz HB) hb); clear hb hbox hg; have hcz12_0 : w11.cell? ⟨gb488, 0, none⟩ = some (.int .i64 a0_0) := (blk_cell BK488.out 0).trans rfl; have hcz12_1 : w11.cell? ⟨gb488, 1, none⟩ = some (.slice A0_1 l0_1.length c0_1) := (blk_cell BK488.out 1).trans rfl; have hfz12_0 := blk_frozen BK488.out 0; have hfz12_1 := blk_frozen BK488.out 1) | ((with_reducible refine gate_callee (f := 85) rfl ?_); refine goesM_ (some 7) rfl rfl Try.func85 (by kernel_rfl) rfl #[.agg #[.int .i64 a0_0, .slice A0_1 l0_1.length c0_1], .slice A1 l1.length c1] rfl ?_; (with_reducible refine (impl_DivisorOk.calls k a0_0 _ _ l0_1 _ _ l1 false _ ?side1 ?side2 ?side3 ?side4 A3.out).mono ?_); (case side1 => exact Cz ((Kd.C_below HR0_1.out HB.out))); (case side2 => exact HC0_1.out); (case side3 => exact Cz ((Kd.C_below HR1.out HB.out))); (case side4 => exact HC1.out); rintro e w13 ⟨rfl, hb⟩; refine ⟨_, rfl, ?_⟩; replace BK488 := Aside0.mk (blk_below (g := gb488) (o := .cells #[.int .i64 a0_0, .slice A0_1 l0_1.length c0_1] 25 (0, 0)) (Bz BK488) hb); replace HB := Aside0.mk (below_step (by exact Lz1 HB GE488) hb); (try clear hb); (try clear hb2); (try clear hk); (try clear hi)))
 go_ret
 exact ⟨by first | rfl | (simp [errW_none, errW_some] <;> rfl) | (simp [*, errW_none, errW_some] <;> rfl), by exact Lz1 HB GE488⟩
end Go.Proofs.Ytnebapnfkolflaa.P
end
section
namespace Go.Proofs.Ytnebapnfkolflaa.P
open Go.RowKit Go.Proofs.YtnebapnfkolflaaW.PrintWords Go.Proofs.YtnebapnfkolflaaW.PrintLast Go.Proofs.YtnebapnfkolflaaW.PrintMore
attribute [local go_sem] max2_int min2_int max_two min_two max_three min_three max_four min_four
set_option linter.unusedVariables false
set_option linter.unusedSimpArgs false
mutual
def laws_FnExactIsWinnable.j0 : Nat → List Int → Int → List (S95) → Option (Bool)
 | 0, _, _, _ => none
 | k + 1, x1, x492000, x492001 => (laws_szGraph.f x492000 x492001 1048576).bind fun t492 => (if t492 < 0 then (some true) else (laws_FnExactIsWinnable.j1 k x1 x492000 x492001))
def laws_FnExactIsWinnable.j1 : Nat → List Int → Int → List (S95) → Option (Bool)
 | 0, _, _, _ => none
 | k + 1, x1, x492000, x492001 => (laws_toGraph.f k x492000 x492001).bind fun bt493 => ((laws_toIntS.f k x1).bind fun t497 => ((spec_IsWinnable.f k bt493.1 bt493.2 t497).bind fun t500 => ((laws_toGraph.f k x492000 x492001).bind fun bt501 => ((laws_toIntS.f k x1).bind fun t506 => ((impl_IsWinnable.f k bt501.1 bt501.2 t506).bind fun t509 => (if (t509 != t500) = true then (some false) else (laws_FnExactIsWinnable.j2 k x1 t506 x492000 x492001 bt501.1 bt501.2)))))))
def laws_FnExactIsWinnable.j2 : Nat → List Int → List Int → Int → List (S95) → Int → List (S70) → Option (Bool)
 | 0, _, _, _, _, _, _ => none
 | k + 1, x1, x8, x492000, x492001, x506000, x506001 => (laws_toGraph.f k x492000 x492001).bind fun bt510 => ((laws_eqGraph.f k x506000 x506001 bt510.1 bt510.2).bind fun t514 => (if t514 = true then (laws_FnExactIsWinnable.j3 k x1 x8) else (some false)))
def laws_FnExactIsWinnable.j3 : Nat → List Int → List Int → Option (Bool)
 | 0, _, _ => none
 | k + 1, x1, x8 => (laws_toIntS.f k x1).bind fun t515 => ((laws_eqIntS.f k x8 t515).bind fun t518 => (if t518 = true then (some true) else (some false)))
end
def laws_FnExactIsWinnable.f (k : Nat) (a0_0 : Int) (l0_1 : List (S95)) (l1 : List Int) : Option (Bool) := if (l1.length : Int) > 1048576 then (some true) else (laws_FnExactIsWinnable.j0 k l1 a0_0 l0_1)
set_option maxHeartbeats 8000000 in
set_option maxRecDepth 100000 in
theorem laws_FnExactIsWinnable.calls (k : Nat) (a0_0 : Int) (A0_1 : Option Addr) (c0_1 : Nat) (l0_1 : List (S95)) (A1 : Option Addr) (c1 : Nat) (l1 : List Int) (r : Bool) (w : World) (hr0_1 : Kd.C k95 w A0_1 l0_1.length l0_1) (hc0_1 : l0_1.length ≤ c0_1) (hr1 : Kd.C (Kd.int .i64) w A1 l1.length l1) (hc1 : l1.length ≤ c1) (h : laws_FnExactIsWinnable.f k a0_0 l0_1 l1 = some r) :
  Calls Try.prog 9 #[.agg #[.int .i64 a0_0, .slice A0_1 l0_1.length c0_1], .slice A1 l1.length c1] w fun e w' => e = .returned (.bool r) ∧ Below w.heap.size w w' := by
 have hu37 := Try.underlying37
 have hu25 := Try.underlying25
 have HR0_1 := Aside0.mk hr0_1
 have HC0_1 := Aside0.mk hc0_1
 clear hr0_1 hc0_1
 have HR1 := Aside0.mk hr1
 have HC1 := Aside0.mk hc1
 clear hr1 hc1
 have HB := Aside0.mk (Below.refl w.heap.size w)
 have H : (if (l1.length : Int) > 1048576 then (some true) else (laws_FnExactIsWinnable.j0 k l1 a0_0 l0_1)) = some r := h
 clear h
 have HC3 := Aside0.mk H
 clear H
 go_enter Try.func9, Try.ntmps9
 go_upto_if 12 with (first | ((with_reducible refine gate_dst (N := 2) rfl ?_); refine box_event ?hg (N := 2) ?hd (cs := #[.int .i64 a0_0, .slice A0_1 l0_1.length c0_1]) (t := 37) ?hr ?_; (case hd => rfl); (case hg => rfl); (case hr => first | (go_simp; done) | (go_simp; rfl)); intro gb491 hg w4 hbox hb; have BK491 := Aside0.mk (hbox); have GW491 := Aside0.mk ((by rw [hg]; exact (below_size (Lz HB)) : w.heap.size ≤ gb491)); have GE491 := Aside0.mk ((by rw [hg]; exact (below_size (Lz HB)) : w.heap.size ≤ gb491)); replace HB := Aside0.mk (below_step (Lz HB) hb); clear hb hbox hg))
 (try simp only [Act.put, List.setIfInBounds_toArray, List.set_cons_zero, List.set_cons_succ])
 go_cut [] (fun wc => ∃ (kq : Nat), Aside0 (laws_FnExactIsWinnable.j0 kq l1 a0_0 l0_1 = some r) ∧ Aside0 (kq ≤ k) ∧ Aside0 (wc.heap[gb491]? = some (.cells #[.int .i64 a0_0, (.slice A0_1 l0_1.length c0_1)] 37 (0, 0))) ∧ Aside0 (Below w.heap.size w wc))
 case first =>
  have H := HC3.out
  clear HC3
  by_cases c5 : (l1.length : Int) > 1048576
  ·rw [if_pos c5] at H
   have c5b0 : decide (1048576 < (l1.length : Int)) = true := decide_eq_true c5
   have c5b1 : decide (1048576 < l1.length) = true := decide_eq_true (by omega)
   clear c5
   (first | rw [c5b0] | (simp only [i64_w, i32_w]; rw [c5b0]) | skip)
   obtain rfl := Option.some.inj H
   go_wp2
   go_ret
   exact ⟨by first | rfl | (simp [errW_none, errW_some] <;> rfl) | (simp [*, errW_none, errW_some] <;> rfl), by exact Lz1 HB GE491⟩
  rw [if_neg c5] at H
  have c5b0 : decide (1048576 < (l1.length : Int)) = false := decide_eq_false c5
  have c5b1 : decide (1048576 < l1.length) = false := decide_eq_false (by omega)
  clear c5
  (first | rw [c5b0] | (simp only [i64_w, i32_w]; rw [c5b0]) | skip)
  have H' := Aside0.mk H
  clear H
  go_wp2
  go_meet
  case rel => exact ⟨_, H', ⟨by first | omega | exact Nat.le_refl _⟩, ⟨by exact Bz BK491⟩, ⟨by exact Lz1 HB GE491⟩⟩
 case rest =>
  clear HC3
  try clear c1
  try clear c5
  try clear c5b0
  try clear c5b1
  obtain ⟨kq, HA, HJ2, BK491, HB⟩ := hcut
  cases kq with
  | zero => exact absurd HA.out (by simp [laws_FnExactIsWinnable.j0])
  | succ kj2 =>
   have H := HA.out
   clear HA
   simp only [laws_FnExactIsWinnable.j0] at H
   replace H := Option.bind_eq_some_iff.mp H
   obtain ⟨t492, A60, H⟩ := H
   replace H : (if t492 < 0 then (some true) else (laws_FnExactIsWinnable.j1 kj2 l1 a0_0 l0_1)) = some r := H
   have A6 := Aside0.mk A60
   clear A60
   have HC7 := Aside0.mk H
   clear H
   have hcz8_0 : wc.cell? ⟨gb491, 0, none⟩ = some (.int .i64 a0_0) := (blk_cell BK491.out 0).trans rfl
   have hcz8_1 : wc.cell? ⟨gb491, 1, none⟩ = some (.slice A0_1 l0_1.length c0_1) := (blk_cell BK491.out 1).trans rfl
   have hfz8_0 := blk_frozen BK491.out 0
   have hfz8_1 := blk_frozen BK491.out 1
   go_upto_if 17 with (first | ((with_reducible refine gate_callee (f := 23) rfl ?_); refine goesM_ (some 15) rfl rfl Try.func23 (by kernel_rfl) rfl #[.agg #[.int .i64 a0_0, .slice A0_1 l0_1.length c0_1], .int .i64 1048576] rfl ?_; (with_reducible refine (laws_szGraph.calls a0_0 _ _ l0_1 1048576 t492 _ ?side1 ?side2 A6.out).mono ?_); (case side1 => exact Cz ((Kd.C_below HR0_1.out HB.out))); (case side2 => exact HC0_1.out); rintro e w9 ⟨rfl, hb⟩; refine ⟨_, rfl, ?_⟩; replace BK491 := Aside0.mk (blk_below (g := gb491) (o := .cells #[.int .i64 a0_0, .slice A0_1 l0_1.length c0_1] 37 (0, 0)) (Bz BK491) hb); replace HB := Aside0.mk (below_step (by exact Lz1 HB GE491) hb); (try clear hb); (try clear hb2); (try clear hk); (try clear hi)))
   (try simp only [Act.put, List.setIfInBounds_toArray, List.set_cons_zero, List.set_cons_succ])
   go_cut [] (fun wc => ∃ (kq : Nat), Aside0 (laws_FnExactIsWinnable.j1 kq l1 a0_0 l0_1 = some r) ∧ Aside0 (kq ≤ kj2) ∧ Aside0 (wc.heap[gb491]? = some (.cells #[.int .i64 a0_0, (.slice A0_1 l0_1.length c0_1)] 37 (0, 0))) ∧ Aside0 (Below w.heap.size w wc))
   case first =>
    have H := HC7.out
    clear HC7
    by_cases c10 : t492 < 0
    ·rw [if_pos c10] at H
     have c10b0 : decide (t492 < 0) = true := decide_eq_true c10
     clear c10
     (first | rw [c10b0] | (simp only [i64_w, i32_w]; rw [c10b0]) | skip)
     obtain rfl := Option.some.inj H
     go_wp2
     go_ret
     exact ⟨by first | rfl | (simp [errW_none, errW_some] <;> rfl) | (simp [*, errW_none, errW_some] <;> rfl), by exact Lz1 HB GE491⟩
    rw [if_neg c10] at H
    have c10b0 : decide (t492 < 0) = false := decide_eq_false c10
    clear c10
    (first | rw [c10b0] | (simp only [i64_w, i32_w]; rw [c10b0]) | skip)
    have H' := Aside0.mk H
    clear H
    go_wp2
    go_meet
    case rel => exact ⟨_, H', ⟨by have := HJ2.out; first | omega | exact Nat.le_refl _⟩, ⟨by exact Bz BK491⟩, ⟨by exact Lz1 HB GE491⟩⟩
   case rest =>
    clear HC7
    try clear c1
    try clear c5
    try clear c5b0
    try clear c5b1
    try clear c10
    try clear c10b0
    obtain ⟨kq, HA, HJ6, BK491, HB⟩ := hcut
    cases kq with
    | zero => exact absurd HA.out (by simp [laws_FnExactIsWinnable.j1])
    | succ kj6 =>
     have H := HA.out
     clear HA
     simp only [laws_FnExactIsWinnable.j1] at H
     replace H := Option.bind_eq_some_iff.mp H
     obtain ⟨⟨t493, t494⟩, A110, H⟩ := H
     replace H : ((laws_toIntS.f kj6 l1).bind fun t497 => ((spec_IsWinnable.f kj6 t493 t494 t497).bind fun t500 => ((laws_toGraph.f kj6 a0_0 l0_1).bind fun bt501 => ((laws_toIntS.f kj6 l1).bind fun t506 => ((impl_IsWinnable.f kj6 bt501.1 bt501.2 t506).bind fun t509 => (if (t509 != t500) = true then (some false) else (laws_FnExactIsWinnable.j2 kj6 l1 t506 a0_0 l0_1 bt501.1 bt501.2))))))) = some r := H
     have A11 := Aside0.mk A110
     clear A110
     replace H := Option.bind_eq_some_iff.mp H
     obtain ⟨t497, A120, H⟩ := H
     replace H : ((spec_IsWinnable.f kj6 t493 t494 t497).bind fun t500 => ((laws_toGraph.f kj6 a0_0 l0_1).bind fun bt501 => ((laws_toIntS.f kj6 l1).bind fun t506 => ((impl_IsWinnable.f kj6 bt501.1 bt501.2 t506).bind fun t509 => (if (t509 != t500) = true then (some false) else (laws_FnExactIsWinnable.j2 kj6 l1 t506 a0_0 l0_1 bt501.1 bt501.2)))))) = some r := H
     have A12 := Aside0.mk A120
     clear A120
     replace H := Option.bind_eq_some_iff.mp H
     obtain ⟨t500, A130, H⟩ := H
     replace H : ((laws_toGraph.f kj6 a0_0 l0_1).bind fun bt501 => ((laws_toIntS.f kj6 l1).bind fun t506 => ((impl_IsWinnable.f kj6 bt501.1 bt501.2 t506).bind fun t509 => (if (t509 != t500) = true then (some false) else (laws_FnExactIsWinnable.j2 kj6 l1 t506 a0_0 l0_1 bt501.1 bt501.2))))) = some r := H
     have A13 := Aside0.mk A130
     clear A130
     replace H := Option.bind_eq_some_iff.mp H
     obtain ⟨⟨t501, t502⟩, A140, H⟩ := H
     replace H : ((laws_toIntS.f kj6 l1).bind fun t506 => ((impl_IsWinnable.f kj6 t501 t502 t506).bind fun t509 => (if (t509 != t500) = true then (some false) else (laws_FnExactIsWinnable.j2 kj6 l1 t506 a0_0 l0_1 t501 t502)))) = some r := H
     have A14 := Aside0.mk A140
     clear A140
     replace H := Option.bind_eq_some_iff.mp H
     obtain ⟨t506, A150, H⟩ := H
     replace H : ((impl_IsWinnable.f kj6 t501 t502 t506).bind fun t509 => (if (t509 != t500) = true then (some false) else (laws_FnExactIsWinnable.j2 kj6 l1 t506 a0_0 l0_1 t501 t502))) = some r := H
     have A15 := Aside0.mk A150
     clear A150
     replace H := Option.bind_eq_some_iff.mp H
     obtain ⟨t509, A160, H⟩ := H
     replace H : (if (t509 != t500) = true then (some false) else (laws_FnExactIsWinnable.j2 kj6 l1 t506 a0_0 l0_1 t501 t502)) = some r := H
     have A16 := Aside0.mk A160
     clear A160
     have HC17 := Aside0.mk H
     clear H
     have hcz18_0 : wc.cell? ⟨gb491, 0, none⟩ = some (.int .i64 a0_0) := (blk_cell BK491.out 0).trans rfl
     have hcz18_1 : wc.cell? ⟨gb491, 1, none⟩ = some (.slice A0_1 l0_1.length c0_1) := (blk_cell BK491.out 1).trans rfl
     have hfz18_0 := blk_frozen BK491.out 0
     have hfz18_1 := blk_frozen BK491.out 1
     go_upto_if 32 with (first | ((with_reducible refine gate_callee (f := 25) rfl ?_); refine goesM_ (some 19) rfl rfl Try.func25 (by kernel_rfl) rfl #[.agg #[.int .i64 a0_0, .slice A0_1 l0_1.length c0_1]] rfl ?_; (with_reducible refine (laws_toGraph.calls kj6 a0_0 _ _ l0_1 t493 t494 _ ?side1 ?side2 A11.out).mono ?_); (case side1 => exact Cz ((Kd.C_below HR0_1.out HB.out))); (case side2 => exact HC0_1.out); rintro e w19 ⟨v495, rfl, ho0, hb⟩; refine ⟨_, rfl, ?_⟩; have HO496 := Aside0.mk (Kd.R_lower ho0 (below_size (by exact Lz1 HB GE491))); replace BK491 := Aside0.mk (blk_below (g := gb491) (o := .cells #[.int .i64 a0_0, .slice A0_1 l0_1.length c0_1] 37 (0, 0)) (Bz BK491) hb); replace HB := Aside0.mk (below_step (by exact Lz1 HB GE491) hb); (try clear hb); (try clear ho0)) | ((with_reducible refine gate_callee (f := 26) rfl ?_); refine goesM_ (some 21) rfl rfl Try.func26 (by kernel_rfl) rfl #[.slice A1 l1.length c1] rfl ?_; (with_reducible refine (laws_toIntS.calls kj6 _ _ l1 t497 _ ?side1 ?side2 A12.out).mono ?_); (case side1 => exact Cz ((Kd.C_below HR1.out HB.out))); (case side2 => exact HC1.out); rintro e w20 ⟨v498, rfl, ho0, hb⟩; refine ⟨_, rfl, ?_⟩; replace HO496 := Aside0.mk (Kd.R_below (Rz HO496) hb); have HO499 := Aside0.mk (Kd.R_lower ho0 (below_size (by exact Lz1 HB GE491))); replace BK491 := Aside0.mk (blk_below (g := gb491) (o := .cells #[.int .i64 a0_0, .slice A0_1 l0_1.length c0_1] 37 (0, 0)) (Bz BK491) hb); replace HB := Aside0.mk (below_step (by exact Lz1 HB GE491) hb); (try clear hb); (try clear ho0); obtain ⟨Ao21, co21, eo21⟩ := Kd.R_slice HO496.out; subst eo21; obtain ⟨Ao22, co22, eo22⟩ := Kd.R_slice HO499.out; subst eo22) | ((with_reducible refine gate_callee (f := 39) rfl ?_); refine goesM_ (some 22) rfl rfl Try.func39 (by kernel_rfl) rfl #[.agg #[.int .i64 t493, .slice Ao21 t494.length co21], .slice Ao22 t497.length co22] rfl ?_; (with_reducible refine (spec_IsWinnable.calls kj6 t493 _ _ t494 _ _ t497 t500 _ ?side1 ?side2 ?side3 ?side4 A13.out).mono ?_); (case side1 => exact Cz ((Kd.R_reads' HO496.out).2.2)); (case side2 => exact (Kd.R_reads' HO496.out).2.1); (case side3 => exact Cz ((Kd.R_reads' HO499.out).2.2)); (case side4 => exact (Kd.R_reads' HO499.out).2.1); rintro e w23 ⟨rfl, hb⟩; refine ⟨_, rfl, ?_⟩; replace HO496 := Aside0.mk (Kd.R_below (Rz HO496) hb); replace HO499 := Aside0.mk (Kd.R_below (Rz HO499) hb); replace BK491 := Aside0.mk (blk_below (g := gb491) (o := .cells #[.int .i64 a0_0, .slice A0_1 l0_1.length c0_1] 37 (0, 0)) (Bz BK491) hb); replace HB := Aside0.mk (below_step (by exact Lz1 HB GE491) hb); (try clear hb); (try clear hb2); (try clear hk); (try clear hi); have hcz24_0 : w23.cell? ⟨gb491, 0, none⟩ = some (.int .i64 a0_0) := (blk_cell BK491.out 0).trans rfl; have hcz24_1 : w23.cell? ⟨gb491, 1, none⟩ = some (.slice A0_1 l0_1.length c0_1) := (blk_cell BK491.out 1).trans rfl; have hfz24_0 := blk_frozen BK491.out 0; have hfz24_1 := blk_frozen BK491.out 1) | ((with_reducible refine gate_callee (f := 25) rfl ?_); refine goesM_ (some 24) rfl rfl Try.func25 (by kernel_rfl) rfl #[.agg #[.int .i64 a0_0, .slice A0_1 l0_1.length c0_1]] rfl ?_; (with_reducible refine (laws_toGraph.calls kj6 a0_0 _ _ l0_1 t501 t502 _ ?side1 ?side2 A14.out).mono ?_); (case side1 => exact Cz ((Kd.C_below HR0_1.out HB.out))); (case side2 => exact HC0_1.out); rintro e w25 ⟨v503, rfl, ho0, hb⟩; refine ⟨_, rfl, ?_⟩; replace HO499 := Aside0.mk (Kd.R_below (Rz HO499) hb); have HO504 := Aside0.mk (Kd.R_lower (Kd.R_new' ho0 (Kd.R_lt (Rz HO496))) (below_size (by exact Lz1 HB GE491))); replace HO496 := Aside0.mk (Kd.R_elder' (Rz HO496) (Kd.R_base ho0) hb); replace BK491 := Aside0.mk (blk_below (g := gb491) (o := .cells #[.int .i64 a0_0, .slice A0_1 l0_1.length c0_1] 37 (0, 0)) (Bz BK491) hb); replace HB := Aside0.mk (below_step (by exact Lz1 HB GE491) hb); (try clear hb); (try clear ho0)) | ((with_reducible refine gate_dst (N := 7) rfl ?_); refine box_event ?hg (N := 7) ?hd (cs := #[.int .i64 0, .slice none 0 0]) (t := 25) ?hr ?_; (case hd => rfl); (case hg => rfl); (case hr => first | (go_simp; done) | (go_simp; rfl)); intro gb505 hg w26 hbox hb; replace HO496 := Aside0.mk (Kd.R_below (Rz HO496) hb); replace HO499 := Aside0.mk (Kd.R_below (Rz HO499) hb); replace HO504 := Aside0.mk (Kd.R_below (Rz HO504) hb); have BK505 := Aside0.mk (hbox); have GW505 := Aside0.mk ((by rw [hg]; exact (below_size (by exact Lz1 HB GE491)) : w.heap.size ≤ gb505)); have GE505 := Aside0.mk ((by rw [hg]; exact (below_size (by exact Lz1 HB GE491)) : w.heap.size ≤ gb505)); replace HB := Aside0.mk (below_step (by exact Lz1 HB GE491) hb); have NB491_505 := Aside0.mk ((by rw [hg]; exact Nat.ne_of_lt (blk_lt (g := gb491) (o := .cells #[.int .i64 a0_0, .slice A0_1 l0_1.length c0_1] 37 (0, 0)) (Bz BK491)) : gb491 ≠ gb505)); have NB505_491 := Aside0.mk ((by rw [hg]; exact Nat.ne_of_gt (blk_lt (g := gb491) (o := .cells #[.int .i64 a0_0, .slice A0_1 l0_1.length c0_1] 37 (0, 0)) (Bz BK491)) : gb505 ≠ gb491)); replace BK491 := Aside0.mk (blk_below (g := gb491) (o := .cells #[.int .i64 a0_0, .slice A0_1 l0_1.length c0_1] 37 (0, 0)) (Bz BK491) hb); clear hb hbox hg; have hnb27 := NB505_491.out; have hnc27 := NB491_505.out; have hcz28_0 : w26.cell? ⟨gb505, 0, none⟩ = some (.int .i64 0) := (blk_cell BK505.out 0).trans rfl; have hcz28_1 : w26.cell? ⟨gb505, 1, none⟩ = some (.slice none 0 0) := (blk_cell BK505.out 1).trans rfl; have hfz28_0 := blk_frozen BK505.out 0; have hfz28_1 := blk_frozen BK505.out 1; obtain ⟨Ao29, co29, eo29⟩ := Kd.R_slice HO504.out; subst eo29) | ((with_reducible refine gate_callee (f := 26) rfl ?_); refine goesM_ (some 26) rfl rfl Try.func26 (by kernel_rfl) rfl #[.slice A1 l1.length c1] rfl ?_; (with_reducible refine (laws_toIntS.calls kj6 _ _ l1 t506 _ ?side1 ?side2 A15.out).mono ?_); (case side1 => exact Kd.C_below HR1.out (by exact Lz2 HB GE491 GE505)); (case side2 => exact HC1.out); rintro e w30 ⟨v507, rfl, ho0, hb⟩; refine ⟨_, rfl, ?_⟩; replace HO496 := Aside0.mk (Kd.R_below (by (with_reducible repeat (first | apply Kd.R_alloc | apply Kd.R_drewN | apply Kd.R_drew)); exact (Kd.R_mono (Kd.R_far (p := ⟨gb505, 1, none⟩) (Kd.R_far (p := ⟨gb505, 0, none⟩) (Kd.R_types HO496.out BK505.out (by decide)) (fun _ hk => hk.2) (.int .i64 t501)) (fun _ hk => hk.2) (.slice Ao29 t502.length co29)) (fun _ h_ => h_.1))) hb); replace HO504 := Aside0.mk (Kd.R_below (by (with_reducible repeat (first | apply Kd.R_alloc | apply Kd.R_drewN | apply Kd.R_drew)); exact (Kd.R_mono (Kd.R_far (p := ⟨gb505, 1, none⟩) (Kd.R_far (p := ⟨gb505, 0, none⟩) (Kd.R_types HO504.out BK505.out (by decide)) (fun _ hk => hk.2) (.int .i64 t501)) (fun _ hk => hk.2) (.slice Ao29 t502.length co29)) (fun _ h_ => h_.1))) hb); have HO508 := Aside0.mk (Kd.R_lower (Kd.R_new' ho0 (Kd.R_lt (by (with_reducible repeat (first | apply Kd.R_alloc | apply Kd.R_drewN | apply Kd.R_drew)); exact (Kd.R_mono (Kd.R_far (p := ⟨gb505, 1, none⟩) (Kd.R_far (p := ⟨gb505, 0, none⟩) (Kd.R_types HO499.out BK505.out (by decide)) (fun _ hk => hk.2) (.int .i64 t501)) (fun _ hk => hk.2) (.slice Ao29 t502.length co29)) (fun _ h_ => h_.1))))) (below_size (by exact Lz2 HB GE491 GE505))); replace HO499 := Aside0.mk (Kd.R_elder' (by (with_reducible repeat (first | apply Kd.R_alloc | apply Kd.R_drewN | apply Kd.R_drew)); exact (Kd.R_mono (Kd.R_far (p := ⟨gb505, 1, none⟩) (Kd.R_far (p := ⟨gb505, 0, none⟩) (Kd.R_types HO499.out BK505.out (by decide)) (fun _ hk => hk.2) (.int .i64 t501)) (fun _ hk => hk.2) (.slice Ao29 t502.length co29)) (fun _ h_ => h_.1))) (Kd.R_base ho0) hb); replace BK491 := Aside0.mk (blk_below (g := gb491) (o := .cells #[.int .i64 a0_0, .slice A0_1 l0_1.length c0_1] 37 (0, 0)) (by (with_reducible repeat (first | refine blk_drewN ?_ _ | refine blk_drew ?_ | refine blk_alloc ?_ _)); refine blk_far ?_ NB491_505.out _; (with_reducible repeat (first | refine blk_drewN ?_ _ | refine blk_drew ?_ | refine blk_alloc ?_ _)); refine blk_far ?_ NB491_505.out _; exact Bz BK491) hb); replace BK505 := Aside0.mk (blk_below (g := gb505) (o := .cells #[.int .i64 t501, .slice Ao29 t502.length co29] 25 (0, 0)) (by (with_reducible repeat (first | refine blk_drewN ?_ _ | refine blk_drew ?_ | refine blk_alloc ?_ _)); refine blk_put (cs := #[.int .i64 t501, .slice none 0 0]) ?_ 1 _ rfl; (with_reducible repeat (first | refine blk_drewN ?_ _ | refine blk_drew ?_ | refine blk_alloc ?_ _)); refine blk_put (cs := #[.int .i64 0, .slice none 0 0]) ?_ 0 _ rfl; exact Bz BK505) hb); replace HB := Aside0.mk (below_step (by exact Lz2 HB GE491 GE505) hb); (try clear hb); (try clear ho0); have hcz31_0 : w30.cell? ⟨gb505, 0, none⟩ = some (.int .i64 t501) := (blk_cell BK505.out 0).trans rfl; have hcz31_1 : w30.cell? ⟨gb505, 1, none⟩ = some (.slice Ao29 t502.length co29) := (blk_cell BK505.out 1).trans rfl; have hfz31_0 := blk_frozen BK505.out 0; have hfz31_1 := blk_frozen BK505.out 1; obtain ⟨Ao32, co32, eo32⟩ := Kd.R_slice HO508.out; subst eo32) | ((with_reducible refine gate_callee (f := 40) rfl ?_); refine goesM_ (some 29) rfl rfl Try.func40 (by kernel_rfl) rfl #[.agg #[.int .i64 t501, .slice Ao29 t502.length co29], .slice Ao32 t506.length co32] rfl ?_; (with_reducible refine (impl_IsWinnable.calls kj6 t501 _ _ t502 _ _ t506 t509 _ ?side1 ?side2 ?side3 ?side4 A16.out).mono ?_); (case side1 => exact Cz ((Kd.R_reads' HO504.out).2.2)); (case side2 => exact (Kd.R_reads' HO504.out).2.1); (case side3 => exact Cz ((Kd.R_reads' HO508.out).2.2)); (case side4 => exact (Kd.R_reads' HO508.out).2.1); rintro e w33 ⟨rfl, hb⟩; refine ⟨_, rfl, ?_⟩; replace HO496 := Aside0.mk (Kd.R_below (Rz HO496) hb); replace HO499 := Aside0.mk (Kd.R_below (Rz HO499) hb); replace HO504 := Aside0.mk (Kd.R_below (Rz HO504) hb); replace HO508 := Aside0.mk (Kd.R_below (Rz HO508) hb); replace BK491 := Aside0.mk (blk_below (g := gb491) (o := .cells #[.int .i64 a0_0, .slice A0_1 l0_1.length c0_1] 37 (0, 0)) (Bz BK491) hb); replace BK505 := Aside0.mk (blk_below (g := gb505) (o := .cells #[.int .i64 t501, .slice Ao29 t502.length co29] 25 (0, 0)) (Bz BK505) hb); replace HB := Aside0.mk (below_step (by exact Lz2 HB GE491 GE505) hb); (try clear hb); (try clear hb2); (try clear hk); (try clear hi)))
     (try simp only [Act.put, List.setIfInBounds_toArray, List.set_cons_zero, List.set_cons_succ])
     go_cut [] (fun wc => ∃ (kq : Nat), Aside0 (laws_FnExactIsWinnable.j2 kq l1 t506 a0_0 l0_1 t501 t502 = some r) ∧ Aside0 (kq ≤ kj6) ∧ Aside0 (Kd.R (Kd.int .i64) 3 wc w.heap.size (fun _ => True) (.slice Ao32 t506.length co32) t506) ∧ Aside0 (Kd.R k70 70 wc w.heap.size (fun _ => True) (.slice Ao29 t502.length co29) t502) ∧ Aside0 (wc.heap[gb491]? = some (.cells #[.int .i64 a0_0, (.slice A0_1 l0_1.length c0_1)] 37 (0, 0))) ∧ Aside0 (wc.heap[gb505]? = some (.cells #[.int .i64 t501, (.slice Ao29 t502.length co29)] 25 (0, 0))) ∧ Aside0 (Below w.heap.size w wc))
     case first =>
      have H := HC17.out
      clear HC17
      by_cases c34 : (t509 != t500) = true
      ·rw [if_pos c34] at H
       have c34b0 : (t509 != t500) = true := c34
       (try (have c34b1 : decide (t509 = t500) = false := by simpa using c34))
       (try (have c34b2 : (t509 == t500) = false := by simpa using c34))
       (try (have c34b3 : ¬ (t509 = t500) := by simpa using c34))
       clear c34
       (first | rw [c34b0] | (simp only [i64_w, i32_w]; rw [c34b0]) |(simp only [c34b2, Bool.not_false, Bool.not_true]) | skip)
       obtain rfl := Option.some.inj H
       go_wp2
       go_ret
       exact ⟨by first | rfl | (simp [errW_none, errW_some] <;> rfl) | (simp [*, errW_none, errW_some] <;> rfl), by exact Lz2 HB GE491 GE505⟩
      rw [if_neg c34] at H
      have c34b0 : (t509 != t500) = false := by simpa using c34
      (try (have c34b1 : decide (t509 = t500) = true := by simpa using c34))
      (try (have c34b2 : (t509 == t500) = true := by simpa using c34))
      clear c34
      (first | rw [c34b0] | (simp only [i64_w, i32_w]; rw [c34b0]) |(simp only [c34b2, Bool.not_false, Bool.not_true]) | skip)
      have H' := Aside0.mk H
      clear H
      go_wp2
      go_meet
      case rel => exact ⟨_, H', ⟨by have := HJ2.out; have := HJ6.out; first | omega | exact Nat.le_refl _⟩, ⟨by (with_reducible repeat (first | apply Kd.R_alloc | apply Kd.R_drewN | apply Kd.R_drew)); exact Kd.R_mono HO508.out (fun _ hk => trivial)⟩, ⟨by (with_reducible repeat (first | apply Kd.R_alloc | apply Kd.R_drewN | apply Kd.R_drew)); exact Kd.R_mono HO504.out (fun _ hk => trivial)⟩, ⟨by exact Bz BK491⟩, ⟨by exact Bz BK505⟩, ⟨by exact Lz2 HB GE491 GE505⟩⟩
     case rest =>
      clear HC17
      try clear c1
      try clear c5
      try clear c5b0
      try clear c5b1
      try clear c10
      try clear c10b0
      try clear c34
      try clear c34b0
      try clear c34b1
      try clear c34b2
      obtain ⟨kq, HA, HJ16, HO_8, HO_506001, BK491, BK505, HB⟩ := hcut
      cases kq with
      | zero => exact absurd HA.out (by simp [laws_FnExactIsWinnable.j2])
      | succ kj16 =>
       have H := HA.out
       clear HA
       simp only [laws_FnExactIsWinnable.j2] at H
       replace H := Option.bind_eq_some_iff.mp H
       obtain ⟨⟨t510, t511⟩, A350, H⟩ := H
       replace H : ((laws_eqGraph.f kj16 t501 t502 t510 t511).bind fun t514 => (if t514 = true then (laws_FnExactIsWinnable.j3 kj16 l1 t506) else (some false))) = some r := H
       have A35 := Aside0.mk A350
       clear A350
       replace H := Option.bind_eq_some_iff.mp H
       obtain ⟨t514, A360, H⟩ := H
       replace H : (if t514 = true then (laws_FnExactIsWinnable.j3 kj16 l1 t506) else (some false)) = some r := H
       have A36 := Aside0.mk A360
       clear A360
       have HC37 := Aside0.mk H
       clear H
       try go_wp2
       replace HO_8 := Aside0.mk (Kd.R_drew HO_8.out)
       replace HO_506001 := Aside0.mk (Kd.R_drew HO_506001.out)
       replace BK491 := Aside0.mk (blk_drew BK491.out)
       replace BK505 := Aside0.mk (blk_drew BK505.out)
       replace HB := Aside0.mk (below_drew1 HB.out)
       refine start_ (n := 5) (S := fun w' => w'.cell? ⟨gb505, 0, none⟩ = some (.int .i64 t501) ∧ w'.cell? ⟨gb505, 1, none⟩ = some (.slice Ao29 t502.length co29) ∧ w'.cell? ⟨gb491, 0, none⟩ = some (.int .i64 a0_0) ∧ w'.cell? ⟨gb491, 1, none⟩ = some (.slice A0_1 l0_1.length c0_1)) (ds := []) #[false, false, false, false, false] (by kernel_rfl) rfl rfl ⟨(blk_cell BK505.out 0).trans rfl, (blk_cell BK505.out 1).trans rfl, (blk_cell BK491.out 0).trans rfl, (blk_cell BK491.out 1).trans rfl⟩ (fun hHeld => ?_)
       generalize wc.drew = w38 at HO_8 HO_506001 BK491 BK505 HB hHeld ⊢
       refine take_ (i := 0) (N := some 33) (v := ?_) (a' := ?_) #[true, false, false, false, false] rfl rfl (by kernel_rfl) (fun _ _ _ h => h) (Or.inl ⟨by rfl, ?_⟩) hHeld ?_ ?_
       rotate_left
       ·rintro w' ⟨s0, s1, s2, s3⟩
        go_simp
        with_reducible rfl
       rotate_left
       ·simp only [Act.put, List.setIfInBounds_toArray, List.set_cons_zero, List.set_cons_succ, i64_w, i32_w]
        rfl
       refine take_ (i := 1) (N := some 34) (v := ?_) (a' := ?_) #[true, true, false, false, false] rfl rfl (by kernel_rfl) (fun _ _ _ h => h) (Or.inl ⟨by rfl, ?_⟩) hHeld ?_ ?_
       rotate_left
       ·rintro w' ⟨s0, s1, s2, s3⟩
        go_simp
        with_reducible rfl
       rotate_left
       ·simp only [Act.put, List.setIfInBounds_toArray, List.set_cons_zero, List.set_cons_succ, i64_w, i32_w]
        rfl
       refine one_ (i := 2) (N := some 35) #[true, true, true, false, false] rfl rfl (by kernel_rfl) (by decide) (fun K hK => ?_)
       refine goes_ Try.func25 (by kernel_rfl) rfl #[.agg #[.int .i64 a0_0, .slice A0_1 l0_1.length c0_1]] (by rfl) rfl rfl (by (try simp only [List.map_toArray, List.map_cons, List.map_nil]); first | done | rfl | (simp only [List.length_drop, List.length_take]; rfl)) ?_
       with_reducible refine (laws_toGraph.calls kj16 a0_0 _ _ l0_1 t510 t511 _ ?side1 ?side2 A35.out).mono ?_
       (case side1 => exact Cz ((Kd.C_below HR0_1.out HB.out)))
       (case side2 => exact HC0_1.out)
       rintro e w39 ⟨v512, rfl, ho0, hb⟩
       refine ⟨_, rfl, ?_⟩
       replace HO_8 := Aside0.mk (Kd.R_below (Rz HO_8) hb)
       have HO513 := Aside0.mk (Kd.R_lower (Kd.R_new' ho0 (Kd.R_lt (Rz HO_506001))) (below_size (by exact Lz2 HB GE491 GE505)))
       replace HO_506001 := Aside0.mk (Kd.R_elder' (Rz HO_506001) (Kd.R_base ho0) hb)
       replace BK491 := Aside0.mk (blk_below (g := gb491) (o := .cells #[.int .i64 a0_0, .slice A0_1 l0_1.length c0_1] 37 (0, 0)) (Bz BK491) hb)
       replace BK505 := Aside0.mk (blk_below (g := gb505) (o := .cells #[.int .i64 t501, .slice Ao29 t502.length co29] 25 (0, 0)) (Bz BK505) hb)
       replace HB := Aside0.mk (below_step (by exact Lz2 HB GE491 GE505) hb)
       (try clear hb)
       (try clear hb2)
       (try clear hk)
       (try clear hi)
       (try clear ho0)
       obtain ⟨Ao40, co40, eo40⟩ := Kd.R_slice HO513.out
       (first | subst eo40 | (injection eo40 with f1_ f2_ f3_; have f4_ := f1_.symm; have f5_ := f3_.symm; clear f1_ f2_ f3_; subst f4_; subst f5_))
       refine hK.out _ _ ⟨(blk_cell BK505.out 0).trans rfl, (blk_cell BK505.out 1).trans rfl, (blk_cell BK491.out 0).trans rfl, (blk_cell BK491.out 1).trans rfl⟩ (fun hHeld => ?_)
       clear hK K
       refine norm_ (a' := ?_) ?_ ?_
       rotate_left
       ·show Act.put _ (some 35) _ = _
        simp only [Act.put, List.setIfInBounds_toArray, List.set_cons_zero, List.set_cons_succ, i64_w, i32_w]
        rfl
       refine one_ (i := 3) (N := some 36) #[true, true, true, true, false] rfl rfl (by kernel_rfl) (by decide) (fun K hK => ?_)
       refine goes_ Try.func29 (by kernel_rfl) rfl #[.agg #[.int .i64 t501, .slice Ao29 t502.length co29], .agg #[.int .i64 t510, .slice Ao40 t511.length co40]] (by rfl) rfl rfl (by (try simp only [List.map_toArray, List.map_cons, List.map_nil]); first | done | rfl | (simp only [List.length_drop, List.length_take]; rfl)) ?_
       with_reducible refine (laws_eqGraph.calls kj16 t501 _ _ t502 t510 _ _ t511 t514 _ ?side1 ?side2 ?side3 ?side4 A36.out).mono ?_
       (case side1 => exact Cz ((Kd.R_reads' HO_506001.out).2.2))
       (case side2 => exact (Kd.R_reads' HO_506001.out).2.1)
       (case side3 => exact Cz ((Kd.R_reads' HO513.out).2.2))
       (case side4 => exact (Kd.R_reads' HO513.out).2.1)
       rintro e w41 ⟨rfl, hb⟩
       refine ⟨_, rfl, ?_⟩
       replace HO_8 := Aside0.mk (Kd.R_below (Rz HO_8) hb)
       replace HO_506001 := Aside0.mk (Kd.R_below (Rz HO_506001) hb)
       replace HO513 := Aside0.mk (Kd.R_below (Rz HO513) hb)
       replace BK491 := Aside0.mk (blk_below (g := gb491) (o := .cells #[.int .i64 a0_0, .slice A0_1 l0_1.length c0_1] 37 (0, 0)) (Bz BK491) hb)
       replace BK505 := Aside0.mk (blk_below (g := gb505) (o := .cells #[.int .i64 t501, .slice Ao29 t502.length co29] 25 (0, 0)) (Bz BK505) hb)
       replace HB := Aside0.mk (below_step (by exact Lz2 HB GE491 GE505) hb)
       (try clear hb)
       (try clear hb2)
       (try clear hk)
       (try clear hi)
       refine hK.out _ _ ⟨(blk_cell BK505.out 0).trans rfl, (blk_cell BK505.out 1).trans rfl, (blk_cell BK491.out 0).trans rfl, (blk_cell BK491.out 1).trans rfl⟩ (fun hHeld => ?_)
       clear hK K
       refine norm_ (a' := ?_) ?_ ?_
       rotate_left
       ·show Act.put _ (some 36) _ = _
        simp only [Act.put, List.setIfInBounds_toArray, List.set_cons_zero, List.set_cons_succ, i64_w, i32_w]
        rfl
       refine pure_ (i := 4) (N := some 37) (v := ?_) (a' := ?_) #[true, true, true, true, true] rfl rfl (by kernel_rfl) (fun _ _ _ h => h) (Or.inl ⟨by rfl, ?_⟩) ?_ ?_
       rotate_left
       ·intro w'
        go_simp
        with_reducible rfl
       rotate_left
       ·simp only [Act.put, List.setIfInBounds_toArray, List.set_cons_zero, List.set_cons_succ, i64_w, i32_w]
        rfl
       refine done_ (by kernel_rfl) ?_
       go_upto_if 37 with (fail)
       go_cut [] (fun wc => ∃ (kq : Nat), Aside0 (laws_FnExactIsWinnable.j3 kq l1 t506 = some r) ∧ Aside0 (kq ≤ kj16) ∧ Aside0 (Kd.R (Kd.int .i64) 3 wc w.heap.size (fun _ => True) (.slice Ao32 t506.length co32) t506) ∧ Aside0 (Kd.R k70 70 wc w.heap.size (fun _ => True) (.slice Ao29 t502.length co29) t502) ∧ Aside0 (wc.heap[gb491]? = some (.cells #[.int .i64 a0_0, (.slice A0_1 l0_1.length c0_1)] 37 (0, 0))) ∧ Aside0 (wc.heap[gb505]? = some (.cells #[.int .i64 t501, (.slice Ao29 t502.length co29)] 25 (0, 0))) ∧ Aside0 (Below w.heap.size w wc))
       case first =>
        have H := HC37.out
        clear HC37
        by_cases c42 : t514 = true
        ·subst c42
         have H1 : (laws_FnExactIsWinnable.j3 kj16 l1 t506) = some r := by rw [if_pos rfl] at H; exact H
         clear H
         have H := H1
         clear H1
         have H' := Aside0.mk H
         clear H
         go_wp2
         go_meet
         case rel => exact ⟨_, H', ⟨by have := HJ2.out; have := HJ6.out; have := HJ16.out; first | omega | exact Nat.le_refl _⟩, ⟨by exact Rz HO_8⟩, ⟨by (with_reducible repeat (first | apply Kd.R_alloc | apply Kd.R_drewN | apply Kd.R_drew)); exact Kd.R_mono HO_506001.out (fun _ hk => trivial)⟩, ⟨by exact Bz BK491⟩, ⟨by exact Bz BK505⟩, ⟨by exact Lz2 HB GE491 GE505⟩⟩
        replace c42 := Bool.eq_false_iff.mpr c42
        subst c42
        have H1 : (some false) = some r := by rw [if_neg (show ¬ (false = true) by decide)] at H; exact H
        clear H
        have H := H1
        clear H1
        obtain rfl := Option.some.inj H
        go_wp2
        go_ret
        exact ⟨by first | rfl | (simp [errW_none, errW_some] <;> rfl) | (simp [*, errW_none, errW_some] <;> rfl), by exact Lz2 HB GE491 GE505⟩
       case rest =>
        clear HC37
        try clear c1
        try clear c5
        try clear c5b0
        try clear c5b1
        try clear c10
        try clear c10b0
        try clear c34
        try clear c34b0
        try clear c34b1
        try clear c34b2
        try clear c42
        obtain ⟨kq, HA, HJ36, HO_8, HO_506001, BK491, BK505, HB⟩ := hcut
        cases kq with
        | zero => exact absurd HA.out (by simp [laws_FnExactIsWinnable.j3])
        | succ kj36 =>
         have H := HA.out
         clear HA
         simp only [laws_FnExactIsWinnable.j3] at H
         replace H := Option.bind_eq_some_iff.mp H
         obtain ⟨t515, A430, H⟩ := H
         replace H : ((laws_eqIntS.f kj36 t506 t515).bind fun t518 => (if t518 = true then (some true) else (some false))) = some r := H
         have A43 := Aside0.mk A430
         clear A430
         replace H := Option.bind_eq_some_iff.mp H
         obtain ⟨t518, A440, H⟩ := H
         replace H : (if t518 = true then (some true) else (some false)) = some r := H
         have A44 := Aside0.mk A440
         clear A440
         by_cases c45 : t518 = true
         ·subst c45
          have H1 : (some true) = some r := by rw [if_pos rfl] at H; exact H
          clear H
          have H := H1
          clear H1
          obtain rfl := Option.some.inj H
          go_wp2_with (first | ((with_reducible refine gate_callee (f := 26) rfl ?_); refine goesM_ (some 40) rfl rfl Try.func26 (by kernel_rfl) rfl #[.slice A1 l1.length c1] rfl ?_; (with_reducible refine (laws_toIntS.calls kj36 _ _ l1 t515 _ ?side1 ?side2 A43.out).mono ?_); (case side1 => exact Cz ((Kd.C_below HR1.out HB.out))); (case side2 => exact HC1.out); rintro e w46 ⟨v516, rfl, ho0, hb⟩; refine ⟨_, rfl, ?_⟩; replace HO_506001 := Aside0.mk (Kd.R_below (Rz HO_506001) hb); have HO517 := Aside0.mk (Kd.R_lower (Kd.R_new' ho0 (Kd.R_lt (Rz HO_8))) (below_size (by exact Lz2 HB GE491 GE505))); replace HO_8 := Aside0.mk (Kd.R_elder' (Rz HO_8) (Kd.R_base ho0) hb); replace BK491 := Aside0.mk (blk_below (g := gb491) (o := .cells #[.int .i64 a0_0, .slice A0_1 l0_1.length c0_1] 37 (0, 0)) (Bz BK491) hb); replace BK505 := Aside0.mk (blk_below (g := gb505) (o := .cells #[.int .i64 t501, .slice Ao29 t502.length co29] 25 (0, 0)) (Bz BK505) hb); replace HB := Aside0.mk (below_step (by exact Lz2 HB GE491 GE505) hb); (try clear hb); (try clear ho0); obtain ⟨Ao47, co47, eo47⟩ := Kd.R_slice HO517.out; subst eo47) | ((with_reducible refine gate_callee (f := 28) rfl ?_); refine goesM_ (some 41) rfl rfl Try.func28 (by kernel_rfl) rfl #[.slice Ao32 t506.length co32, .slice Ao47 t515.length co47] rfl ?_; (with_reducible refine (laws_eqIntS.calls kj36 _ _ t506 _ _ t515 true _ ?side1 ?side2 ?side3 ?side4 A44.out).mono ?_); (case side1 => exact Cz ((Kd.R_reads' HO_8.out).2.2)); (case side2 => exact (Kd.R_reads' HO_8.out).2.1); (case side3 => exact Cz ((Kd.R_reads' HO517.out).2.2)); (case side4 => exact (Kd.R_reads' HO517.out).2.1); rintro e w' ⟨rfl, ⟨nd, rfl⟩⟩; refine ⟨_, rfl, ?_⟩))
          go_ret
          exact ⟨by first | rfl | (simp [errW_none, errW_some] <;> rfl) | (simp [*, errW_none, errW_some] <;> rfl), by exact Lz2 HB GE491 GE505⟩
         replace c45 := Bool.eq_false_iff.mpr c45
         subst c45
         have H1 : (some false) = some r := by rw [if_neg (show ¬ (false = true) by decide)] at H; exact H
         clear H
         have H := H1
         clear H1
         obtain rfl := Option.some.inj H
         go_wp2_with (first | ((with_reducible refine gate_callee (f := 26) rfl ?_); refine goesM_ (some 40) rfl rfl Try.func26 (by kernel_rfl) rfl #[.slice A1 l1.length c1] rfl ?_; (with_reducible refine (laws_toIntS.calls kj36 _ _ l1 t515 _ ?side1 ?side2 A43.out).mono ?_); (case side1 => exact Cz ((Kd.C_below HR1.out HB.out))); (case side2 => exact HC1.out); rintro e w48 ⟨v516, rfl, ho0, hb⟩; refine ⟨_, rfl, ?_⟩; replace HO_506001 := Aside0.mk (Kd.R_below (Rz HO_506001) hb); have HO517 := Aside0.mk (Kd.R_lower (Kd.R_new' ho0 (Kd.R_lt (Rz HO_8))) (below_size (by exact Lz2 HB GE491 GE505))); replace HO_8 := Aside0.mk (Kd.R_elder' (Rz HO_8) (Kd.R_base ho0) hb); replace BK491 := Aside0.mk (blk_below (g := gb491) (o := .cells #[.int .i64 a0_0, .slice A0_1 l0_1.length c0_1] 37 (0, 0)) (Bz BK491) hb); replace BK505 := Aside0.mk (blk_below (g := gb505) (o := .cells #[.int .i64 t501, .slice Ao29 t502.length co29] 25 (0, 0)) (Bz BK505) hb); replace HB := Aside0.mk (below_step (by exact Lz2 HB GE491 GE505) hb); (try clear hb); (try clear ho0); obtain ⟨Ao49, co49, eo49⟩ := Kd.R_slice HO517.out; subst eo49) | ((with_reducible refine gate_callee (f := 28) rfl ?_); refine goesM_ (some 41) rfl rfl Try.func28 (by kernel_rfl) rfl #[.slice Ao32 t506.length co32, .slice Ao49 t515.length co49] rfl ?_; (with_reducible refine (laws_eqIntS.calls kj36 _ _ t506 _ _ t515 false _ ?side1 ?side2 ?side3 ?side4 A44.out).mono ?_); (case side1 => exact Cz ((Kd.R_reads' HO_8.out).2.2)); (case side2 => exact (Kd.R_reads' HO_8.out).2.1); (case side3 => exact Cz ((Kd.R_reads' HO517.out).2.2)); (case side4 => exact (Kd.R_reads' HO517.out).2.1); rintro e w' ⟨rfl, ⟨nd, rfl⟩⟩; refine ⟨_, rfl, ?_⟩))
         go_ret
         exact ⟨by first | rfl | (simp [errW_none, errW_some] <;> rfl) | (simp [*, errW_none, errW_some] <;> rfl), by exact Lz2 HB GE491 GE505⟩
end Go.Proofs.Ytnebapnfkolflaa.P
end
section
namespace Go.Proofs.Ytnebapnfkolflaa.Pure
open Go.RowKit Go.Proofs.Ytnebapnfkolflaa.P Go.Proofs.YtnebapnfkolflaaW.PrintWords Go.Proofs.YtnebapnfkolflaaW.PrintLast Go.Proofs.YtnebapnfkolflaaW.PrintMore
def StatFnExactIsWinnable : Prop := ∀ (a0_0 : Int) (l0_1 : List (S95)) (l1 : List (Int)), ((Lit.int .i64 a0_0).wf = true ∧ (l0_1.length ≤ maxLen ∧ ∀ x4 ∈ l0_1, (Lit.int .i64 x4.f0).wf = true ∧ (Lit.int .i64 x4.f1).wf = true)) → (l1.length ≤ maxLen ∧ ∀ x2 ∈ l1, (Lit.int .i64 x2).wf = true) → ∃ k, laws_FnExactIsWinnable.f k a0_0 l0_1 l1 = some true
end Go.Proofs.Ytnebapnfkolflaa.Pure
end
section
set_option linter.unusedVariables false
set_option linter.unusedSimpArgs false
namespace Go.Proofs.Ytnebapnfkolflaa.Pure
open Go.RowKit Go.Proofs.Ytnebapnfkolflaa.P Go.Proofs.YtnebapnfkolflaaW.PrintWords Go.Proofs.YtnebapnfkolflaaW.PrintLast Go.Proofs.YtnebapnfkolflaaW.PrintMore Go.Proofs.Ytnebapnfkolflaa.Base Go.Proofs.Ytnebapnfkolflaa.Reduce Go.Proofs.Ytnebapnfkolflaa.Loops Go.Proofs.Ytnebapnfkolflaa.Bits
theorem redOk0 (n : Int) (es : List S70) (d : List Int) (hl : es.length < 4611686018427387904) (hd : d.length < 4611686018427387904) :
    ∃ b : Bool, Ev (fun k => impl_DivisorOk.f k n es d) b ∧ Ev (fun k => spec_DivisorOk.f k n es d) b ∧ Ev (fun k => spec_l05Ok.f k n es d 0) b ∧
      (b = true → Ev (fun k => impl_isVertex.f k n es 0) true ∧ ∃ m : Nat, n = m ∧ Start m es d 0) := by
  obtain ⟨b, h1, h2, hb⟩ := divOk_both n es d hl hd
  obtain ⟨g, h3, _, hg⟩ := graphOk_both n es hl
  simp only [spec_l05Ok.f, impl_isVertex.f, within_eq, in_eq, Option.bind_some]
  cases b with
  | false => exact ⟨false, h1, h2, Ev.bind h2 (ev_iff (Ev.now _)), fun h => by cases h⟩
  | true =>
    have hD := hb.1 rfl
    obtain ⟨f1, f2, f3, f4⟩ := edgesB_facts hD.1.1
    have ew : wrap64 (n - 1) = n - 1 := by unfold wrap64; omega
    have ed : decide ((0 : Int) ≤ 0 ∧ (0 : Int) ≤ wrap64 (n - 1)) = true := by rw [ew]; simp; omega
    have hgt : g = true := hg.2 hD.1
    subst hgt
    rw [ed]
    refine ⟨true, h1, h2, Ev.bind h2 (ev_ift rfl (Ev.now _)), fun _ => ⟨Ev.bind h3 (ev_ift rfl (Ev.now _)), n.toNat, by omega, ?_⟩⟩
    have hn : ((n.toNat : Nat) : Int) = n := by omega
    exact ⟨by rw [hn]; exact hD.1, by omega, by have := hD.2.1; omega, fun u => allB_get hD.2.2 (by omega) (by omega) u⟩
theorem red_zero {m : Nat} {es : List S70} {d s : List Int} (S : Start m es d 0) (hr : Red m (mE m es) 0 (XF m es d s)) : sumN (fun u => d.getD u 0) m ≤ XF m es d s 0 + sumN (fun u => if u = 0 then 0 else XF m es d s u) m ∧ sumN (fun u => XF m es d s u) m = sumN (fun u => d.getD u 0) m ∧ XF m es d s 0 ≤ sumN (fun u => d.getD u 0) m := by
  have G := gr_of m es S.g
  have h1 : sumN (fun u => XF m es d s u) m = sumN (fun u => d.getD u 0) m := by
    unfold XF
    rw [sumN_sub, lap_sum m _ G.sym]; omega
  have h2 := sumN_upd (fun u => XF m es d s u) m 0 0 S.q
  have h3 : 0 ≤ sumN (fun u => if u = 0 then 0 else XF m es d s u) m := sumN_nonneg fun u hu => by
    (try dsimp only); split
    · omega
    · exact hr.1 u hu ‹_›
  (try dsimp only at h2)
  exact ⟨by omega, h1, by omega⟩
end Go.Proofs.Ytnebapnfkolflaa.Pure
end
section
set_option linter.unusedVariables false
set_option linter.unusedSimpArgs false
namespace Go.Proofs.Ytnebapnfkolflaa.Pure
open Go.RowKit Go.Proofs.Ytnebapnfkolflaa.P Go.Proofs.YtnebapnfkolflaaW.PrintWords Go.Proofs.YtnebapnfkolflaaW.PrintLast Go.Proofs.YtnebapnfkolflaaW.PrintMore Go.Proofs.Ytnebapnfkolflaa.Base Go.Proofs.Ytnebapnfkolflaa.Loops Go.Proofs.Ytnebapnfkolflaa.Reduce
theorem part_sum (l : List Int) (hb : ∀ u : Nat, -60 ≤ l.getD u 0 ∧ l.getD u 0 ≤ 60) (i : Nat) : -(60 * (i : Int)) ≤ sumN (fun u => l.getD u 0) i ∧ sumN (fun u => l.getD u 0) i ≤ 60 * i := by
  induction i with
  | zero => simp [sumN]
  | succ i ih =>
    have := hb i
    simp only [sumN]
    omega
end Go.Proofs.Ytnebapnfkolflaa.Pure
end
section
set_option linter.unusedVariables false
set_option linter.unusedSimpArgs false
namespace Go.Proofs.Ytnebapnfkolflaa.Pure
open Go.RowKit Go.Proofs.Ytnebapnfkolflaa.P Go.Proofs.YtnebapnfkolflaaW.PrintWords Go.Proofs.YtnebapnfkolflaaW.PrintLast Go.Proofs.YtnebapnfkolflaaW.PrintMore Go.Proofs.Ytnebapnfkolflaa.Base Go.Proofs.Ytnebapnfkolflaa.Loops Go.Proofs.Ytnebapnfkolflaa.Reduce
theorem impl_sumOf_ev (l : List Int) (hl : l.length ≤ 1000) (hb : ∀ u : Nat, -60 ≤ l.getD u 0 ∧ l.getD u 0 ≤ 60) : Ev (fun k => impl_sumOf.f k l) (sumN (fun u => l.getD u 0) l.length) := by
  have main : ∀ (d i : Nat), i + d = l.length → Ev (fun k => impl_sumOf.l0 k (sumN (fun u => l.getD u 0) i) l (l.length : Int) (i : Int)) (sumN (fun u => l.getD u 0) l.length) := by
    intro d
    induction d with
    | zero =>
      intro i hi
      obtain rfl : i = l.length := by omega
      refine ev_succ ?_
      simp only [impl_sumOf.l0]
      exact ev_ifn (by omega) (Ev.now _)
    | succ d ih =>
      intro i hi
      have h1 := ih (i + 1) (by omega)
      have h2 := part_sum l hb (i + 1)
      have e : wrap64 (sumN (fun u => l.getD u 0) i + rd l (i : Int)) = sumN (fun u => l.getD u 0) (i + 1) := by
        simp only [sumN] at h2 ⊢
        unfold rd
        rw [Int.toNat_natCast]
        exact wrap_id (by omega) (by omega)
      refine ev_succ ?_
      simp only [impl_sumOf.l0, wrap_succ (show i < 4611686018427387904 by omega), e]
      exact ev_ift (by omega) (ev_ift (by omega) (ev_ift (by omega) h1))
  exact main l.length 0 (by omega)
end Go.Proofs.Ytnebapnfkolflaa.Pure
end
section
set_option linter.unusedVariables false
set_option linter.unusedSimpArgs false
namespace Go.Proofs.Ytnebapnfkolflaa.Pure
open Go.RowKit Go.Proofs.Ytnebapnfkolflaa.P Go.Proofs.YtnebapnfkolflaaW.PrintWords Go.Proofs.YtnebapnfkolflaaW.PrintLast Go.Proofs.YtnebapnfkolflaaW.PrintMore Go.Proofs.Ytnebapnfkolflaa.Base Go.Proofs.Ytnebapnfkolflaa.Reduce Go.Proofs.Ytnebapnfkolflaa.Loops Go.Proofs.Ytnebapnfkolflaa.Bits
theorem isWinnable_both (n : Int) (es : List S70) (d : List Int) (hl : es.length < 4611686018427387904) (hd : d.length < 4611686018427387904) :
    ∃ b : Bool, Ev (fun k => impl_IsWinnable.f k n es d) b ∧ Ev (fun k => spec_IsWinnable.f k n es d) b ∧ (b = true → ∃ m : Nat, n = m ∧ Start m es d 0) := by
  obtain ⟨b, h1, _, h3, h4⟩ := redOk0 n es d hl hd
  simp only [impl_IsWinnable.f, impl_winnable.f, spec_IsWinnable.f, spec_ChipsAt.f, spec_ReducedOf.f]
  cases b with
  | false => exact ⟨false, Ev.bind h1 (ev_iff (Ev.now _)), Ev.bind (Ev.bind (Ev.bind h3 (ev_iff (Ev.now _))) (ev_iff (Ev.now _))) (ev_iff (Ev.now _)), fun h => by cases h⟩
  | true =>
    obtain ⟨_, m, rfl, S⟩ := h4 rfl
    obtain ⟨s, s1, s2, s3, s4, s5, s6, s7, s8⟩ := reduce_both S
    have f := edgesB_facts S.g.1
    obtain ⟨z1, z2, z3⟩ := red_zero S s4
    have hs := impl_sumOf_ev d (by have := S.len; omega) S.b
    have hq := S.q
    have e0 : rd (XD es d s) 0 = XF m es d s 0 := s5 0 S.q
    rw [S.len] at hs
    refine ⟨decide (rd (XD es d s) 0 ≥ 0), ?_, Ev.bind (Ev.bind (Ev.bind h3 (ev_ift rfl (Ev.bind s8 (Ev.now _)))) (ev_ift rfl (ev_ift (by omega) (ev_ift (by dsimp only; omega) (Ev.now _))))) (ev_ift rfl (Ev.now _)), fun _ => ⟨m, rfl, S⟩⟩
    refine Ev.bind h1 (ev_ift rfl ?_)
    refine Ev.bind (r := decide (rd (XD es d s) 0 ≥ 0)) (Ev.bind hs ?_) (Ev.now _)
    by_cases c : sumN (fun u => d.getD u 0) m < 0
    · rw [decide_eq_false (by omega)]
      exact ev_ift c (Ev.now _)
    · exact ev_ifn c (Ev.bind s7 (ev_ift (by dsimp only; omega) (Ev.now _)))
end Go.Proofs.Ytnebapnfkolflaa.Pure
end
section
set_option linter.unusedVariables false
set_option linter.unusedSimpArgs false
namespace Go.Proofs.Ytnebapnfkolflaa.Pure
open Go.RowKit Go.Proofs.Ytnebapnfkolflaa.P Go.Proofs.YtnebapnfkolflaaW.PrintWords Go.Proofs.YtnebapnfkolflaaW.PrintLast Go.Proofs.YtnebapnfkolflaaW.PrintMore Go.Proofs.Ytnebapnfkolflaa.Base Go.Proofs.Ytnebapnfkolflaa.Reduce Go.Proofs.Ytnebapnfkolflaa.Loops Go.Proofs.Ytnebapnfkolflaa.Bits
theorem FnExactIsWinnable : StatFnExactIsWinnable := by
  intro n l d1 ⟨_, hl, _⟩ ⟨_, _⟩
  refine Ev.rounds (r := true) ?_
  unfold laws_FnExactIsWinnable.f
  by_cases hd1 : (d1.length : Int) > 1048576
  · repeat (first
      | exact Ev.now _
      | dsimp only
      | with_reducible refine ev_ift (by first | rfl | omega) ?_
      | with_reducible refine ev_ifn (by omega) ?_
      | with_reducible refine ev_ifb ?_
      | with_reducible refine ev_ifnn ?_
      | with_reducible refine ev_iff ?_
      | (refine ev_succ ?_; simp only [if_true, laws_FnExactIsWinnable.j0, laws_FnExactIsWinnable.j1, laws_FnExactIsWinnable.j2, laws_FnExactIsWinnable.j3])
      )
  have hs := szGraph_eq n l hl 1048576 (by omega) (by omega)
  by_cases h : (l.length : Int) ≤ 1048576
  · have es : Ev (fun _ : Nat => laws_szGraph.f n l 1048576) (1048576 - (l.length : Int)) := ev_const fun _ => by rw [hs, if_pos h]
    have tg := toGraph_ev n l (by omega)
    have hm := map_cv_length l
    have hL : (l.map cvE).length < 4611686018427387904 := by omega
    have hLd1 : d1.length < 4611686018427387904 := by omega
    have td1 := toIntS_ev d1 (by omega)
    have ed1 := eqIntS_ev d1 hLd1
    obtain ⟨b, g1, g2, _⟩ := isWinnable_both n (l.map cvE) d1 hL hLd1
    have eg := eqGraph_ev n (l.map cvE) hL
    repeat (first
      | exact Ev.now _
      | dsimp only
      | (with_reducible refine Ev.bind es ?_) | (with_reducible refine Ev.bind tg ?_) | (with_reducible refine Ev.bind td1 ?_) | (with_reducible refine Ev.bind ed1 ?_) | (with_reducible refine Ev.bind g1 ?_) | (with_reducible refine Ev.bind g2 ?_) | (with_reducible refine Ev.bind eg ?_)
      | with_reducible refine ev_ift (by first | rfl | omega) ?_
      | with_reducible refine ev_ifn (by omega) ?_
      | with_reducible refine ev_ifb ?_
      | with_reducible refine ev_ifnn ?_
      | with_reducible refine ev_iff ?_
      | (refine ev_succ ?_; simp only [if_true, laws_FnExactIsWinnable.j0, laws_FnExactIsWinnable.j1, laws_FnExactIsWinnable.j2, laws_FnExactIsWinnable.j3])
      )
  · have es : Ev (fun _ : Nat => laws_szGraph.f n l 1048576) (-1) := ev_const fun _ => by rw [hs, if_neg h]
    repeat (first
      | exact Ev.now _
      | dsimp only
      | (with_reducible refine Ev.bind es ?_)
      | with_reducible refine ev_ift (by first | rfl | omega) ?_
      | with_reducible refine ev_ifn (by omega) ?_
      | with_reducible refine ev_ifb ?_
      | with_reducible refine ev_ifnn ?_
      | with_reducible refine ev_iff ?_
      | (refine ev_succ ?_; simp only [if_true, laws_FnExactIsWinnable.j0, laws_FnExactIsWinnable.j1, laws_FnExactIsWinnable.j2, laws_FnExactIsWinnable.j3])
      )
end Go.Proofs.Ytnebapnfkolflaa.Pure
end
