/- Functions of the program as plain Lean functions, and that the machine's calls answer as they do. Written for this claim by a program of this work that drives the kit's print engine; Lean checks it. -/
import Derived.Test.YtfpcgccnhpfcnaaGbf62bd544f
import Derived.Test.YtfpcgccnhpfcnaaG88e47a22be
import Derived.Test.YtfpcgccnhpfcnaaG55bbc5b30a
namespace Go.Proofs.Ytfpcgccnhpfcnaa.P
open Go.RowKit Go.Proofs.YtfpcgccnhpfcnaaW.PrintWords Go.Proofs.YtfpcgccnhpfcnaaW.PrintLast Go.Proofs.YtfpcgccnhpfcnaaW.PrintMore
attribute [local go_sem] max2_int min2_int max_two min_two max_three min_three max_four min_four   -- for this text's walks alone
set_option linter.unusedVariables false
set_option linter.unusedSimpArgs false

/-! ### spec_l05Debt: function 89 -/
def spec_l05Debt.l0 : Nat → Int → List Int → Int → Int → Option (Bool)
 | 0, _, _, _, _ => none
 | k + 1, x1, x7, x8, x9 => if x9 < x8 then (if 0 ≤ x9 then (if x9 < (x7.length : Int) then (if x9 = x1 then (spec_l05Debt.l0 k x1 x7 x8 (wrap64 (x9 + 1))) else (if (rd x7 x9) < 0 then (some true) else (spec_l05Debt.l0 k x1 x7 x8 (wrap64 (x9 + 1))))) else (none)) else (none)) else (some false)
def spec_l05Debt.f (k : Nat) (l0 : List Int) (a1 : Int) : Option (Bool) := spec_l05Debt.l0 k a1 l0 (l0.length : Int) 0
set_option maxHeartbeats 8000000 in
set_option maxRecDepth 100000 in
theorem spec_l05Debt.calls (k : Nat) (A0 : Option Addr) (c0 : Nat) (l0 : List Int) (a1 : Int) (r : Bool) (w : World) (hr0 : Kd.C (Kd.int .i64) w A0 l0.length l0) (hc0 : l0.length ≤ c0) (h : spec_l05Debt.f k l0 a1 = some r) :
  Calls Try.prog 89 #[.slice A0 l0.length c0, .int .i64 a1] w fun e w' => e = .returned (.bool r) ∧ Drawn0 w w' := by
 have HR0 := Aside0.mk hr0
 have HC0 := Aside0.mk hc0
 clear hr0 hc0
 have H : (spec_l05Debt.l0 k a1 l0 (l0.length : Int) 0) = some r := h
 clear h
 have H' := Aside0.mk H
 clear H
 go_enter Try.func89, Try.ntmps89
 go_wp2
 go_loopg [9] k (fun kq v9 w' => ∃ (x9_1 : Int), v9 = .int .i64 x9_1 ∧ Aside0 (spec_l05Debt.l0 kq a1 l0 (l0.length : Int) x9_1 = some r) ∧ Aside0 (kq ≤ k) ∧ Drawn0 w w')
 case atStart => exact ⟨(0), (by first | rfl | (simp; done) | (simp [*]; done)), H', ⟨Nat.le_refl _⟩, by repeat (first | exact Drawn0.refl _ | apply Drawn0.step)⟩
 case round =>
  clear H'
  obtain ⟨x9_1, rfl, HA, HK1, ⟨m1, rfl⟩⟩ := hrel
  cases gk with
  | zero => exact absurd HA.out (by simp [spec_l05Debt.l0])
  | succ k1 =>
   have H := HA.out
   clear HA
   simp only [spec_l05Debt.l0] at H
   by_cases c3 : x9_1 < (l0.length : Int)
   ·rw [if_pos c3] at H
    have c3b0 : decide (x9_1 < (l0.length : Int)) = true := decide_eq_true c3
    clear c3
    by_cases c4 : 0 ≤ x9_1
    ·rw [if_pos c4] at H
     have c4b0 : decide (0 ≤ x9_1) = true := decide_eq_true c4
     clear c4
     by_cases c5 : x9_1 < (l0.length : Int)
     ·rw [if_pos c5] at H
      have c5b0 : decide (x9_1 < (l0.length : Int)) = true := decide_eq_true c5
      clear c5
      by_cases c6 : x9_1 = a1
      ·rw [if_pos c6] at H
       have c6b0 : (x9_1 == a1) = true := beq_iff_eq.mpr c6
       have c6b1 : (x9_1 != a1) = false := bne_eq_false_iff_eq.mpr c6
       clear c6
       have H' := Aside0.mk H
       clear H
       have p938 : 0 ≤ (x9_1 : Int) := of_decide_eq_true (by first | (with_reducible assumption) | assumption)
       have q938 : x9_1 < (l0.length : Int) := of_decide_eq_true (by first | (with_reducible assumption) | assumption)
       obtain ⟨ad938, e938, hx938_0⟩ := Kd.at_int HR0.out x9_1 p938 q938
       cases e938
       replace p938 := eq_true p938
       replace q938 := eq_true q938
       go_wp2
       go_roundg k1
       case measure => have := HK1.out; omega
       case rel => exact ⟨(wrap64 (x9_1 + 1)), (by first | rfl | (simp; done) | (simp [*]; done)), H', ⟨by have := HK1.out; omega⟩, by repeat (first | exact Drawn0.refl _ | apply Drawn0.step)⟩
      rw [if_neg c6] at H
      have c6b0 : (x9_1 == a1) = false := beq_eq_false_iff_ne.mpr c6
      have c6b1 : (x9_1 != a1) = true := bne_iff_ne.mpr c6
      by_cases c7 : (rd l0 x9_1) < 0
      ·rw [if_pos c7] at H
       have c7b0 : decide ((rd l0 x9_1) < 0) = true := decide_eq_true c7
       clear c7
       obtain rfl := Option.some.inj H
       have p938 : 0 ≤ (x9_1 : Int) := of_decide_eq_true (by first | (with_reducible assumption) | assumption)
       have q938 : x9_1 < (l0.length : Int) := of_decide_eq_true (by first | (with_reducible assumption) | assumption)
       obtain ⟨ad938, e938, hx938_0⟩ := Kd.at_int HR0.out x9_1 p938 q938
       cases e938
       replace p938 := eq_true p938
       replace q938 := eq_true q938
       go_wp2
       go_ret
       exact ⟨by first | rfl | (simp; done) | (simp [*]; done), by repeat (first | exact Drawn0.refl _ | apply Drawn0.step)⟩
      rw [if_neg c7] at H
      have c7b0 : decide ((rd l0 x9_1) < 0) = false := decide_eq_false c7
      clear c7
      have H' := Aside0.mk H
      clear H
      have p938 : 0 ≤ (x9_1 : Int) := of_decide_eq_true (by first | (with_reducible assumption) | assumption)
      have q938 : x9_1 < (l0.length : Int) := of_decide_eq_true (by first | (with_reducible assumption) | assumption)
      obtain ⟨ad938, e938, hx938_0⟩ := Kd.at_int HR0.out x9_1 p938 q938
      cases e938
      replace p938 := eq_true p938
      replace q938 := eq_true q938
      go_wp2
      go_roundg k1
      case measure => have := HK1.out; omega
      case rel => exact ⟨(wrap64 (x9_1 + 1)), (by first | rfl | (simp; done) | (simp [*]; done)), H', ⟨by have := HK1.out; omega⟩, by repeat (first | exact Drawn0.refl _ | apply Drawn0.step)⟩
     rw [if_neg c5] at H
     exact absurd H (by simp)
    rw [if_neg c4] at H
    exact absurd H (by simp)
   rw [if_neg c3] at H
   have c3b0 : decide (x9_1 < (l0.length : Int)) = false := decide_eq_false c3
   clear c3
   obtain rfl := Option.some.inj H
   go_wp2
   go_ret
   exact ⟨by first | rfl | (simp; done) | (simp [*]; done), by repeat (first | exact Drawn0.refl _ | apply Drawn0.step)⟩

/-! ### spec_IsReduced: function 47 -/
def spec_IsReduced.f (k : Nat) (a0_0 : Int) (l0_1 : List (S68)) (l1 : List Int) (a2 : Int) : Option (Bool) := (spec_BurnFrom.f k a0_0 l0_1 l1 a2).bind fun bt940 => (if bt940.2 = true then ((spec_l05Debt.f k l1 a2).bind fun t944 => (if t944 = true then (some false) else (some ((bt940.1.length : Int) == a0_0)))) else (some false))
set_option maxHeartbeats 8000000 in
set_option maxRecDepth 100000 in
theorem spec_IsReduced.calls (k : Nat) (a0_0 : Int) (A0_1 : Option Addr) (c0_1 : Nat) (l0_1 : List (S68)) (A1 : Option Addr) (c1 : Nat) (l1 : List Int) (a2 : Int) (r : Bool) (w : World) (hr0_1 : Kd.C k68 w A0_1 l0_1.length l0_1) (hc0_1 : l0_1.length ≤ c0_1) (hr1 : Kd.C (Kd.int .i64) w A1 l1.length l1) (hc1 : l1.length ≤ c1) (h : spec_IsReduced.f k a0_0 l0_1 l1 a2 = some r) :
  Calls Try.prog 47 #[.agg #[.int .i64 a0_0, .slice A0_1 l0_1.length c0_1], .slice A1 l1.length c1, .int .i64 a2] w fun e w' => e = .returned (.bool r) ∧ Below w.heap.size w w' := by
 have hu37 := Try.underlying37
 have HR0_1 := Aside0.mk hr0_1
 have HC0_1 := Aside0.mk hc0_1
 clear hr0_1 hc0_1
 have HR1 := Aside0.mk hr1
 have HC1 := Aside0.mk hc1
 clear hr1 hc1
 have HB := Aside0.mk (Below.refl w.heap.size w)
 have H : ((spec_BurnFrom.f k a0_0 l0_1 l1 a2).bind fun bt940 => (if bt940.2 = true then ((spec_l05Debt.f k l1 a2).bind fun t944 => (if t944 = true then (some false) else (some ((bt940.1.length : Int) == a0_0)))) else (some false))) = some r := h
 clear h
 replace H := Option.bind_eq_some_iff.mp H
 obtain ⟨⟨t940, t943⟩, A40, H⟩ := H
 replace H : (if t943 = true then ((spec_l05Debt.f k l1 a2).bind fun t944 => (if t944 = true then (some false) else (some ((t940.length : Int) == a0_0)))) else (some false)) = some r := H
 have A4 := Aside0.mk A40
 clear A40
 by_cases c5 : t943 = true
 ·subst c5
  have H1 : ((spec_l05Debt.f k l1 a2).bind fun t944 => (if t944 = true then (some false) else (some ((t940.length : Int) == a0_0)))) = some r := by rw [if_pos rfl] at H; exact H
  clear H
  have H := H1
  clear H1
  replace H := Option.bind_eq_some_iff.mp H
  obtain ⟨t944, A60, H⟩ := H
  replace H : (if t944 = true then (some false) else (some ((t940.length : Int) == a0_0))) = some r := H
  have A6 := Aside0.mk A60
  clear A60
  by_cases c7 : t944 = true
  ·subst c7
   have H1 : (some false) = some r := by rw [if_pos rfl] at H; exact H
   clear H
   have H := H1
   clear H1
   obtain rfl := Option.some.inj H
   go_enter Try.func47, Try.ntmps47
   go_wp2_with (first | ((with_reducible refine gate_dst (N := 3) rfl ?_); (try (refine gate_guard (by rfl) ?_; dsimp only)); refine box_event ?hg (N := 3) ?hd (cs := #[.int .i64 a0_0, .slice A0_1 l0_1.length c0_1]) (t := 37) ?hr ?_; (case hd => rfl); (case hg => rfl); (case hr => first | (go_simp; done) | (go_simp; rfl)); intro gb939 hg w8 hbox hb; have BK939 := Aside0.mk (hbox); have GW939 := Aside0.mk ((by rw [hg]; exact (below_size (Lz HB)) : w.heap.size ≤ gb939)); have GE939 := Aside0.mk ((by rw [hg]; exact (below_size (Lz HB)) : w.heap.size ≤ gb939)); replace HB := Aside0.mk (below_step (Lz HB) hb); clear hb hbox hg; have hcz9_0 : w8.cell? ⟨gb939, 0, none⟩ = some (.int .i64 a0_0) := (blk_cell BK939.out 0).trans rfl; have hcz9_1 : w8.cell? ⟨gb939, 1, none⟩ = some (.slice A0_1 l0_1.length c0_1) := (blk_cell BK939.out 1).trans rfl; have hfz9_0 := blk_frozen BK939.out 0; have hfz9_1 := blk_frozen BK939.out 1) | ((with_reducible refine gate_callee (f := 49) rfl ?_); refine goesM_ (some 13) rfl rfl Try.func49 (by kernel_rfl) rfl #[.agg #[.int .i64 a0_0, .slice A0_1 l0_1.length c0_1], .slice A1 l1.length c1, .int .i64 a2] rfl ?_; (with_reducible refine (spec_BurnFrom.calls k a0_0 _ _ l0_1 _ _ l1 a2 t940 true _ ?side1 ?side2 ?side3 ?side4 A4.out).mono ?_); (case side1 => exact Cz ((Kd.C_below HR0_1.out HB.out))); (case side2 => exact HC0_1.out); (case side3 => exact Cz ((Kd.C_below HR1.out HB.out))); (case side4 => exact HC1.out); rintro e w10 ⟨v941, rfl, ho0, hb⟩; refine ⟨_, rfl, ?_⟩; have HO942 := Aside0.mk (Kd.R_lower ho0 (below_size (by exact Lz1 HB GE939))); replace BK939 := Aside0.mk (blk_below (g := gb939) (o := .cells #[.int .i64 a0_0, .slice A0_1 l0_1.length c0_1] 37 (0, 0)) (Bz BK939) hb); replace HB := Aside0.mk (below_step (by exact Lz1 HB GE939) hb); (try clear hb); (try clear ho0)) | (go_at_call 89; (with_reducible refine (spec_l05Debt.calls k _ _ l1 a2 true _ ?side1 ?side2 A6.out).mono ?_); (case side1 => exact Cz ((Kd.C_below HR1.out HB.out))); (case side2 => exact HC1.out); rintro e w' ⟨rfl, ⟨nd, rfl⟩⟩))
   go_ret
   exact ⟨by first | rfl | (simp [errW_none, errW_some] <;> rfl) | (simp [*, errW_none, errW_some] <;> rfl), by exact Lz1 HB GE939⟩
  replace c7 := Bool.eq_false_iff.mpr c7
  subst c7
  have H1 : (some ((t940.length : Int) == a0_0)) = some r := by rw [if_neg (show ¬ (false = true) by decide)] at H; exact H
  clear H
  have H := H1
  clear H1
  obtain rfl := Option.some.inj H
  go_enter Try.func47, Try.ntmps47
  go_wp2_with (first | ((with_reducible refine gate_dst (N := 3) rfl ?_); (try (refine gate_guard (by rfl) ?_; dsimp only)); refine box_event ?hg (N := 3) ?hd (cs := #[.int .i64 a0_0, .slice A0_1 l0_1.length c0_1]) (t := 37) ?hr ?_; (case hd => rfl); (case hg => rfl); (case hr => first | (go_simp; done) | (go_simp; rfl)); intro gb939 hg w11 hbox hb; have BK939 := Aside0.mk (hbox); have GW939 := Aside0.mk ((by rw [hg]; exact (below_size (Lz HB)) : w.heap.size ≤ gb939)); have GE939 := Aside0.mk ((by rw [hg]; exact (below_size (Lz HB)) : w.heap.size ≤ gb939)); replace HB := Aside0.mk (below_step (Lz HB) hb); clear hb hbox hg; have hcz12_0 : w11.cell? ⟨gb939, 0, none⟩ = some (.int .i64 a0_0) := (blk_cell BK939.out 0).trans rfl; have hcz12_1 : w11.cell? ⟨gb939, 1, none⟩ = some (.slice A0_1 l0_1.length c0_1) := (blk_cell BK939.out 1).trans rfl; have hfz12_0 := blk_frozen BK939.out 0; have hfz12_1 := blk_frozen BK939.out 1) | ((with_reducible refine gate_callee (f := 49) rfl ?_); refine goesM_ (some 13) rfl rfl Try.func49 (by kernel_rfl) rfl #[.agg #[.int .i64 a0_0, .slice A0_1 l0_1.length c0_1], .slice A1 l1.length c1, .int .i64 a2] rfl ?_; (with_reducible refine (spec_BurnFrom.calls k a0_0 _ _ l0_1 _ _ l1 a2 t940 true _ ?side1 ?side2 ?side3 ?side4 A4.out).mono ?_); (case side1 => exact Cz ((Kd.C_below HR0_1.out HB.out))); (case side2 => exact HC0_1.out); (case side3 => exact Cz ((Kd.C_below HR1.out HB.out))); (case side4 => exact HC1.out); rintro e w13 ⟨v941, rfl, ho0, hb⟩; refine ⟨_, rfl, ?_⟩; have HO942 := Aside0.mk (Kd.R_lower ho0 (below_size (by exact Lz1 HB GE939))); replace BK939 := Aside0.mk (blk_below (g := gb939) (o := .cells #[.int .i64 a0_0, .slice A0_1 l0_1.length c0_1] 37 (0, 0)) (Bz BK939) hb); replace HB := Aside0.mk (below_step (by exact Lz1 HB GE939) hb); (try clear hb); (try clear ho0)) | (go_at_call 89; (with_reducible refine (spec_l05Debt.calls k _ _ l1 a2 false _ ?side1 ?side2 A6.out).mono ?_); (case side1 => exact Cz ((Kd.C_below HR1.out HB.out))); (case side2 => exact HC1.out); rintro e w' ⟨rfl, ⟨nd, rfl⟩⟩; obtain ⟨Ao14, co14, eo14⟩ := Kd.R_slice HO942.out; subst eo14; have hcz15_0 : w13.cell? ⟨gb939, 0, none⟩ = some (.int .i64 a0_0) := (blk_cell BK939.out 0).trans rfl; have hcz15_1 : w13.cell? ⟨gb939, 1, none⟩ = some (.slice A0_1 l0_1.length c0_1) := (blk_cell BK939.out 1).trans rfl; have hfz15_0 := blk_frozen BK939.out 0; have hfz15_1 := blk_frozen BK939.out 1))
  go_ret
  exact ⟨by first | rfl | (simp [errW_none, errW_some] <;> rfl) | (simp [*, errW_none, errW_some] <;> rfl), by exact Lz1 HB GE939⟩
 replace c5 := Bool.eq_false_iff.mpr c5
 subst c5
 have H1 : (some false) = some r := by rw [if_neg (show ¬ (false = true) by decide)] at H; exact H
 clear H
 have H := H1
 clear H1
 obtain rfl := Option.some.inj H
 go_enter Try.func47, Try.ntmps47
 go_wp2_with (first | ((with_reducible refine gate_dst (N := 3) rfl ?_); (try (refine gate_guard (by rfl) ?_; dsimp only)); refine box_event ?hg (N := 3) ?hd (cs := #[.int .i64 a0_0, .slice A0_1 l0_1.length c0_1]) (t := 37) ?hr ?_; (case hd => rfl); (case hg => rfl); (case hr => first | (go_simp; done) | (go_simp; rfl)); intro gb939 hg w16 hbox hb; have BK939 := Aside0.mk (hbox); have GW939 := Aside0.mk ((by rw [hg]; exact (below_size (Lz HB)) : w.heap.size ≤ gb939)); have GE939 := Aside0.mk ((by rw [hg]; exact (below_size (Lz HB)) : w.heap.size ≤ gb939)); replace HB := Aside0.mk (below_step (Lz HB) hb); clear hb hbox hg; have hcz17_0 : w16.cell? ⟨gb939, 0, none⟩ = some (.int .i64 a0_0) := (blk_cell BK939.out 0).trans rfl; have hcz17_1 : w16.cell? ⟨gb939, 1, none⟩ = some (.slice A0_1 l0_1.length c0_1) := (blk_cell BK939.out 1).trans rfl; have hfz17_0 := blk_frozen BK939.out 0; have hfz17_1 := blk_frozen BK939.out 1) | ((with_reducible refine gate_callee (f := 49) rfl ?_); refine goesM_ (some 13) rfl rfl Try.func49 (by kernel_rfl) rfl #[.agg #[.int .i64 a0_0, .slice A0_1 l0_1.length c0_1], .slice A1 l1.length c1, .int .i64 a2] rfl ?_; (with_reducible refine (spec_BurnFrom.calls k a0_0 _ _ l0_1 _ _ l1 a2 t940 false _ ?side1 ?side2 ?side3 ?side4 A4.out).mono ?_); (case side1 => exact Cz ((Kd.C_below HR0_1.out HB.out))); (case side2 => exact HC0_1.out); (case side3 => exact Cz ((Kd.C_below HR1.out HB.out))); (case side4 => exact HC1.out); rintro e w18 ⟨v941, rfl, ho0, hb⟩; refine ⟨_, rfl, ?_⟩; have HO942 := Aside0.mk (Kd.R_lower ho0 (below_size (by exact Lz1 HB GE939))); replace BK939 := Aside0.mk (blk_below (g := gb939) (o := .cells #[.int .i64 a0_0, .slice A0_1 l0_1.length c0_1] 37 (0, 0)) (Bz BK939) hb); replace HB := Aside0.mk (below_step (by exact Lz1 HB GE939) hb); (try clear hb); (try clear ho0)))
 go_ret
 exact ⟨by first | rfl | (simp [errW_none, errW_some] <;> rfl) | (simp [*, errW_none, errW_some] <;> rfl), by exact Lz1 HB GE939⟩

/-! ### impl_inDebt: function 90 -/
def impl_inDebt.l0 : Nat → Int → List Int → Int → Int → Option (Int)
 | 0, _, _, _, _ => none
 | k + 1, x1, x7, x8, x9 => if x9 < x8 then (if 0 ≤ x9 then (if x9 < (x7.length : Int) then (if x9 = x1 then (impl_inDebt.l0 k x1 x7 x8 (wrap64 (x9 + 1))) else (if (rd x7 x9) < 0 then (some x9) else (impl_inDebt.l0 k x1 x7 x8 (wrap64 (x9 + 1))))) else (none)) else (none)) else (some (-1))
def impl_inDebt.f (k : Nat) (l0 : List Int) (a1 : Int) : Option (Int) := impl_inDebt.l0 k a1 l0 (l0.length : Int) 0
set_option maxHeartbeats 8000000 in
set_option maxRecDepth 100000 in
theorem impl_inDebt.calls (k : Nat) (A0 : Option Addr) (c0 : Nat) (l0 : List Int) (a1 : Int) (r : Int) (w : World) (hr0 : Kd.C (Kd.int .i64) w A0 l0.length l0) (hc0 : l0.length ≤ c0) (h : impl_inDebt.f k l0 a1 = some r) :
  Calls Try.prog 90 #[.slice A0 l0.length c0, .int .i64 a1] w fun e w' => e = .returned (.int .i64 r) ∧ Drawn0 w w' := by
 have HR0 := Aside0.mk hr0
 have HC0 := Aside0.mk hc0
 clear hr0 hc0
 have H : (impl_inDebt.l0 k a1 l0 (l0.length : Int) 0) = some r := h
 clear h
 have H' := Aside0.mk H
 clear H
 go_enter Try.func90, Try.ntmps90
 go_wp2
 go_loopg [9] k (fun kq v9 w' => ∃ (x9_1 : Int), v9 = .int .i64 x9_1 ∧ Aside0 (impl_inDebt.l0 kq a1 l0 (l0.length : Int) x9_1 = some r) ∧ Aside0 (kq ≤ k) ∧ Drawn0 w w')
 case atStart => exact ⟨(0), (by first | rfl | (simp; done) | (simp [*]; done)), H', ⟨Nat.le_refl _⟩, by repeat (first | exact Drawn0.refl _ | apply Drawn0.step)⟩
 case round =>
  clear H'
  obtain ⟨x9_1, rfl, HA, HK1, ⟨m1, rfl⟩⟩ := hrel
  cases gk with
  | zero => exact absurd HA.out (by simp [impl_inDebt.l0])
  | succ k1 =>
   have H := HA.out
   clear HA
   simp only [impl_inDebt.l0] at H
   by_cases c3 : x9_1 < (l0.length : Int)
   ·rw [if_pos c3] at H
    have c3b0 : decide (x9_1 < (l0.length : Int)) = true := decide_eq_true c3
    clear c3
    by_cases c4 : 0 ≤ x9_1
    ·rw [if_pos c4] at H
     have c4b0 : decide (0 ≤ x9_1) = true := decide_eq_true c4
     clear c4
     by_cases c5 : x9_1 < (l0.length : Int)
     ·rw [if_pos c5] at H
      have c5b0 : decide (x9_1 < (l0.length : Int)) = true := decide_eq_true c5
      clear c5
      by_cases c6 : x9_1 = a1
      ·rw [if_pos c6] at H
       have c6b0 : (x9_1 == a1) = true := beq_iff_eq.mpr c6
       have c6b1 : (x9_1 != a1) = false := bne_eq_false_iff_eq.mpr c6
       clear c6
       have H' := Aside0.mk H
       clear H
       have p964 : 0 ≤ (x9_1 : Int) := of_decide_eq_true (by first | (with_reducible assumption) | assumption)
       have q964 : x9_1 < (l0.length : Int) := of_decide_eq_true (by first | (with_reducible assumption) | assumption)
       obtain ⟨ad964, e964, hx964_0⟩ := Kd.at_int HR0.out x9_1 p964 q964
       cases e964
       replace p964 := eq_true p964
       replace q964 := eq_true q964
       go_wp2
       go_roundg k1
       case measure => have := HK1.out; omega
       case rel => exact ⟨(wrap64 (x9_1 + 1)), (by first | rfl | (simp; done) | (simp [*]; done)), H', ⟨by have := HK1.out; omega⟩, by repeat (first | exact Drawn0.refl _ | apply Drawn0.step)⟩
      rw [if_neg c6] at H
      have c6b0 : (x9_1 == a1) = false := beq_eq_false_iff_ne.mpr c6
      have c6b1 : (x9_1 != a1) = true := bne_iff_ne.mpr c6
      by_cases c7 : (rd l0 x9_1) < 0
      ·rw [if_pos c7] at H
       have c7b0 : decide ((rd l0 x9_1) < 0) = true := decide_eq_true c7
       clear c7
       obtain rfl := Option.some.inj H
       have p964 : 0 ≤ (x9_1 : Int) := of_decide_eq_true (by first | (with_reducible assumption) | assumption)
       have q964 : x9_1 < (l0.length : Int) := of_decide_eq_true (by first | (with_reducible assumption) | assumption)
       obtain ⟨ad964, e964, hx964_0⟩ := Kd.at_int HR0.out x9_1 p964 q964
       cases e964
       replace p964 := eq_true p964
       replace q964 := eq_true q964
       go_wp2
       go_ret
       exact ⟨by first | rfl | (simp; done) | (simp [*]; done), by repeat (first | exact Drawn0.refl _ | apply Drawn0.step)⟩
      rw [if_neg c7] at H
      have c7b0 : decide ((rd l0 x9_1) < 0) = false := decide_eq_false c7
      clear c7
      have H' := Aside0.mk H
      clear H
      have p964 : 0 ≤ (x9_1 : Int) := of_decide_eq_true (by first | (with_reducible assumption) | assumption)
      have q964 : x9_1 < (l0.length : Int) := of_decide_eq_true (by first | (with_reducible assumption) | assumption)
      obtain ⟨ad964, e964, hx964_0⟩ := Kd.at_int HR0.out x9_1 p964 q964
      cases e964
      replace p964 := eq_true p964
      replace q964 := eq_true q964
      go_wp2
      go_roundg k1
      case measure => have := HK1.out; omega
      case rel => exact ⟨(wrap64 (x9_1 + 1)), (by first | rfl | (simp; done) | (simp [*]; done)), H', ⟨by have := HK1.out; omega⟩, by repeat (first | exact Drawn0.refl _ | apply Drawn0.step)⟩
     rw [if_neg c5] at H
     exact absurd H (by simp)
    rw [if_neg c4] at H
    exact absurd H (by simp)
   rw [if_neg c3] at H
   have c3b0 : decide (x9_1 < (l0.length : Int)) = false := decide_eq_false c3
   clear c3
   obtain rfl := Option.some.inj H
   go_wp2
   go_ret
   exact ⟨by first | rfl | (simp; done) | (simp [*]; done), by repeat (first | exact Drawn0.refl _ | apply Drawn0.step)⟩

/-! ### impl_IsReduced: function 48 -/
def impl_IsReduced.f (k : Nat) (a0_0 : Int) (l0_1 : List (S68)) (l1 : List Int) (a2 : Int) : Option (Bool) := (impl_BurnFrom.f k a0_0 l0_1 l1 a2).bind fun bt966 => (if bt966.2 = true then ((impl_inDebt.f k l1 a2).bind fun t970 => (if t970 < 0 then (some ((bt966.1.length : Int) == a0_0)) else (some false))) else (some false))
set_option maxHeartbeats 8000000 in
set_option maxRecDepth 100000 in
theorem impl_IsReduced.calls (k : Nat) (a0_0 : Int) (A0_1 : Option Addr) (c0_1 : Nat) (l0_1 : List (S68)) (A1 : Option Addr) (c1 : Nat) (l1 : List Int) (a2 : Int) (r : Bool) (w : World) (hr0_1 : Kd.C k68 w A0_1 l0_1.length l0_1) (hc0_1 : l0_1.length ≤ c0_1) (hr1 : Kd.C (Kd.int .i64) w A1 l1.length l1) (hc1 : l1.length ≤ c1) (h : impl_IsReduced.f k a0_0 l0_1 l1 a2 = some r) :
  Calls Try.prog 48 #[.agg #[.int .i64 a0_0, .slice A0_1 l0_1.length c0_1], .slice A1 l1.length c1, .int .i64 a2] w fun e w' => e = .returned (.bool r) ∧ Below w.heap.size w w' := by
 have hu37 := Try.underlying37
 have HR0_1 := Aside0.mk hr0_1
 have HC0_1 := Aside0.mk hc0_1
 clear hr0_1 hc0_1
 have HR1 := Aside0.mk hr1
 have HC1 := Aside0.mk hc1
 clear hr1 hc1
 have HB := Aside0.mk (Below.refl w.heap.size w)
 have H : ((impl_BurnFrom.f k a0_0 l0_1 l1 a2).bind fun bt966 => (if bt966.2 = true then ((impl_inDebt.f k l1 a2).bind fun t970 => (if t970 < 0 then (some ((bt966.1.length : Int) == a0_0)) else (some false))) else (some false))) = some r := h
 clear h
 replace H := Option.bind_eq_some_iff.mp H
 obtain ⟨⟨t966, t969⟩, A40, H⟩ := H
 replace H : (if t969 = true then ((impl_inDebt.f k l1 a2).bind fun t970 => (if t970 < 0 then (some ((t966.length : Int) == a0_0)) else (some false))) else (some false)) = some r := H
 have A4 := Aside0.mk A40
 clear A40
 by_cases c5 : t969 = true
 ·subst c5
  have H1 : ((impl_inDebt.f k l1 a2).bind fun t970 => (if t970 < 0 then (some ((t966.length : Int) == a0_0)) else (some false))) = some r := by rw [if_pos rfl] at H; exact H
  clear H
  have H := H1
  clear H1
  replace H := Option.bind_eq_some_iff.mp H
  obtain ⟨t970, A60, H⟩ := H
  replace H : (if t970 < 0 then (some ((t966.length : Int) == a0_0)) else (some false)) = some r := H
  have A6 := Aside0.mk A60
  clear A60
  by_cases c7 : t970 < 0
  ·rw [if_pos c7] at H
   have c7b0 : decide (t970 < 0) = true := decide_eq_true c7
   clear c7
   obtain rfl := Option.some.inj H
   go_enter Try.func48, Try.ntmps48
   go_wp2_with (first | ((with_reducible refine gate_dst (N := 3) rfl ?_); (try (refine gate_guard (by rfl) ?_; dsimp only)); refine box_event ?hg (N := 3) ?hd (cs := #[.int .i64 a0_0, .slice A0_1 l0_1.length c0_1]) (t := 37) ?hr ?_; (case hd => rfl); (case hg => rfl); (case hr => first | (go_simp; done) | (go_simp; rfl)); intro gb965 hg w8 hbox hb; have BK965 := Aside0.mk (hbox); have GW965 := Aside0.mk ((by rw [hg]; exact (below_size (Lz HB)) : w.heap.size ≤ gb965)); have GE965 := Aside0.mk ((by rw [hg]; exact (below_size (Lz HB)) : w.heap.size ≤ gb965)); replace HB := Aside0.mk (below_step (Lz HB) hb); clear hb hbox hg; have hcz9_0 : w8.cell? ⟨gb965, 0, none⟩ = some (.int .i64 a0_0) := (blk_cell BK965.out 0).trans rfl; have hcz9_1 : w8.cell? ⟨gb965, 1, none⟩ = some (.slice A0_1 l0_1.length c0_1) := (blk_cell BK965.out 1).trans rfl; have hfz9_0 := blk_frozen BK965.out 0; have hfz9_1 := blk_frozen BK965.out 1) | ((with_reducible refine gate_callee (f := 50) rfl ?_); refine goesM_ (some 13) rfl rfl Try.func50 (by kernel_rfl) rfl #[.agg #[.int .i64 a0_0, .slice A0_1 l0_1.length c0_1], .slice A1 l1.length c1, .int .i64 a2] rfl ?_; (with_reducible refine (impl_BurnFrom.calls k a0_0 _ _ l0_1 _ _ l1 a2 t966 true _ ?side1 ?side2 ?side3 ?side4 A4.out).mono ?_); (case side1 => exact Cz ((Kd.C_below HR0_1.out HB.out))); (case side2 => exact HC0_1.out); (case side3 => exact Cz ((Kd.C_below HR1.out HB.out))); (case side4 => exact HC1.out); rintro e w10 ⟨v967, rfl, ho0, hb⟩; refine ⟨_, rfl, ?_⟩; have HO968 := Aside0.mk (Kd.R_lower ho0 (below_size (by exact Lz1 HB GE965))); replace BK965 := Aside0.mk (blk_below (g := gb965) (o := .cells #[.int .i64 a0_0, .slice A0_1 l0_1.length c0_1] 37 (0, 0)) (Bz BK965) hb); replace HB := Aside0.mk (below_step (by exact Lz1 HB GE965) hb); (try clear hb); (try clear ho0)) | (go_at_call 90; (with_reducible refine (impl_inDebt.calls k _ _ l1 a2 t970 _ ?side1 ?side2 A6.out).mono ?_); (case side1 => exact Cz ((Kd.C_below HR1.out HB.out))); (case side2 => exact HC1.out); rintro e w' ⟨rfl, ⟨nd, rfl⟩⟩; obtain ⟨Ao11, co11, eo11⟩ := Kd.R_slice HO968.out; subst eo11; have hcz12_0 : w10.cell? ⟨gb965, 0, none⟩ = some (.int .i64 a0_0) := (blk_cell BK965.out 0).trans rfl; have hcz12_1 : w10.cell? ⟨gb965, 1, none⟩ = some (.slice A0_1 l0_1.length c0_1) := (blk_cell BK965.out 1).trans rfl; have hfz12_0 := blk_frozen BK965.out 0; have hfz12_1 := blk_frozen BK965.out 1))
   go_ret
   exact ⟨by first | rfl | (simp [errW_none, errW_some] <;> rfl) | (simp [*, errW_none, errW_some] <;> rfl), by exact Lz1 HB GE965⟩
  rw [if_neg c7] at H
  have c7b0 : decide (t970 < 0) = false := decide_eq_false c7
  clear c7
  obtain rfl := Option.some.inj H
  go_enter Try.func48, Try.ntmps48
  go_wp2_with (first | ((with_reducible refine gate_dst (N := 3) rfl ?_); (try (refine gate_guard (by rfl) ?_; dsimp only)); refine box_event ?hg (N := 3) ?hd (cs := #[.int .i64 a0_0, .slice A0_1 l0_1.length c0_1]) (t := 37) ?hr ?_; (case hd => rfl); (case hg => rfl); (case hr => first | (go_simp; done) | (go_simp; rfl)); intro gb965 hg w13 hbox hb; have BK965 := Aside0.mk (hbox); have GW965 := Aside0.mk ((by rw [hg]; exact (below_size (Lz HB)) : w.heap.size ≤ gb965)); have GE965 := Aside0.mk ((by rw [hg]; exact (below_size (Lz HB)) : w.heap.size ≤ gb965)); replace HB := Aside0.mk (below_step (Lz HB) hb); clear hb hbox hg; have hcz14_0 : w13.cell? ⟨gb965, 0, none⟩ = some (.int .i64 a0_0) := (blk_cell BK965.out 0).trans rfl; have hcz14_1 : w13.cell? ⟨gb965, 1, none⟩ = some (.slice A0_1 l0_1.length c0_1) := (blk_cell BK965.out 1).trans rfl; have hfz14_0 := blk_frozen BK965.out 0; have hfz14_1 := blk_frozen BK965.out 1) | ((with_reducible refine gate_callee (f := 50) rfl ?_); refine goesM_ (some 13) rfl rfl Try.func50 (by kernel_rfl) rfl #[.agg #[.int .i64 a0_0, .slice A0_1 l0_1.length c0_1], .slice A1 l1.length c1, .int .i64 a2] rfl ?_; (with_reducible refine (impl_BurnFrom.calls k a0_0 _ _ l0_1 _ _ l1 a2 t966 true _ ?side1 ?side2 ?side3 ?side4 A4.out).mono ?_); (case side1 => exact Cz ((Kd.C_below HR0_1.out HB.out))); (case side2 => exact HC0_1.out); (case side3 => exact Cz ((Kd.C_below HR1.out HB.out))); (case side4 => exact HC1.out); rintro e w15 ⟨v967, rfl, ho0, hb⟩; refine ⟨_, rfl, ?_⟩; have HO968 := Aside0.mk (Kd.R_lower ho0 (below_size (by exact Lz1 HB GE965))); replace BK965 := Aside0.mk (blk_below (g := gb965) (o := .cells #[.int .i64 a0_0, .slice A0_1 l0_1.length c0_1] 37 (0, 0)) (Bz BK965) hb); replace HB := Aside0.mk (below_step (by exact Lz1 HB GE965) hb); (try clear hb); (try clear ho0)) | (go_at_call 90; (with_reducible refine (impl_inDebt.calls k _ _ l1 a2 t970 _ ?side1 ?side2 A6.out).mono ?_); (case side1 => exact Cz ((Kd.C_below HR1.out HB.out))); (case side2 => exact HC1.out); rintro e w' ⟨rfl, ⟨nd, rfl⟩⟩))
  go_ret
  exact ⟨by first | rfl | (simp [errW_none, errW_some] <;> rfl) | (simp [*, errW_none, errW_some] <;> rfl), by exact Lz1 HB GE965⟩
 replace c5 := Bool.eq_false_iff.mpr c5
 subst c5
 have H1 : (some false) = some r := by rw [if_neg (show ¬ (false = true) by decide)] at H; exact H
 clear H
 have H := H1
 clear H1
 obtain rfl := Option.some.inj H
 go_enter Try.func48, Try.ntmps48
 go_wp2_with (first | ((with_reducible refine gate_dst (N := 3) rfl ?_); (try (refine gate_guard (by rfl) ?_; dsimp only)); refine box_event ?hg (N := 3) ?hd (cs := #[.int .i64 a0_0, .slice A0_1 l0_1.length c0_1]) (t := 37) ?hr ?_; (case hd => rfl); (case hg => rfl); (case hr => first | (go_simp; done) | (go_simp; rfl)); intro gb965 hg w16 hbox hb; have BK965 := Aside0.mk (hbox); have GW965 := Aside0.mk ((by rw [hg]; exact (below_size (Lz HB)) : w.heap.size ≤ gb965)); have GE965 := Aside0.mk ((by rw [hg]; exact (below_size (Lz HB)) : w.heap.size ≤ gb965)); replace HB := Aside0.mk (below_step (Lz HB) hb); clear hb hbox hg; have hcz17_0 : w16.cell? ⟨gb965, 0, none⟩ = some (.int .i64 a0_0) := (blk_cell BK965.out 0).trans rfl; have hcz17_1 : w16.cell? ⟨gb965, 1, none⟩ = some (.slice A0_1 l0_1.length c0_1) := (blk_cell BK965.out 1).trans rfl; have hfz17_0 := blk_frozen BK965.out 0; have hfz17_1 := blk_frozen BK965.out 1) | ((with_reducible refine gate_callee (f := 50) rfl ?_); refine goesM_ (some 13) rfl rfl Try.func50 (by kernel_rfl) rfl #[.agg #[.int .i64 a0_0, .slice A0_1 l0_1.length c0_1], .slice A1 l1.length c1, .int .i64 a2] rfl ?_; (with_reducible refine (impl_BurnFrom.calls k a0_0 _ _ l0_1 _ _ l1 a2 t966 false _ ?side1 ?side2 ?side3 ?side4 A4.out).mono ?_); (case side1 => exact Cz ((Kd.C_below HR0_1.out HB.out))); (case side2 => exact HC0_1.out); (case side3 => exact Cz ((Kd.C_below HR1.out HB.out))); (case side4 => exact HC1.out); rintro e w18 ⟨v967, rfl, ho0, hb⟩; refine ⟨_, rfl, ?_⟩; have HO968 := Aside0.mk (Kd.R_lower ho0 (below_size (by exact Lz1 HB GE965))); replace BK965 := Aside0.mk (blk_below (g := gb965) (o := .cells #[.int .i64 a0_0, .slice A0_1 l0_1.length c0_1] 37 (0, 0)) (Bz BK965) hb); replace HB := Aside0.mk (below_step (by exact Lz1 HB GE965) hb); (try clear hb); (try clear ho0)))
 go_ret
 exact ⟨by first | rfl | (simp [errW_none, errW_some] <;> rfl) | (simp [*, errW_none, errW_some] <;> rfl), by exact Lz1 HB GE965⟩

/-! ### laws_FnExactIsReduced: function 12 -/
mutual
def laws_FnExactIsReduced.j0 : Nat → List Int → Int → Int → List (S86) → Option (Bool)
 | 0, _, _, _, _ => none
 | k + 1, x1, x2, x972000, x972001 => (laws_szGraph.f x972000 x972001 1048576).bind fun t972 => (if t972 < 0 then (some true) else (laws_FnExactIsReduced.j1 k x1 x2 x972000 x972001))
def laws_FnExactIsReduced.j1 : Nat → List Int → Int → Int → List (S86) → Option (Bool)
 | 0, _, _, _, _ => none
 | k + 1, x1, x2, x972000, x972001 => (laws_toGraph.f k x972000 x972001).bind fun bt973 => ((laws_toIntS.f k x1).bind fun t977 => ((spec_IsReduced.f k bt973.1 bt973.2 t977 x2).bind fun t980 => ((laws_toGraph.f k x972000 x972001).bind fun bt981 => ((laws_toIntS.f k x1).bind fun t986 => ((impl_IsReduced.f k bt981.1 bt981.2 t986 x2).bind fun t989 => (if (t989 != t980) = true then (some false) else (laws_FnExactIsReduced.j2 k x1 t986 x972000 x972001 bt981.1 bt981.2)))))))
def laws_FnExactIsReduced.j2 : Nat → List Int → List Int → Int → List (S86) → Int → List (S68) → Option (Bool)
 | 0, _, _, _, _, _, _ => none
 | k + 1, x1, x10, x972000, x972001, x986000, x986001 => (laws_toGraph.f k x972000 x972001).bind fun bt990 => ((laws_eqGraph.f k x986000 x986001 bt990.1 bt990.2).bind fun t994 => (if t994 = true then (laws_FnExactIsReduced.j3 k x1 x10) else (some false)))
def laws_FnExactIsReduced.j3 : Nat → List Int → List Int → Option (Bool)
 | 0, _, _ => none
 | k + 1, x1, x10 => (laws_toIntS.f k x1).bind fun t995 => ((laws_eqIntS.f k x10 t995).bind fun t998 => (if t998 = true then (some true) else (some false)))
end
def laws_FnExactIsReduced.f (k : Nat) (a0_0 : Int) (l0_1 : List (S86)) (l1 : List Int) (a2 : Int) : Option (Bool) := if (l1.length : Int) > 1048576 then (some true) else (laws_FnExactIsReduced.j0 k l1 a2 a0_0 l0_1)
set_option maxHeartbeats 8000000 in
set_option maxRecDepth 100000 in
theorem laws_FnExactIsReduced.calls (k : Nat) (a0_0 : Int) (A0_1 : Option Addr) (c0_1 : Nat) (l0_1 : List (S86)) (A1 : Option Addr) (c1 : Nat) (l1 : List Int) (a2 : Int) (r : Bool) (w : World) (hr0_1 : Kd.C k86 w A0_1 l0_1.length l0_1) (hc0_1 : l0_1.length ≤ c0_1) (hr1 : Kd.C (Kd.int .i64) w A1 l1.length l1) (hc1 : l1.length ≤ c1) (h : laws_FnExactIsReduced.f k a0_0 l0_1 l1 a2 = some r) :
  Calls Try.prog 12 #[.agg #[.int .i64 a0_0, .slice A0_1 l0_1.length c0_1], .slice A1 l1.length c1, .int .i64 a2] w fun e w' => e = .returned (.bool r) ∧ Below w.heap.size w w' := by
 have hu33 := Try.underlying33
 have hu37 := Try.underlying37
 have HR0_1 := Aside0.mk hr0_1
 have HC0_1 := Aside0.mk hc0_1
 clear hr0_1 hc0_1
 have HR1 := Aside0.mk hr1
 have HC1 := Aside0.mk hc1
 clear hr1 hc1
 have HB := Aside0.mk (Below.refl w.heap.size w)
 have H : (if (l1.length : Int) > 1048576 then (some true) else (laws_FnExactIsReduced.j0 k l1 a2 a0_0 l0_1)) = some r := h
 clear h
 have HC4 := Aside0.mk H
 clear H
 go_enter Try.func12, Try.ntmps12
 go_upto_if 14 with (first | ((with_reducible refine gate_dst (N := 3) rfl ?_); refine box_event ?hg (N := 3) ?hd (cs := #[.int .i64 a0_0, .slice A0_1 l0_1.length c0_1]) (t := 33) ?hr ?_; (case hd => rfl); (case hg => rfl); (case hr => first | (go_simp; done) | (go_simp; rfl)); intro gb971 hg w5 hbox hb; have BK971 := Aside0.mk (hbox); have GW971 := Aside0.mk ((by rw [hg]; exact (below_size (Lz HB)) : w.heap.size ≤ gb971)); have GE971 := Aside0.mk ((by rw [hg]; exact (below_size (Lz HB)) : w.heap.size ≤ gb971)); replace HB := Aside0.mk (below_step (Lz HB) hb); clear hb hbox hg))
 (try simp only [Act.put, List.setIfInBounds_toArray, List.set_cons_zero, List.set_cons_succ])
 go_cut [] (fun wc => ∃ (kq : Nat), Aside0 (laws_FnExactIsReduced.j0 kq l1 a2 a0_0 l0_1 = some r) ∧ Aside0 (kq ≤ k) ∧ Aside0 (wc.heap[gb971]? = some (.cells #[.int .i64 a0_0, (.slice A0_1 l0_1.length c0_1)] 33 (0, 0))) ∧ Aside0 (Below w.heap.size w wc))
 case first =>
  have H := HC4.out
  clear HC4
  by_cases c6 : (l1.length : Int) > 1048576
  ·rw [if_pos c6] at H
   have c6b0 : decide (1048576 < (l1.length : Int)) = true := decide_eq_true c6
   have c6b1 : decide (1048576 < l1.length) = true := decide_eq_true (by omega)
   clear c6
   (first | rw [c6b0] | (simp only [i64_w, i32_w]; rw [c6b0]) | skip)
   obtain rfl := Option.some.inj H
   go_wp2
   go_ret
   exact ⟨by first | rfl | (simp [errW_none, errW_some] <;> rfl) | (simp [*, errW_none, errW_some] <;> rfl), by exact Lz1 HB GE971⟩
  rw [if_neg c6] at H
  have c6b0 : decide (1048576 < (l1.length : Int)) = false := decide_eq_false c6
  have c6b1 : decide (1048576 < l1.length) = false := decide_eq_false (by omega)
  clear c6
  (first | rw [c6b0] | (simp only [i64_w, i32_w]; rw [c6b0]) | skip)
  have H' := Aside0.mk H
  clear H
  go_wp2
  go_meet
  case rel => exact ⟨_, H', ⟨by first | omega | exact Nat.le_refl _⟩, ⟨by exact Bz BK971⟩, ⟨by exact Lz1 HB GE971⟩⟩
 case rest =>
  clear HC4
  try clear c1
  try clear c6
  try clear c6b0
  try clear c6b1
  obtain ⟨kq, HA, HJ3, BK971, HB⟩ := hcut
  cases kq with
  | zero => exact absurd HA.out (by simp [laws_FnExactIsReduced.j0])
  | succ kj3 =>
   have H := HA.out
   clear HA
   simp only [laws_FnExactIsReduced.j0] at H
   replace H := Option.bind_eq_some_iff.mp H
   obtain ⟨t972, A70, H⟩ := H
   replace H : (if t972 < 0 then (some true) else (laws_FnExactIsReduced.j1 kj3 l1 a2 a0_0 l0_1)) = some r := H
   have A7 := Aside0.mk A70
   clear A70
   have HC8 := Aside0.mk H
   clear H
   have hcz9_0 : wc.cell? ⟨gb971, 0, none⟩ = some (.int .i64 a0_0) := (blk_cell BK971.out 0).trans rfl
   have hcz9_1 : wc.cell? ⟨gb971, 1, none⟩ = some (.slice A0_1 l0_1.length c0_1) := (blk_cell BK971.out 1).trans rfl
   have hfz9_0 := blk_frozen BK971.out 0
   have hfz9_1 := blk_frozen BK971.out 1
   go_upto_if 19 with (first | ((with_reducible refine gate_callee (f := 24) rfl ?_); refine goesM_ (some 17) rfl rfl Try.func24 (by kernel_rfl) rfl #[.agg #[.int .i64 a0_0, .slice A0_1 l0_1.length c0_1], .int .i64 1048576] rfl ?_; (with_reducible refine (laws_szGraph.calls a0_0 _ _ l0_1 1048576 t972 _ ?side1 ?side2 A7.out).mono ?_); (case side1 => exact Cz ((Kd.C_below HR0_1.out HB.out))); (case side2 => exact HC0_1.out); rintro e w10 ⟨rfl, hb⟩; refine ⟨_, rfl, ?_⟩; replace BK971 := Aside0.mk (blk_below (g := gb971) (o := .cells #[.int .i64 a0_0, .slice A0_1 l0_1.length c0_1] 33 (0, 0)) (Bz BK971) hb); replace HB := Aside0.mk (below_step (by exact Lz1 HB GE971) hb); (try clear hb); (try clear hb2); (try clear hk); (try clear hi)))
   (try simp only [Act.put, List.setIfInBounds_toArray, List.set_cons_zero, List.set_cons_succ])
   go_cut [] (fun wc => ∃ (kq : Nat), Aside0 (laws_FnExactIsReduced.j1 kq l1 a2 a0_0 l0_1 = some r) ∧ Aside0 (kq ≤ kj3) ∧ Aside0 (wc.heap[gb971]? = some (.cells #[.int .i64 a0_0, (.slice A0_1 l0_1.length c0_1)] 33 (0, 0))) ∧ Aside0 (Below w.heap.size w wc))
   case first =>
    have H := HC8.out
    clear HC8
    by_cases c11 : t972 < 0
    ·rw [if_pos c11] at H
     have c11b0 : decide (t972 < 0) = true := decide_eq_true c11
     clear c11
     (first | rw [c11b0] | (simp only [i64_w, i32_w]; rw [c11b0]) | skip)
     obtain rfl := Option.some.inj H
     go_wp2
     go_ret
     exact ⟨by first | rfl | (simp [errW_none, errW_some] <;> rfl) | (simp [*, errW_none, errW_some] <;> rfl), by exact Lz1 HB GE971⟩
    rw [if_neg c11] at H
    have c11b0 : decide (t972 < 0) = false := decide_eq_false c11
    clear c11
    (first | rw [c11b0] | (simp only [i64_w, i32_w]; rw [c11b0]) | skip)
    have H' := Aside0.mk H
    clear H
    go_wp2
    go_meet
    case rel => exact ⟨_, H', ⟨by have := HJ3.out; first | omega | exact Nat.le_refl _⟩, ⟨by exact Bz BK971⟩, ⟨by exact Lz1 HB GE971⟩⟩
   case rest =>
    clear HC8
    try clear c1
    try clear c6
    try clear c6b0
    try clear c6b1
    try clear c11
    try clear c11b0
    obtain ⟨kq, HA, HJ7, BK971, HB⟩ := hcut
    cases kq with
    | zero => exact absurd HA.out (by simp [laws_FnExactIsReduced.j1])
    | succ kj7 =>
     have H := HA.out
     clear HA
     simp only [laws_FnExactIsReduced.j1] at H
     replace H := Option.bind_eq_some_iff.mp H
     obtain ⟨⟨t973, t974⟩, A120, H⟩ := H
     replace H : ((laws_toIntS.f kj7 l1).bind fun t977 => ((spec_IsReduced.f kj7 t973 t974 t977 a2).bind fun t980 => ((laws_toGraph.f kj7 a0_0 l0_1).bind fun bt981 => ((laws_toIntS.f kj7 l1).bind fun t986 => ((impl_IsReduced.f kj7 bt981.1 bt981.2 t986 a2).bind fun t989 => (if (t989 != t980) = true then (some false) else (laws_FnExactIsReduced.j2 kj7 l1 t986 a0_0 l0_1 bt981.1 bt981.2))))))) = some r := H
     have A12 := Aside0.mk A120
     clear A120
     replace H := Option.bind_eq_some_iff.mp H
     obtain ⟨t977, A130, H⟩ := H
     replace H : ((spec_IsReduced.f kj7 t973 t974 t977 a2).bind fun t980 => ((laws_toGraph.f kj7 a0_0 l0_1).bind fun bt981 => ((laws_toIntS.f kj7 l1).bind fun t986 => ((impl_IsReduced.f kj7 bt981.1 bt981.2 t986 a2).bind fun t989 => (if (t989 != t980) = true then (some false) else (laws_FnExactIsReduced.j2 kj7 l1 t986 a0_0 l0_1 bt981.1 bt981.2)))))) = some r := H
     have A13 := Aside0.mk A130
     clear A130
     replace H := Option.bind_eq_some_iff.mp H
     obtain ⟨t980, A140, H⟩ := H
     replace H : ((laws_toGraph.f kj7 a0_0 l0_1).bind fun bt981 => ((laws_toIntS.f kj7 l1).bind fun t986 => ((impl_IsReduced.f kj7 bt981.1 bt981.2 t986 a2).bind fun t989 => (if (t989 != t980) = true then (some false) else (laws_FnExactIsReduced.j2 kj7 l1 t986 a0_0 l0_1 bt981.1 bt981.2))))) = some r := H
     have A14 := Aside0.mk A140
     clear A140
     replace H := Option.bind_eq_some_iff.mp H
     obtain ⟨⟨t981, t982⟩, A150, H⟩ := H
     replace H : ((laws_toIntS.f kj7 l1).bind fun t986 => ((impl_IsReduced.f kj7 t981 t982 t986 a2).bind fun t989 => (if (t989 != t980) = true then (some false) else (laws_FnExactIsReduced.j2 kj7 l1 t986 a0_0 l0_1 t981 t982)))) = some r := H
     have A15 := Aside0.mk A150
     clear A150
     replace H := Option.bind_eq_some_iff.mp H
     obtain ⟨t986, A160, H⟩ := H
     replace H : ((impl_IsReduced.f kj7 t981 t982 t986 a2).bind fun t989 => (if (t989 != t980) = true then (some false) else (laws_FnExactIsReduced.j2 kj7 l1 t986 a0_0 l0_1 t981 t982))) = some r := H
     have A16 := Aside0.mk A160
     clear A160
     replace H := Option.bind_eq_some_iff.mp H
     obtain ⟨t989, A170, H⟩ := H
     replace H : (if (t989 != t980) = true then (some false) else (laws_FnExactIsReduced.j2 kj7 l1 t986 a0_0 l0_1 t981 t982)) = some r := H
     have A17 := Aside0.mk A170
     clear A170
     have HC18 := Aside0.mk H
     clear H
     have hcz19_0 : wc.cell? ⟨gb971, 0, none⟩ = some (.int .i64 a0_0) := (blk_cell BK971.out 0).trans rfl
     have hcz19_1 : wc.cell? ⟨gb971, 1, none⟩ = some (.slice A0_1 l0_1.length c0_1) := (blk_cell BK971.out 1).trans rfl
     have hfz19_0 := blk_frozen BK971.out 0
     have hfz19_1 := blk_frozen BK971.out 1
     go_upto_if 36 with (first | ((with_reducible refine gate_callee (f := 26) rfl ?_); refine goesM_ (some 21) rfl rfl Try.func26 (by kernel_rfl) rfl #[.agg #[.int .i64 a0_0, .slice A0_1 l0_1.length c0_1]] rfl ?_; (with_reducible refine (laws_toGraph.calls kj7 a0_0 _ _ l0_1 t973 t974 _ ?side1 ?side2 A12.out).mono ?_); (case side1 => exact Cz ((Kd.C_below HR0_1.out HB.out))); (case side2 => exact HC0_1.out); rintro e w20 ⟨v975, rfl, ho0, hb⟩; refine ⟨_, rfl, ?_⟩; have HO976 := Aside0.mk (Kd.R_lower ho0 (below_size (by exact Lz1 HB GE971))); replace BK971 := Aside0.mk (blk_below (g := gb971) (o := .cells #[.int .i64 a0_0, .slice A0_1 l0_1.length c0_1] 33 (0, 0)) (Bz BK971) hb); replace HB := Aside0.mk (below_step (by exact Lz1 HB GE971) hb); (try clear hb); (try clear ho0)) | ((with_reducible refine gate_callee (f := 36) rfl ?_); refine goesM_ (some 23) rfl rfl Try.func36 (by kernel_rfl) rfl #[.slice A1 l1.length c1] rfl ?_; (with_reducible refine (laws_toIntS.calls kj7 _ _ l1 t977 _ ?side1 ?side2 A13.out).mono ?_); (case side1 => exact Cz ((Kd.C_below HR1.out HB.out))); (case side2 => exact HC1.out); rintro e w21 ⟨v978, rfl, ho0, hb⟩; refine ⟨_, rfl, ?_⟩; replace HO976 := Aside0.mk (Kd.R_below (Rz HO976) hb); have HO979 := Aside0.mk (Kd.R_lower ho0 (below_size (by exact Lz1 HB GE971))); replace BK971 := Aside0.mk (blk_below (g := gb971) (o := .cells #[.int .i64 a0_0, .slice A0_1 l0_1.length c0_1] 33 (0, 0)) (Bz BK971) hb); replace HB := Aside0.mk (below_step (by exact Lz1 HB GE971) hb); (try clear hb); (try clear ho0); obtain ⟨Ao22, co22, eo22⟩ := Kd.R_slice HO976.out; subst eo22; obtain ⟨Ao23, co23, eo23⟩ := Kd.R_slice HO979.out; subst eo23) | ((with_reducible refine gate_callee (f := 47) rfl ?_); refine goesM_ (some 25) rfl rfl Try.func47 (by kernel_rfl) rfl #[.agg #[.int .i64 t973, .slice Ao22 t974.length co22], .slice Ao23 t977.length co23, .int .i64 a2] rfl ?_; (with_reducible refine (spec_IsReduced.calls kj7 t973 _ _ t974 _ _ t977 a2 t980 _ ?side1 ?side2 ?side3 ?side4 A14.out).mono ?_); (case side1 => exact Cz ((Kd.R_reads' HO976.out).2.2)); (case side2 => exact (Kd.R_reads' HO976.out).2.1); (case side3 => exact Cz ((Kd.R_reads' HO979.out).2.2)); (case side4 => exact (Kd.R_reads' HO979.out).2.1); rintro e w24 ⟨rfl, hb⟩; refine ⟨_, rfl, ?_⟩; replace HO976 := Aside0.mk (Kd.R_below (Rz HO976) hb); replace HO979 := Aside0.mk (Kd.R_below (Rz HO979) hb); replace BK971 := Aside0.mk (blk_below (g := gb971) (o := .cells #[.int .i64 a0_0, .slice A0_1 l0_1.length c0_1] 33 (0, 0)) (Bz BK971) hb); replace HB := Aside0.mk (below_step (by exact Lz1 HB GE971) hb); (try clear hb); (try clear hb2); (try clear hk); (try clear hi); have hcz25_0 : w24.cell? ⟨gb971, 0, none⟩ = some (.int .i64 a0_0) := (blk_cell BK971.out 0).trans rfl; have hcz25_1 : w24.cell? ⟨gb971, 1, none⟩ = some (.slice A0_1 l0_1.length c0_1) := (blk_cell BK971.out 1).trans rfl; have hfz25_0 := blk_frozen BK971.out 0; have hfz25_1 := blk_frozen BK971.out 1) | ((with_reducible refine gate_callee (f := 26) rfl ?_); refine goesM_ (some 27) rfl rfl Try.func26 (by kernel_rfl) rfl #[.agg #[.int .i64 a0_0, .slice A0_1 l0_1.length c0_1]] rfl ?_; (with_reducible refine (laws_toGraph.calls kj7 a0_0 _ _ l0_1 t981 t982 _ ?side1 ?side2 A15.out).mono ?_); (case side1 => exact Cz ((Kd.C_below HR0_1.out HB.out))); (case side2 => exact HC0_1.out); rintro e w26 ⟨v983, rfl, ho0, hb⟩; refine ⟨_, rfl, ?_⟩; replace HO979 := Aside0.mk (Kd.R_below (Rz HO979) hb); have HO984 := Aside0.mk (Kd.R_lower (Kd.R_new' ho0 (Kd.R_lt (Rz HO976))) (below_size (by exact Lz1 HB GE971))); replace HO976 := Aside0.mk (Kd.R_elder' (Rz HO976) (Kd.R_base ho0) hb); replace BK971 := Aside0.mk (blk_below (g := gb971) (o := .cells #[.int .i64 a0_0, .slice A0_1 l0_1.length c0_1] 33 (0, 0)) (Bz BK971) hb); replace HB := Aside0.mk (below_step (by exact Lz1 HB GE971) hb); (try clear hb); (try clear ho0)) | ((with_reducible refine gate_dst (N := 9) rfl ?_); refine box_event ?hg (N := 9) ?hd (cs := #[.int .i64 0, .slice none 0 0]) (t := 37) ?hr ?_; (case hd => rfl); (case hg => rfl); (case hr => first | (go_simp; done) | (go_simp; rfl)); intro gb985 hg w27 hbox hb; replace HO976 := Aside0.mk (Kd.R_below (Rz HO976) hb); replace HO979 := Aside0.mk (Kd.R_below (Rz HO979) hb); replace HO984 := Aside0.mk (Kd.R_below (Rz HO984) hb); have BK985 := Aside0.mk (hbox); have GW985 := Aside0.mk ((by rw [hg]; exact (below_size (by exact Lz1 HB GE971)) : w.heap.size ≤ gb985)); have GE985 := Aside0.mk ((by rw [hg]; exact (below_size (by exact Lz1 HB GE971)) : w.heap.size ≤ gb985)); replace HB := Aside0.mk (below_step (by exact Lz1 HB GE971) hb); have NB971_985 := Aside0.mk ((by rw [hg]; exact Nat.ne_of_lt (blk_lt (g := gb971) (o := .cells #[.int .i64 a0_0, .slice A0_1 l0_1.length c0_1] 33 (0, 0)) (Bz BK971)) : gb971 ≠ gb985)); have NB985_971 := Aside0.mk ((by rw [hg]; exact Nat.ne_of_gt (blk_lt (g := gb971) (o := .cells #[.int .i64 a0_0, .slice A0_1 l0_1.length c0_1] 33 (0, 0)) (Bz BK971)) : gb985 ≠ gb971)); replace BK971 := Aside0.mk (blk_below (g := gb971) (o := .cells #[.int .i64 a0_0, .slice A0_1 l0_1.length c0_1] 33 (0, 0)) (Bz BK971) hb); clear hb hbox hg; have hnb28 := NB985_971.out; have hnc28 := NB971_985.out; have hcz29_0 : w27.cell? ⟨gb985, 0, none⟩ = some (.int .i64 0) := (blk_cell BK985.out 0).trans rfl; have hcz29_1 : w27.cell? ⟨gb985, 1, none⟩ = some (.slice none 0 0) := (blk_cell BK985.out 1).trans rfl; have hfz29_0 := blk_frozen BK985.out 0; have hfz29_1 := blk_frozen BK985.out 1; obtain ⟨Ao30, co30, eo30⟩ := Kd.R_slice HO984.out; subst eo30) | ((with_reducible refine gate_callee (f := 36) rfl ?_); refine goesM_ (some 29) rfl rfl Try.func36 (by kernel_rfl) rfl #[.slice A1 l1.length c1] rfl ?_; (with_reducible refine (laws_toIntS.calls kj7 _ _ l1 t986 _ ?side1 ?side2 A16.out).mono ?_); (case side1 => exact Kd.C_below HR1.out (by exact Lz2 HB GE971 GE985)); (case side2 => exact HC1.out); rintro e w31 ⟨v987, rfl, ho0, hb⟩; refine ⟨_, rfl, ?_⟩; replace HO976 := Aside0.mk (Kd.R_below (by (with_reducible repeat (first | apply Kd.R_alloc | apply Kd.R_drewN | apply Kd.R_drew)); exact (Kd.R_mono (Kd.R_far (p := ⟨gb985, 1, none⟩) (Kd.R_far (p := ⟨gb985, 0, none⟩) (Kd.R_types HO976.out BK985.out (by decide)) (fun _ hk => hk.2) (.int .i64 t981)) (fun _ hk => hk.2) (.slice Ao30 t982.length co30)) (fun _ h_ => h_.1))) hb); replace HO984 := Aside0.mk (Kd.R_below (by (with_reducible repeat (first | apply Kd.R_alloc | apply Kd.R_drewN | apply Kd.R_drew)); exact (Kd.R_mono (Kd.R_far (p := ⟨gb985, 1, none⟩) (Kd.R_far (p := ⟨gb985, 0, none⟩) (Kd.R_types HO984.out BK985.out (by decide)) (fun _ hk => hk.2) (.int .i64 t981)) (fun _ hk => hk.2) (.slice Ao30 t982.length co30)) (fun _ h_ => h_.1))) hb); have HO988 := Aside0.mk (Kd.R_lower (Kd.R_new' ho0 (Kd.R_lt (by (with_reducible repeat (first | apply Kd.R_alloc | apply Kd.R_drewN | apply Kd.R_drew)); exact (Kd.R_mono (Kd.R_far (p := ⟨gb985, 1, none⟩) (Kd.R_far (p := ⟨gb985, 0, none⟩) (Kd.R_types HO979.out BK985.out (by decide)) (fun _ hk => hk.2) (.int .i64 t981)) (fun _ hk => hk.2) (.slice Ao30 t982.length co30)) (fun _ h_ => h_.1))))) (below_size (by exact Lz2 HB GE971 GE985))); replace HO979 := Aside0.mk (Kd.R_elder' (by (with_reducible repeat (first | apply Kd.R_alloc | apply Kd.R_drewN | apply Kd.R_drew)); exact (Kd.R_mono (Kd.R_far (p := ⟨gb985, 1, none⟩) (Kd.R_far (p := ⟨gb985, 0, none⟩) (Kd.R_types HO979.out BK985.out (by decide)) (fun _ hk => hk.2) (.int .i64 t981)) (fun _ hk => hk.2) (.slice Ao30 t982.length co30)) (fun _ h_ => h_.1))) (Kd.R_base ho0) hb); replace BK971 := Aside0.mk (blk_below (g := gb971) (o := .cells #[.int .i64 a0_0, .slice A0_1 l0_1.length c0_1] 33 (0, 0)) (by (with_reducible repeat (first | refine blk_drewN ?_ _ | refine blk_drew ?_ | refine blk_alloc ?_ _)); refine blk_far ?_ NB971_985.out _; (with_reducible repeat (first | refine blk_drewN ?_ _ | refine blk_drew ?_ | refine blk_alloc ?_ _)); refine blk_far ?_ NB971_985.out _; exact Bz BK971) hb); replace BK985 := Aside0.mk (blk_below (g := gb985) (o := .cells #[.int .i64 t981, .slice Ao30 t982.length co30] 37 (0, 0)) (by (with_reducible repeat (first | refine blk_drewN ?_ _ | refine blk_drew ?_ | refine blk_alloc ?_ _)); refine blk_put (cs := #[.int .i64 t981, .slice none 0 0]) ?_ 1 _ rfl; (with_reducible repeat (first | refine blk_drewN ?_ _ | refine blk_drew ?_ | refine blk_alloc ?_ _)); refine blk_put (cs := #[.int .i64 0, .slice none 0 0]) ?_ 0 _ rfl; exact Bz BK985) hb); replace HB := Aside0.mk (below_step (by exact Lz2 HB GE971 GE985) hb); (try clear hb); (try clear ho0); have hcz32_0 : w31.cell? ⟨gb985, 0, none⟩ = some (.int .i64 t981) := (blk_cell BK985.out 0).trans rfl; have hcz32_1 : w31.cell? ⟨gb985, 1, none⟩ = some (.slice Ao30 t982.length co30) := (blk_cell BK985.out 1).trans rfl; have hfz32_0 := blk_frozen BK985.out 0; have hfz32_1 := blk_frozen BK985.out 1; obtain ⟨Ao33, co33, eo33⟩ := Kd.R_slice HO988.out; subst eo33) | ((with_reducible refine gate_callee (f := 48) rfl ?_); refine goesM_ (some 33) rfl rfl Try.func48 (by kernel_rfl) rfl #[.agg #[.int .i64 t981, .slice Ao30 t982.length co30], .slice Ao33 t986.length co33, .int .i64 a2] rfl ?_; (with_reducible refine (impl_IsReduced.calls kj7 t981 _ _ t982 _ _ t986 a2 t989 _ ?side1 ?side2 ?side3 ?side4 A17.out).mono ?_); (case side1 => exact Cz ((Kd.R_reads' HO984.out).2.2)); (case side2 => exact (Kd.R_reads' HO984.out).2.1); (case side3 => exact Cz ((Kd.R_reads' HO988.out).2.2)); (case side4 => exact (Kd.R_reads' HO988.out).2.1); rintro e w34 ⟨rfl, hb⟩; refine ⟨_, rfl, ?_⟩; replace HO976 := Aside0.mk (Kd.R_below (Rz HO976) hb); replace HO979 := Aside0.mk (Kd.R_below (Rz HO979) hb); replace HO984 := Aside0.mk (Kd.R_below (Rz HO984) hb); replace HO988 := Aside0.mk (Kd.R_below (Rz HO988) hb); replace BK971 := Aside0.mk (blk_below (g := gb971) (o := .cells #[.int .i64 a0_0, .slice A0_1 l0_1.length c0_1] 33 (0, 0)) (Bz BK971) hb); replace BK985 := Aside0.mk (blk_below (g := gb985) (o := .cells #[.int .i64 t981, .slice Ao30 t982.length co30] 37 (0, 0)) (Bz BK985) hb); replace HB := Aside0.mk (below_step (by exact Lz2 HB GE971 GE985) hb); (try clear hb); (try clear hb2); (try clear hk); (try clear hi)))
     (try simp only [Act.put, List.setIfInBounds_toArray, List.set_cons_zero, List.set_cons_succ])
     go_cut [] (fun wc => ∃ (kq : Nat), Aside0 (laws_FnExactIsReduced.j2 kq l1 t986 a0_0 l0_1 t981 t982 = some r) ∧ Aside0 (kq ≤ kj7) ∧ Aside0 (Kd.R (Kd.int .i64) 3 wc w.heap.size (fun _ => True) (.slice Ao33 t986.length co33) t986) ∧ Aside0 (Kd.R k68 68 wc w.heap.size (fun _ => True) (.slice Ao30 t982.length co30) t982) ∧ Aside0 (wc.heap[gb971]? = some (.cells #[.int .i64 a0_0, (.slice A0_1 l0_1.length c0_1)] 33 (0, 0))) ∧ Aside0 (wc.heap[gb985]? = some (.cells #[.int .i64 t981, (.slice Ao30 t982.length co30)] 37 (0, 0))) ∧ Aside0 (Below w.heap.size w wc))
     case first =>
      have H := HC18.out
      clear HC18
      by_cases c35 : (t989 != t980) = true
      ·rw [if_pos c35] at H
       have c35b0 : (t989 != t980) = true := c35
       (try (have c35b1 : decide (t989 = t980) = false := by simpa using c35))
       (try (have c35b2 : (t989 == t980) = false := by simpa using c35))
       (try (have c35b3 : ¬ (t989 = t980) := by simpa using c35))
       clear c35
       (first | rw [c35b0] | (simp only [i64_w, i32_w]; rw [c35b0]) |(simp only [c35b2, Bool.not_false, Bool.not_true]) | skip)
       obtain rfl := Option.some.inj H
       go_wp2
       go_ret
       exact ⟨by first | rfl | (simp [errW_none, errW_some] <;> rfl) | (simp [*, errW_none, errW_some] <;> rfl), by exact Lz2 HB GE971 GE985⟩
      rw [if_neg c35] at H
      have c35b0 : (t989 != t980) = false := by simpa using c35
      (try (have c35b1 : decide (t989 = t980) = true := by simpa using c35))
      (try (have c35b2 : (t989 == t980) = true := by simpa using c35))
      clear c35
      (first | rw [c35b0] | (simp only [i64_w, i32_w]; rw [c35b0]) |(simp only [c35b2, Bool.not_false, Bool.not_true]) | skip)
      have H' := Aside0.mk H
      clear H
      go_wp2
      go_meet
      case rel => exact ⟨_, H', ⟨by have := HJ3.out; have := HJ7.out; first | omega | exact Nat.le_refl _⟩, ⟨by (with_reducible repeat (first | apply Kd.R_alloc | apply Kd.R_drewN | apply Kd.R_drew)); exact Kd.R_mono HO988.out (fun _ hk => trivial)⟩, ⟨by (with_reducible repeat (first | apply Kd.R_alloc | apply Kd.R_drewN | apply Kd.R_drew)); exact Kd.R_mono HO984.out (fun _ hk => trivial)⟩, ⟨by exact Bz BK971⟩, ⟨by exact Bz BK985⟩, ⟨by exact Lz2 HB GE971 GE985⟩⟩
     case rest =>
      clear HC18
      try clear c1
      try clear c6
      try clear c6b0
      try clear c6b1
      try clear c11
      try clear c11b0
      try clear c35
      try clear c35b0
      try clear c35b1
      try clear c35b2
      obtain ⟨kq, HA, HJ17, HO_10, HO_986001, BK971, BK985, HB⟩ := hcut
      cases kq with
      | zero => exact absurd HA.out (by simp [laws_FnExactIsReduced.j2])
      | succ kj17 =>
       have H := HA.out
       clear HA
       simp only [laws_FnExactIsReduced.j2] at H
       replace H := Option.bind_eq_some_iff.mp H
       obtain ⟨⟨t990, t991⟩, A360, H⟩ := H
       replace H : ((laws_eqGraph.f kj17 t981 t982 t990 t991).bind fun t994 => (if t994 = true then (laws_FnExactIsReduced.j3 kj17 l1 t986) else (some false))) = some r := H
       have A36 := Aside0.mk A360
       clear A360
       replace H := Option.bind_eq_some_iff.mp H
       obtain ⟨t994, A370, H⟩ := H
       replace H : (if t994 = true then (laws_FnExactIsReduced.j3 kj17 l1 t986) else (some false)) = some r := H
       have A37 := Aside0.mk A370
       clear A370
       have HC38 := Aside0.mk H
       clear H
       try go_wp2
       replace HO_10 := Aside0.mk (Kd.R_drew HO_10.out)
       replace HO_986001 := Aside0.mk (Kd.R_drew HO_986001.out)
       replace BK971 := Aside0.mk (blk_drew BK971.out)
       replace BK985 := Aside0.mk (blk_drew BK985.out)
       replace HB := Aside0.mk (below_drew1 HB.out)
       refine start_ (n := 5) (S := fun w' => w'.cell? ⟨gb985, 0, none⟩ = some (.int .i64 t981) ∧ w'.cell? ⟨gb985, 1, none⟩ = some (.slice Ao30 t982.length co30) ∧ w'.cell? ⟨gb971, 0, none⟩ = some (.int .i64 a0_0) ∧ w'.cell? ⟨gb971, 1, none⟩ = some (.slice A0_1 l0_1.length c0_1)) (ds := []) #[false, false, false, false, false] (by kernel_rfl) rfl rfl ⟨(blk_cell BK985.out 0).trans rfl, (blk_cell BK985.out 1).trans rfl, (blk_cell BK971.out 0).trans rfl, (blk_cell BK971.out 1).trans rfl⟩ (fun hHeld => ?_)
       generalize wc.drew = w39 at HO_10 HO_986001 BK971 BK985 HB hHeld ⊢
       refine take_ (i := 0) (N := some 37) (v := ?_) (a' := ?_) #[true, false, false, false, false] rfl rfl (by kernel_rfl) (fun _ _ _ h => h) (Or.inl ⟨by rfl, ?_⟩) hHeld ?_ ?_
       rotate_left
       ·rintro w' ⟨s0, s1, s2, s3⟩
        go_simp
        with_reducible rfl
       rotate_left
       ·simp only [Act.put, List.setIfInBounds_toArray, List.set_cons_zero, List.set_cons_succ, i64_w, i32_w]
        rfl
       refine take_ (i := 1) (N := some 38) (v := ?_) (a' := ?_) #[true, true, false, false, false] rfl rfl (by kernel_rfl) (fun _ _ _ h => h) (Or.inl ⟨by rfl, ?_⟩) hHeld ?_ ?_
       rotate_left
       ·rintro w' ⟨s0, s1, s2, s3⟩
        go_simp
        with_reducible rfl
       rotate_left
       ·simp only [Act.put, List.setIfInBounds_toArray, List.set_cons_zero, List.set_cons_succ, i64_w, i32_w]
        rfl
       refine one_ (i := 2) (N := some 39) #[true, true, true, false, false] rfl rfl (by kernel_rfl) (by decide) (fun K hK => ?_)
       refine goes_ Try.func26 (by kernel_rfl) rfl #[.agg #[.int .i64 a0_0, .slice A0_1 l0_1.length c0_1]] (by rfl) rfl rfl (by (try simp only [List.map_toArray, List.map_cons, List.map_nil]); first | done | rfl | (simp only [List.length_drop, List.length_take]; rfl)) ?_
       with_reducible refine (laws_toGraph.calls kj17 a0_0 _ _ l0_1 t990 t991 _ ?side1 ?side2 A36.out).mono ?_
       (case side1 => exact Cz ((Kd.C_below HR0_1.out HB.out)))
       (case side2 => exact HC0_1.out)
       rintro e w40 ⟨v992, rfl, ho0, hb⟩
       refine ⟨_, rfl, ?_⟩
       replace HO_10 := Aside0.mk (Kd.R_below (Rz HO_10) hb)
       have HO993 := Aside0.mk (Kd.R_lower (Kd.R_new' ho0 (Kd.R_lt (Rz HO_986001))) (below_size (by exact Lz2 HB GE971 GE985)))
       replace HO_986001 := Aside0.mk (Kd.R_elder' (Rz HO_986001) (Kd.R_base ho0) hb)
       replace BK971 := Aside0.mk (blk_below (g := gb971) (o := .cells #[.int .i64 a0_0, .slice A0_1 l0_1.length c0_1] 33 (0, 0)) (Bz BK971) hb)
       replace BK985 := Aside0.mk (blk_below (g := gb985) (o := .cells #[.int .i64 t981, .slice Ao30 t982.length co30] 37 (0, 0)) (Bz BK985) hb)
       replace HB := Aside0.mk (below_step (by exact Lz2 HB GE971 GE985) hb)
       (try clear hb)
       (try clear hb2)
       (try clear hk)
       (try clear hi)
       (try clear ho0)
       obtain ⟨Ao41, co41, eo41⟩ := Kd.R_slice HO993.out
       (first | subst eo41 | (injection eo41 with f1_ f2_ f3_; have f4_ := f1_.symm; have f5_ := f3_.symm; clear f1_ f2_ f3_; subst f4_; subst f5_))
       refine hK.out _ _ ⟨(blk_cell BK985.out 0).trans rfl, (blk_cell BK985.out 1).trans rfl, (blk_cell BK971.out 0).trans rfl, (blk_cell BK971.out 1).trans rfl⟩ (fun hHeld => ?_)
       clear hK K
       refine norm_ (a' := ?_) ?_ ?_
       rotate_left
       ·show Act.put _ (some 39) _ = _
        simp only [Act.put, List.setIfInBounds_toArray, List.set_cons_zero, List.set_cons_succ, i64_w, i32_w]
        rfl
       refine one_ (i := 3) (N := some 40) #[true, true, true, true, false] rfl rfl (by kernel_rfl) (by decide) (fun K hK => ?_)
       refine goes_ Try.func28 (by kernel_rfl) rfl #[.agg #[.int .i64 t981, .slice Ao30 t982.length co30], .agg #[.int .i64 t990, .slice Ao41 t991.length co41]] (by rfl) rfl rfl (by (try simp only [List.map_toArray, List.map_cons, List.map_nil]); first | done | rfl | (simp only [List.length_drop, List.length_take]; rfl)) ?_
       with_reducible refine (laws_eqGraph.calls kj17 t981 _ _ t982 t990 _ _ t991 t994 _ ?side1 ?side2 ?side3 ?side4 A37.out).mono ?_
       (case side1 => exact Cz ((Kd.R_reads' HO_986001.out).2.2))
       (case side2 => exact (Kd.R_reads' HO_986001.out).2.1)
       (case side3 => exact Cz ((Kd.R_reads' HO993.out).2.2))
       (case side4 => exact (Kd.R_reads' HO993.out).2.1)
       rintro e w42 ⟨rfl, hb⟩
       refine ⟨_, rfl, ?_⟩
       replace HO_10 := Aside0.mk (Kd.R_below (Rz HO_10) hb)
       replace HO_986001 := Aside0.mk (Kd.R_below (Rz HO_986001) hb)
       replace HO993 := Aside0.mk (Kd.R_below (Rz HO993) hb)
       replace BK971 := Aside0.mk (blk_below (g := gb971) (o := .cells #[.int .i64 a0_0, .slice A0_1 l0_1.length c0_1] 33 (0, 0)) (Bz BK971) hb)
       replace BK985 := Aside0.mk (blk_below (g := gb985) (o := .cells #[.int .i64 t981, .slice Ao30 t982.length co30] 37 (0, 0)) (Bz BK985) hb)
       replace HB := Aside0.mk (below_step (by exact Lz2 HB GE971 GE985) hb)
       (try clear hb)
       (try clear hb2)
       (try clear hk)
       (try clear hi)
       refine hK.out _ _ ⟨(blk_cell BK985.out 0).trans rfl, (blk_cell BK985.out 1).trans rfl, (blk_cell BK971.out 0).trans rfl, (blk_cell BK971.out 1).trans rfl⟩ (fun hHeld => ?_)
       clear hK K
       refine norm_ (a' := ?_) ?_ ?_
       rotate_left
       ·show Act.put _ (some 40) _ = _
        simp only [Act.put, List.setIfInBounds_toArray, List.set_cons_zero, List.set_cons_succ, i64_w, i32_w]
        rfl
       refine pure_ (i := 4) (N := some 41) (v := ?_) (a' := ?_) #[true, true, true, true, true] rfl rfl (by kernel_rfl) (fun _ _ _ h => h) (Or.inl ⟨by rfl, ?_⟩) ?_ ?_
       rotate_left
       ·intro w'
        go_simp
        with_reducible rfl
       rotate_left
       ·simp only [Act.put, List.setIfInBounds_toArray, List.set_cons_zero, List.set_cons_succ, i64_w, i32_w]
        rfl
       refine done_ (by kernel_rfl) ?_
       go_upto_if 41 with (fail)
       go_cut [] (fun wc => ∃ (kq : Nat), Aside0 (laws_FnExactIsReduced.j3 kq l1 t986 = some r) ∧ Aside0 (kq ≤ kj17) ∧ Aside0 (Kd.R (Kd.int .i64) 3 wc w.heap.size (fun _ => True) (.slice Ao33 t986.length co33) t986) ∧ Aside0 (Kd.R k68 68 wc w.heap.size (fun _ => True) (.slice Ao30 t982.length co30) t982) ∧ Aside0 (wc.heap[gb971]? = some (.cells #[.int .i64 a0_0, (.slice A0_1 l0_1.length c0_1)] 33 (0, 0))) ∧ Aside0 (wc.heap[gb985]? = some (.cells #[.int .i64 t981, (.slice Ao30 t982.length co30)] 37 (0, 0))) ∧ Aside0 (Below w.heap.size w wc))
       case first =>
        have H := HC38.out
        clear HC38
        by_cases c43 : t994 = true
        ·subst c43
         have H1 : (laws_FnExactIsReduced.j3 kj17 l1 t986) = some r := by rw [if_pos rfl] at H; exact H
         clear H
         have H := H1
         clear H1
         have H' := Aside0.mk H
         clear H
         go_wp2
         go_meet
         case rel => exact ⟨_, H', ⟨by have := HJ3.out; have := HJ7.out; have := HJ17.out; first | omega | exact Nat.le_refl _⟩, ⟨by exact Rz HO_10⟩, ⟨by (with_reducible repeat (first | apply Kd.R_alloc | apply Kd.R_drewN | apply Kd.R_drew)); exact Kd.R_mono HO_986001.out (fun _ hk => trivial)⟩, ⟨by exact Bz BK971⟩, ⟨by exact Bz BK985⟩, ⟨by exact Lz2 HB GE971 GE985⟩⟩
        replace c43 := Bool.eq_false_iff.mpr c43
        subst c43
        have H1 : (some false) = some r := by rw [if_neg (show ¬ (false = true) by decide)] at H; exact H
        clear H
        have H := H1
        clear H1
        obtain rfl := Option.some.inj H
        go_wp2
        go_ret
        exact ⟨by first | rfl | (simp [errW_none, errW_some] <;> rfl) | (simp [*, errW_none, errW_some] <;> rfl), by exact Lz2 HB GE971 GE985⟩
       case rest =>
        clear HC38
        try clear c1
        try clear c6
        try clear c6b0
        try clear c6b1
        try clear c11
        try clear c11b0
        try clear c35
        try clear c35b0
        try clear c35b1
        try clear c35b2
        try clear c43
        obtain ⟨kq, HA, HJ37, HO_10, HO_986001, BK971, BK985, HB⟩ := hcut
        cases kq with
        | zero => exact absurd HA.out (by simp [laws_FnExactIsReduced.j3])
        | succ kj37 =>
         have H := HA.out
         clear HA
         simp only [laws_FnExactIsReduced.j3] at H
         replace H := Option.bind_eq_some_iff.mp H
         obtain ⟨t995, A440, H⟩ := H
         replace H : ((laws_eqIntS.f kj37 t986 t995).bind fun t998 => (if t998 = true then (some true) else (some false))) = some r := H
         have A44 := Aside0.mk A440
         clear A440
         replace H := Option.bind_eq_some_iff.mp H
         obtain ⟨t998, A450, H⟩ := H
         replace H : (if t998 = true then (some true) else (some false)) = some r := H
         have A45 := Aside0.mk A450
         clear A450
         by_cases c46 : t998 = true
         ·subst c46
          have H1 : (some true) = some r := by rw [if_pos rfl] at H; exact H
          clear H
          have H := H1
          clear H1
          obtain rfl := Option.some.inj H
          go_wp2_with (first | ((with_reducible refine gate_callee (f := 36) rfl ?_); refine goesM_ (some 44) rfl rfl Try.func36 (by kernel_rfl) rfl #[.slice A1 l1.length c1] rfl ?_; (with_reducible refine (laws_toIntS.calls kj37 _ _ l1 t995 _ ?side1 ?side2 A44.out).mono ?_); (case side1 => exact Cz ((Kd.C_below HR1.out HB.out))); (case side2 => exact HC1.out); rintro e w47 ⟨v996, rfl, ho0, hb⟩; refine ⟨_, rfl, ?_⟩; replace HO_986001 := Aside0.mk (Kd.R_below (Rz HO_986001) hb); have HO997 := Aside0.mk (Kd.R_lower (Kd.R_new' ho0 (Kd.R_lt (Rz HO_10))) (below_size (by exact Lz2 HB GE971 GE985))); replace HO_10 := Aside0.mk (Kd.R_elder' (Rz HO_10) (Kd.R_base ho0) hb); replace BK971 := Aside0.mk (blk_below (g := gb971) (o := .cells #[.int .i64 a0_0, .slice A0_1 l0_1.length c0_1] 33 (0, 0)) (Bz BK971) hb); replace BK985 := Aside0.mk (blk_below (g := gb985) (o := .cells #[.int .i64 t981, .slice Ao30 t982.length co30] 37 (0, 0)) (Bz BK985) hb); replace HB := Aside0.mk (below_step (by exact Lz2 HB GE971 GE985) hb); (try clear hb); (try clear ho0); obtain ⟨Ao48, co48, eo48⟩ := Kd.R_slice HO997.out; subst eo48) | ((with_reducible refine gate_callee (f := 19) rfl ?_); refine goesM_ (some 45) rfl rfl Try.func19 (by kernel_rfl) rfl #[.slice Ao33 t986.length co33, .slice Ao48 t995.length co48] rfl ?_; (with_reducible refine (laws_eqIntS.calls kj37 _ _ t986 _ _ t995 true _ ?side1 ?side2 ?side3 ?side4 A45.out).mono ?_); (case side1 => exact Cz ((Kd.R_reads' HO_10.out).2.2)); (case side2 => exact (Kd.R_reads' HO_10.out).2.1); (case side3 => exact Cz ((Kd.R_reads' HO997.out).2.2)); (case side4 => exact (Kd.R_reads' HO997.out).2.1); rintro e w' ⟨rfl, ⟨nd, rfl⟩⟩; refine ⟨_, rfl, ?_⟩))
          go_ret
          exact ⟨by first | rfl | (simp [errW_none, errW_some] <;> rfl) | (simp [*, errW_none, errW_some] <;> rfl), by exact Lz2 HB GE971 GE985⟩
         replace c46 := Bool.eq_false_iff.mpr c46
         subst c46
         have H1 : (some false) = some r := by rw [if_neg (show ¬ (false = true) by decide)] at H; exact H
         clear H
         have H := H1
         clear H1
         obtain rfl := Option.some.inj H
         go_wp2_with (first | ((with_reducible refine gate_callee (f := 36) rfl ?_); refine goesM_ (some 44) rfl rfl Try.func36 (by kernel_rfl) rfl #[.slice A1 l1.length c1] rfl ?_; (with_reducible refine (laws_toIntS.calls kj37 _ _ l1 t995 _ ?side1 ?side2 A44.out).mono ?_); (case side1 => exact Cz ((Kd.C_below HR1.out HB.out))); (case side2 => exact HC1.out); rintro e w49 ⟨v996, rfl, ho0, hb⟩; refine ⟨_, rfl, ?_⟩; replace HO_986001 := Aside0.mk (Kd.R_below (Rz HO_986001) hb); have HO997 := Aside0.mk (Kd.R_lower (Kd.R_new' ho0 (Kd.R_lt (Rz HO_10))) (below_size (by exact Lz2 HB GE971 GE985))); replace HO_10 := Aside0.mk (Kd.R_elder' (Rz HO_10) (Kd.R_base ho0) hb); replace BK971 := Aside0.mk (blk_below (g := gb971) (o := .cells #[.int .i64 a0_0, .slice A0_1 l0_1.length c0_1] 33 (0, 0)) (Bz BK971) hb); replace BK985 := Aside0.mk (blk_below (g := gb985) (o := .cells #[.int .i64 t981, .slice Ao30 t982.length co30] 37 (0, 0)) (Bz BK985) hb); replace HB := Aside0.mk (below_step (by exact Lz2 HB GE971 GE985) hb); (try clear hb); (try clear ho0); obtain ⟨Ao50, co50, eo50⟩ := Kd.R_slice HO997.out; subst eo50) | ((with_reducible refine gate_callee (f := 19) rfl ?_); refine goesM_ (some 45) rfl rfl Try.func19 (by kernel_rfl) rfl #[.slice Ao33 t986.length co33, .slice Ao50 t995.length co50] rfl ?_; (with_reducible refine (laws_eqIntS.calls kj37 _ _ t986 _ _ t995 false _ ?side1 ?side2 ?side3 ?side4 A45.out).mono ?_); (case side1 => exact Cz ((Kd.R_reads' HO_10.out).2.2)); (case side2 => exact (Kd.R_reads' HO_10.out).2.1); (case side3 => exact Cz ((Kd.R_reads' HO997.out).2.2)); (case side4 => exact (Kd.R_reads' HO997.out).2.1); rintro e w' ⟨rfl, ⟨nd, rfl⟩⟩; refine ⟨_, rfl, ?_⟩))
         go_ret
         exact ⟨by first | rfl | (simp [errW_none, errW_some] <;> rfl) | (simp [*, errW_none, errW_some] <;> rfl), by exact Lz2 HB GE971 GE985⟩

end Go.Proofs.Ytfpcgccnhpfcnaa.P
