/- Functions of the program as plain Lean functions, and that the machine's calls answer as they do. Written for this claim by a program of this work that drives the kit's print engine; Lean checks it. -/
import Derived.Test.YtfpcgccnhpfcnaaGbf62bd544f
import Derived.Test.YtfpcgccnhpfcnaaGacab11c425
import Derived.Test.YtfpcgccnhpfcnaaG55bbc5b30a
namespace Go.Proofs.Ytfpcgccnhpfcnaa.P
open Go.RowKit Go.Proofs.YtfpcgccnhpfcnaaW.PrintWords Go.Proofs.YtfpcgccnhpfcnaaW.PrintLast Go.Proofs.YtfpcgccnhpfcnaaW.PrintMore
attribute [local go_sem] max2_int min2_int max_two min_two max_three min_three max_four min_four   -- for this text's walks alone
set_option linter.unusedVariables false
set_option linter.unusedSimpArgs false

/-! ### spec_IsLegalSet: function 38 -/
def spec_IsLegalSet.l0 : Nat → List Int → List Int → Int → Int → Option (Bool)
 | 0, _, _, _, _ => none
 | k + 1, x7, x20, x21, x22 => if x22 < x21 then (if 0 ≤ x22 then (if x22 < (x20.length : Int) then (if 0 ≤ (rd x20 x22) then (if (rd x20 x22) < (x7.length : Int) then (if (rd x7 (rd x20 x22)) < 0 then (some false) else (spec_IsLegalSet.l0 k x7 x20 x21 (wrap64 (x22 + 1)))) else (none)) else (none)) else (none)) else (none)) else (some true)
def spec_IsLegalSet.f (k : Nat) (a0_0 : Int) (l0_1 : List (S68)) (l1 : List Int) (l2 : List Int) : Option (Bool) := (spec_FireSet.f k a0_0 l0_1 l1 l2).bind fun bt624 => (if bt624.2 = true then (spec_IsLegalSet.l0 k bt624.1 l2 (l2.length : Int) 0) else (some false))
set_option maxHeartbeats 8000000 in
set_option maxRecDepth 100000 in
theorem spec_IsLegalSet.calls (k : Nat) (a0_0 : Int) (A0_1 : Option Addr) (c0_1 : Nat) (l0_1 : List (S68)) (A1 : Option Addr) (c1 : Nat) (l1 : List Int) (A2 : Option Addr) (c2 : Nat) (l2 : List Int) (r : Bool) (w : World) (hr0_1 : Kd.C k68 w A0_1 l0_1.length l0_1) (hc0_1 : l0_1.length ≤ c0_1) (hr1 : Kd.C (Kd.int .i64) w A1 l1.length l1) (hc1 : l1.length ≤ c1) (hr2 : Kd.C (Kd.int .i64) w A2 l2.length l2) (hc2 : l2.length ≤ c2) (h : spec_IsLegalSet.f k a0_0 l0_1 l1 l2 = some r) :
  Calls Try.prog 38 #[.agg #[.int .i64 a0_0, .slice A0_1 l0_1.length c0_1], .slice A1 l1.length c1, .slice A2 l2.length c2] w fun e w' => e = .returned (.bool r) ∧ Below w.heap.size w w' := by
 have hu37 := Try.underlying37
 have HR0_1 := Aside0.mk hr0_1
 have HC0_1 := Aside0.mk hc0_1
 clear hr0_1 hc0_1
 have HR1 := Aside0.mk hr1
 have HC1 := Aside0.mk hc1
 clear hr1 hc1
 have HR2 := Aside0.mk hr2
 have HC2 := Aside0.mk hc2
 clear hr2 hc2
 have HB := Aside0.mk (Below.refl w.heap.size w)
 have H : ((spec_FireSet.f k a0_0 l0_1 l1 l2).bind fun bt624 => (if bt624.2 = true then (spec_IsLegalSet.l0 k bt624.1 l2 (l2.length : Int) 0) else (some false))) = some r := h
 clear h
 replace H := Option.bind_eq_some_iff.mp H
 obtain ⟨⟨t624, t627⟩, A40, H⟩ := H
 replace H : (if t627 = true then (spec_IsLegalSet.l0 k t624 l2 (l2.length : Int) 0) else (some false)) = some r := H
 have A4 := Aside0.mk A40
 clear A40
 by_cases c5 : t627 = true
 ·subst c5
  have H1 : (spec_IsLegalSet.l0 k t624 l2 (l2.length : Int) 0) = some r := by rw [if_pos rfl] at H; exact H
  clear H
  have H := H1
  clear H1
  have H' := Aside0.mk H
  clear H
  go_enter Try.func38, Try.ntmps38
  go_wp2_with (first | ((with_reducible refine gate_dst (N := 3) rfl ?_); refine box_event ?hg (N := 3) ?hd (cs := #[.int .i64 a0_0, .slice A0_1 l0_1.length c0_1]) (t := 37) ?hr ?_; (case hd => rfl); (case hg => rfl); (case hr => first | (go_simp; done) | (go_simp; rfl)); intro gb623 hg w6 hbox hb; have BK623 := Aside0.mk (hbox); have GW623 := Aside0.mk ((by rw [hg]; exact (below_size (Lz HB)) : w.heap.size ≤ gb623)); have GE623 := Aside0.mk ((by rw [hg]; exact (below_size (Lz HB)) : w.heap.size ≤ gb623)); replace HB := Aside0.mk (below_step (Lz HB) hb); clear hb hbox hg; have hcz7_0 : w6.cell? ⟨gb623, 0, none⟩ = some (.int .i64 a0_0) := (blk_cell BK623.out 0).trans rfl; have hcz7_1 : w6.cell? ⟨gb623, 1, none⟩ = some (.slice A0_1 l0_1.length c0_1) := (blk_cell BK623.out 1).trans rfl; have hfz7_0 := blk_frozen BK623.out 0; have hfz7_1 := blk_frozen BK623.out 1) | ((with_reducible refine gate_callee (f := 40) rfl ?_); refine goesM_ (some 15) rfl rfl Try.func40 (by kernel_rfl) rfl #[.agg #[.int .i64 a0_0, .slice A0_1 l0_1.length c0_1], .slice A1 l1.length c1, .slice A2 l2.length c2] rfl ?_; (with_reducible refine (spec_FireSet.calls k a0_0 _ _ l0_1 _ _ l1 _ _ l2 t624 true _ ?side1 ?side2 ?side3 ?side4 ?side5 ?side6 A4.out).mono ?_); (case side1 => exact Cz ((Kd.C_below HR0_1.out HB.out))); (case side2 => exact HC0_1.out); (case side3 => exact Cz ((Kd.C_below HR1.out HB.out))); (case side4 => exact HC1.out); (case side5 => exact Cz ((Kd.C_below HR2.out HB.out))); (case side6 => exact HC2.out); rintro e w8 ⟨v625, rfl, ho0, hb⟩; refine ⟨_, rfl, ?_⟩; have HO626 := Aside0.mk (Kd.R_lower ho0 (below_size (by exact Lz1 HB GE623))); replace BK623 := Aside0.mk (blk_below (g := gb623) (o := .cells #[.int .i64 a0_0, .slice A0_1 l0_1.length c0_1] 37 (0, 0)) (Bz BK623) hb); replace HB := Aside0.mk (below_step (by exact Lz1 HB GE623) hb); (try clear hb); (try clear ho0)))
  go_loopg [22] k (fun kq v22 w' => ∃ (x22_1 : Int), v22 = .int .i64 x22_1 ∧ Aside0 (spec_IsLegalSet.l0 kq t624 l2 (l2.length : Int) x22_1 = some r) ∧ Aside0 (kq ≤ k) ∧ Aside0 (Kd.R (Kd.int .i64) 3 w' w.heap.size (fun _ => True) v625 t624) ∧ Aside0 (w'.heap[gb623]? = some (.cells #[.int .i64 a0_0, (.slice A0_1 l0_1.length c0_1)] 37 (0, 0))) ∧ Aside0 (Below w.heap.size w w'))
  case atStart => exact ⟨(0), (by first | rfl | (simp; done) | (simp [*]; done)), H', ⟨Nat.le_refl _⟩, ⟨by exact Rz HO626⟩, ⟨by exact Bz BK623⟩, ⟨by exact Lz1 HB GE623⟩⟩
  case round =>
   clear H'
   try clear c1
   try clear c2
   try clear c5
   obtain ⟨x22_1, rfl, HA, HK1, HO_7, BK623, HB⟩ := hrel
   cases gk with
   | zero => exact absurd HA.out (by simp [spec_IsLegalSet.l0])
   | succ k1 =>
    have H := HA.out
    clear HA
    simp only [spec_IsLegalSet.l0] at H
    by_cases c9 : x22_1 < (l2.length : Int)
    ·rw [if_pos c9] at H
     have c9b0 : decide (x22_1 < (l2.length : Int)) = true := decide_eq_true c9
     clear c9
     by_cases c10 : 0 ≤ x22_1
     ·rw [if_pos c10] at H
      have c10b0 : decide (0 ≤ x22_1) = true := decide_eq_true c10
      clear c10
      by_cases c11 : x22_1 < (l2.length : Int)
      ·rw [if_pos c11] at H
       have c11b0 : decide (x22_1 < (l2.length : Int)) = true := decide_eq_true c11
       clear c11
       by_cases c12 : 0 ≤ (rd l2 x22_1)
       ·rw [if_pos c12] at H
        have c12b0 : decide (0 ≤ (rd l2 x22_1)) = true := decide_eq_true c12
        clear c12
        by_cases c13 : (rd l2 x22_1) < (t624.length : Int)
        ·rw [if_pos c13] at H
         have c13b0 : decide ((rd l2 x22_1) < (t624.length : Int)) = true := decide_eq_true c13
         clear c13
         by_cases c14 : (rd t624 (rd l2 x22_1)) < 0
         ·rw [if_pos c14] at H
          have c14b0 : decide ((rd t624 (rd l2 x22_1)) < 0) = true := decide_eq_true c14
          clear c14
          obtain rfl := Option.some.inj H
          have p628 : 0 ≤ (x22_1 : Int) := of_decide_eq_true (by first | (with_reducible assumption) | assumption)
          have q628 : x22_1 < (l2.length : Int) := of_decide_eq_true (by first | (with_reducible assumption) | assumption)
          obtain ⟨ad628, e628, hx628_0⟩ := Kd.at_int HR2.out x22_1 p628 q628
          cases e628
          replace hx628_0 := (HB.out.cell (World.block_lt_of_cell? w _ hx628_0)).trans hx628_0
          replace p628 := eq_true p628
          replace q628 := eq_true q628
          obtain ⟨Ao15, co15, eo15⟩ := Kd.R_slice HO_7.out
          subst eo15
          have p629 : 0 ≤ ((rd l2 x22_1) : Int) := of_decide_eq_true (by first | (with_reducible assumption) | assumption)
          have q629 : (rd l2 x22_1) < (t624.length : Int) := of_decide_eq_true (by first | (with_reducible assumption) | assumption)
          obtain ⟨ad629, e629, hx629_0⟩ := Kd.at_int (Kd.R_reads' HO_7.out).2.2 (rd l2 x22_1) p629 q629
          cases e629
          replace p629 := eq_true p629
          replace q629 := eq_true q629
          go_wp2
          go_ret
          exact ⟨by first | rfl | (simp [errW_none, errW_some] <;> rfl) | (simp [*, errW_none, errW_some] <;> rfl), by exact Lz1 HB GE623⟩
         rw [if_neg c14] at H
         have c14b0 : decide ((rd t624 (rd l2 x22_1)) < 0) = false := decide_eq_false c14
         clear c14
         have H' := Aside0.mk H
         clear H
         have p628 : 0 ≤ (x22_1 : Int) := of_decide_eq_true (by first | (with_reducible assumption) | assumption)
         have q628 : x22_1 < (l2.length : Int) := of_decide_eq_true (by first | (with_reducible assumption) | assumption)
         obtain ⟨ad628, e628, hx628_0⟩ := Kd.at_int HR2.out x22_1 p628 q628
         cases e628
         replace hx628_0 := (HB.out.cell (World.block_lt_of_cell? w _ hx628_0)).trans hx628_0
         replace p628 := eq_true p628
         replace q628 := eq_true q628
         obtain ⟨Ao16, co16, eo16⟩ := Kd.R_slice HO_7.out
         subst eo16
         have p629 : 0 ≤ ((rd l2 x22_1) : Int) := of_decide_eq_true (by first | (with_reducible assumption) | assumption)
         have q629 : (rd l2 x22_1) < (t624.length : Int) := of_decide_eq_true (by first | (with_reducible assumption) | assumption)
         obtain ⟨ad629, e629, hx629_0⟩ := Kd.at_int (Kd.R_reads' HO_7.out).2.2 (rd l2 x22_1) p629 q629
         cases e629
         replace p629 := eq_true p629
         replace q629 := eq_true q629
         go_wp2
         go_roundg k1
         case measure => have := HK1.out; omega
         case rel => exact ⟨(wrap64 (x22_1 + 1)), (by first | rfl | (simp; done) | (simp [*]; done)), H', ⟨by have := HK1.out; omega⟩, ⟨by exact Rz HO_7⟩, ⟨by exact Bz BK623⟩, ⟨by exact Lz1 HB GE623⟩⟩
        rw [if_neg c13] at H
        exact absurd H (by simp)
       rw [if_neg c12] at H
       exact absurd H (by simp)
      rw [if_neg c11] at H
      exact absurd H (by simp)
     rw [if_neg c10] at H
     exact absurd H (by simp)
    rw [if_neg c9] at H
    have c9b0 : decide (x22_1 < (l2.length : Int)) = false := decide_eq_false c9
    clear c9
    obtain rfl := Option.some.inj H
    go_wp2
    go_ret
    exact ⟨by first | rfl | (simp [errW_none, errW_some] <;> rfl) | (simp [*, errW_none, errW_some] <;> rfl), by exact Lz1 HB GE623⟩
 replace c5 := Bool.eq_false_iff.mpr c5
 subst c5
 have H1 : (some false) = some r := by rw [if_neg (show ¬ (false = true) by decide)] at H; exact H
 clear H
 have H := H1
 clear H1
 obtain rfl := Option.some.inj H
 go_enter Try.func38, Try.ntmps38
 go_wp2_with (first | ((with_reducible refine gate_dst (N := 3) rfl ?_); refine box_event ?hg (N := 3) ?hd (cs := #[.int .i64 a0_0, .slice A0_1 l0_1.length c0_1]) (t := 37) ?hr ?_; (case hd => rfl); (case hg => rfl); (case hr => first | (go_simp; done) | (go_simp; rfl)); intro gb623 hg w17 hbox hb; have BK623 := Aside0.mk (hbox); have GW623 := Aside0.mk ((by rw [hg]; exact (below_size (Lz HB)) : w.heap.size ≤ gb623)); have GE623 := Aside0.mk ((by rw [hg]; exact (below_size (Lz HB)) : w.heap.size ≤ gb623)); replace HB := Aside0.mk (below_step (Lz HB) hb); clear hb hbox hg; have hcz18_0 : w17.cell? ⟨gb623, 0, none⟩ = some (.int .i64 a0_0) := (blk_cell BK623.out 0).trans rfl; have hcz18_1 : w17.cell? ⟨gb623, 1, none⟩ = some (.slice A0_1 l0_1.length c0_1) := (blk_cell BK623.out 1).trans rfl; have hfz18_0 := blk_frozen BK623.out 0; have hfz18_1 := blk_frozen BK623.out 1) | ((with_reducible refine gate_callee (f := 40) rfl ?_); refine goesM_ (some 15) rfl rfl Try.func40 (by kernel_rfl) rfl #[.agg #[.int .i64 a0_0, .slice A0_1 l0_1.length c0_1], .slice A1 l1.length c1, .slice A2 l2.length c2] rfl ?_; (with_reducible refine (spec_FireSet.calls k a0_0 _ _ l0_1 _ _ l1 _ _ l2 t624 false _ ?side1 ?side2 ?side3 ?side4 ?side5 ?side6 A4.out).mono ?_); (case side1 => exact Cz ((Kd.C_below HR0_1.out HB.out))); (case side2 => exact HC0_1.out); (case side3 => exact Cz ((Kd.C_below HR1.out HB.out))); (case side4 => exact HC1.out); (case side5 => exact Cz ((Kd.C_below HR2.out HB.out))); (case side6 => exact HC2.out); rintro e w19 ⟨v625, rfl, ho0, hb⟩; refine ⟨_, rfl, ?_⟩; have HO626 := Aside0.mk (Kd.R_lower ho0 (below_size (by exact Lz1 HB GE623))); replace BK623 := Aside0.mk (blk_below (g := gb623) (o := .cells #[.int .i64 a0_0, .slice A0_1 l0_1.length c0_1] 37 (0, 0)) (Bz BK623) hb); replace HB := Aside0.mk (below_step (by exact Lz1 HB GE623) hb); (try clear hb); (try clear ho0)))
 go_ret
 exact ⟨by first | rfl | (simp [errW_none, errW_some] <;> rfl) | (simp [*, errW_none, errW_some] <;> rfl), by exact Lz1 HB GE623⟩

/-! ### impl_IsLegalSet: function 39 -/
def impl_IsLegalSet.l0 : Nat → List Int → List Int → Int → Int → Option (Bool)
 | 0, _, _, _, _ => none
 | k + 1, x7, x20, x21, x22 => if x22 < x21 then (if 0 ≤ x22 then (if x22 < (x20.length : Int) then (if 0 ≤ (rd x20 x22) then (if (rd x20 x22) < (x7.length : Int) then (if (rd x7 (rd x20 x22)) < 0 then (some false) else (impl_IsLegalSet.l0 k x7 x20 x21 (wrap64 (x22 + 1)))) else (none)) else (none)) else (none)) else (none)) else (some true)
def impl_IsLegalSet.f (k : Nat) (a0_0 : Int) (l0_1 : List (S68)) (l1 : List Int) (l2 : List Int) : Option (Bool) := (impl_FireSet.f k a0_0 l0_1 l1 l2).bind fun bt643 => (if bt643.2 = true then (impl_IsLegalSet.l0 k bt643.1 l2 (l2.length : Int) 0) else (some false))
set_option maxHeartbeats 8000000 in
set_option maxRecDepth 100000 in
theorem impl_IsLegalSet.calls (k : Nat) (a0_0 : Int) (A0_1 : Option Addr) (c0_1 : Nat) (l0_1 : List (S68)) (A1 : Option Addr) (c1 : Nat) (l1 : List Int) (A2 : Option Addr) (c2 : Nat) (l2 : List Int) (r : Bool) (w : World) (hr0_1 : Kd.C k68 w A0_1 l0_1.length l0_1) (hc0_1 : l0_1.length ≤ c0_1) (hr1 : Kd.C (Kd.int .i64) w A1 l1.length l1) (hc1 : l1.length ≤ c1) (hr2 : Kd.C (Kd.int .i64) w A2 l2.length l2) (hc2 : l2.length ≤ c2) (h : impl_IsLegalSet.f k a0_0 l0_1 l1 l2 = some r) :
  Calls Try.prog 39 #[.agg #[.int .i64 a0_0, .slice A0_1 l0_1.length c0_1], .slice A1 l1.length c1, .slice A2 l2.length c2] w fun e w' => e = .returned (.bool r) ∧ Below w.heap.size w w' := by
 have hu37 := Try.underlying37
 have HR0_1 := Aside0.mk hr0_1
 have HC0_1 := Aside0.mk hc0_1
 clear hr0_1 hc0_1
 have HR1 := Aside0.mk hr1
 have HC1 := Aside0.mk hc1
 clear hr1 hc1
 have HR2 := Aside0.mk hr2
 have HC2 := Aside0.mk hc2
 clear hr2 hc2
 have HB := Aside0.mk (Below.refl w.heap.size w)
 have H : ((impl_FireSet.f k a0_0 l0_1 l1 l2).bind fun bt643 => (if bt643.2 = true then (impl_IsLegalSet.l0 k bt643.1 l2 (l2.length : Int) 0) else (some false))) = some r := h
 clear h
 replace H := Option.bind_eq_some_iff.mp H
 obtain ⟨⟨t643, t646⟩, A40, H⟩ := H
 replace H : (if t646 = true then (impl_IsLegalSet.l0 k t643 l2 (l2.length : Int) 0) else (some false)) = some r := H
 have A4 := Aside0.mk A40
 clear A40
 by_cases c5 : t646 = true
 ·subst c5
  have H1 : (impl_IsLegalSet.l0 k t643 l2 (l2.length : Int) 0) = some r := by rw [if_pos rfl] at H; exact H
  clear H
  have H := H1
  clear H1
  have H' := Aside0.mk H
  clear H
  go_enter Try.func39, Try.ntmps39
  go_wp2_with (first | ((with_reducible refine gate_dst (N := 3) rfl ?_); refine box_event ?hg (N := 3) ?hd (cs := #[.int .i64 a0_0, .slice A0_1 l0_1.length c0_1]) (t := 37) ?hr ?_; (case hd => rfl); (case hg => rfl); (case hr => first | (go_simp; done) | (go_simp; rfl)); intro gb642 hg w6 hbox hb; have BK642 := Aside0.mk (hbox); have GW642 := Aside0.mk ((by rw [hg]; exact (below_size (Lz HB)) : w.heap.size ≤ gb642)); have GE642 := Aside0.mk ((by rw [hg]; exact (below_size (Lz HB)) : w.heap.size ≤ gb642)); replace HB := Aside0.mk (below_step (Lz HB) hb); clear hb hbox hg; have hcz7_0 : w6.cell? ⟨gb642, 0, none⟩ = some (.int .i64 a0_0) := (blk_cell BK642.out 0).trans rfl; have hcz7_1 : w6.cell? ⟨gb642, 1, none⟩ = some (.slice A0_1 l0_1.length c0_1) := (blk_cell BK642.out 1).trans rfl; have hfz7_0 := blk_frozen BK642.out 0; have hfz7_1 := blk_frozen BK642.out 1) | ((with_reducible refine gate_callee (f := 41) rfl ?_); refine goesM_ (some 15) rfl rfl Try.func41 (by kernel_rfl) rfl #[.agg #[.int .i64 a0_0, .slice A0_1 l0_1.length c0_1], .slice A1 l1.length c1, .slice A2 l2.length c2] rfl ?_; (with_reducible refine (impl_FireSet.calls k a0_0 _ _ l0_1 _ _ l1 _ _ l2 t643 true _ ?side1 ?side2 ?side3 ?side4 ?side5 ?side6 A4.out).mono ?_); (case side1 => exact Cz ((Kd.C_below HR0_1.out HB.out))); (case side2 => exact HC0_1.out); (case side3 => exact Cz ((Kd.C_below HR1.out HB.out))); (case side4 => exact HC1.out); (case side5 => exact Cz ((Kd.C_below HR2.out HB.out))); (case side6 => exact HC2.out); rintro e w8 ⟨v644, rfl, ho0, hb⟩; refine ⟨_, rfl, ?_⟩; have HO645 := Aside0.mk (Kd.R_lower ho0 (below_size (by exact Lz1 HB GE642))); replace BK642 := Aside0.mk (blk_below (g := gb642) (o := .cells #[.int .i64 a0_0, .slice A0_1 l0_1.length c0_1] 37 (0, 0)) (Bz BK642) hb); replace HB := Aside0.mk (below_step (by exact Lz1 HB GE642) hb); (try clear hb); (try clear ho0)))
  go_loopg [22] k (fun kq v22 w' => ∃ (x22_1 : Int), v22 = .int .i64 x22_1 ∧ Aside0 (impl_IsLegalSet.l0 kq t643 l2 (l2.length : Int) x22_1 = some r) ∧ Aside0 (kq ≤ k) ∧ Aside0 (Kd.R (Kd.int .i64) 3 w' w.heap.size (fun _ => True) v644 t643) ∧ Aside0 (w'.heap[gb642]? = some (.cells #[.int .i64 a0_0, (.slice A0_1 l0_1.length c0_1)] 37 (0, 0))) ∧ Aside0 (Below w.heap.size w w'))
  case atStart => exact ⟨(0), (by first | rfl | (simp; done) | (simp [*]; done)), H', ⟨Nat.le_refl _⟩, ⟨by exact Rz HO645⟩, ⟨by exact Bz BK642⟩, ⟨by exact Lz1 HB GE642⟩⟩
  case round =>
   clear H'
   try clear c1
   try clear c2
   try clear c5
   obtain ⟨x22_1, rfl, HA, HK1, HO_7, BK642, HB⟩ := hrel
   cases gk with
   | zero => exact absurd HA.out (by simp [impl_IsLegalSet.l0])
   | succ k1 =>
    have H := HA.out
    clear HA
    simp only [impl_IsLegalSet.l0] at H
    by_cases c9 : x22_1 < (l2.length : Int)
    ·rw [if_pos c9] at H
     have c9b0 : decide (x22_1 < (l2.length : Int)) = true := decide_eq_true c9
     clear c9
     by_cases c10 : 0 ≤ x22_1
     ·rw [if_pos c10] at H
      have c10b0 : decide (0 ≤ x22_1) = true := decide_eq_true c10
      clear c10
      by_cases c11 : x22_1 < (l2.length : Int)
      ·rw [if_pos c11] at H
       have c11b0 : decide (x22_1 < (l2.length : Int)) = true := decide_eq_true c11
       clear c11
       by_cases c12 : 0 ≤ (rd l2 x22_1)
       ·rw [if_pos c12] at H
        have c12b0 : decide (0 ≤ (rd l2 x22_1)) = true := decide_eq_true c12
        clear c12
        by_cases c13 : (rd l2 x22_1) < (t643.length : Int)
        ·rw [if_pos c13] at H
         have c13b0 : decide ((rd l2 x22_1) < (t643.length : Int)) = true := decide_eq_true c13
         clear c13
         by_cases c14 : (rd t643 (rd l2 x22_1)) < 0
         ·rw [if_pos c14] at H
          have c14b0 : decide ((rd t643 (rd l2 x22_1)) < 0) = true := decide_eq_true c14
          clear c14
          obtain rfl := Option.some.inj H
          have p647 : 0 ≤ (x22_1 : Int) := of_decide_eq_true (by first | (with_reducible assumption) | assumption)
          have q647 : x22_1 < (l2.length : Int) := of_decide_eq_true (by first | (with_reducible assumption) | assumption)
          obtain ⟨ad647, e647, hx647_0⟩ := Kd.at_int HR2.out x22_1 p647 q647
          cases e647
          replace hx647_0 := (HB.out.cell (World.block_lt_of_cell? w _ hx647_0)).trans hx647_0
          replace p647 := eq_true p647
          replace q647 := eq_true q647
          obtain ⟨Ao15, co15, eo15⟩ := Kd.R_slice HO_7.out
          subst eo15
          have p648 : 0 ≤ ((rd l2 x22_1) : Int) := of_decide_eq_true (by first | (with_reducible assumption) | assumption)
          have q648 : (rd l2 x22_1) < (t643.length : Int) := of_decide_eq_true (by first | (with_reducible assumption) | assumption)
          obtain ⟨ad648, e648, hx648_0⟩ := Kd.at_int (Kd.R_reads' HO_7.out).2.2 (rd l2 x22_1) p648 q648
          cases e648
          replace p648 := eq_true p648
          replace q648 := eq_true q648
          go_wp2
          go_ret
          exact ⟨by first | rfl | (simp [errW_none, errW_some] <;> rfl) | (simp [*, errW_none, errW_some] <;> rfl), by exact Lz1 HB GE642⟩
         rw [if_neg c14] at H
         have c14b0 : decide ((rd t643 (rd l2 x22_1)) < 0) = false := decide_eq_false c14
         clear c14
         have H' := Aside0.mk H
         clear H
         have p647 : 0 ≤ (x22_1 : Int) := of_decide_eq_true (by first | (with_reducible assumption) | assumption)
         have q647 : x22_1 < (l2.length : Int) := of_decide_eq_true (by first | (with_reducible assumption) | assumption)
         obtain ⟨ad647, e647, hx647_0⟩ := Kd.at_int HR2.out x22_1 p647 q647
         cases e647
         replace hx647_0 := (HB.out.cell (World.block_lt_of_cell? w _ hx647_0)).trans hx647_0
         replace p647 := eq_true p647
         replace q647 := eq_true q647
         obtain ⟨Ao16, co16, eo16⟩ := Kd.R_slice HO_7.out
         subst eo16
         have p648 : 0 ≤ ((rd l2 x22_1) : Int) := of_decide_eq_true (by first | (with_reducible assumption) | assumption)
         have q648 : (rd l2 x22_1) < (t643.length : Int) := of_decide_eq_true (by first | (with_reducible assumption) | assumption)
         obtain ⟨ad648, e648, hx648_0⟩ := Kd.at_int (Kd.R_reads' HO_7.out).2.2 (rd l2 x22_1) p648 q648
         cases e648
         replace p648 := eq_true p648
         replace q648 := eq_true q648
         go_wp2
         go_roundg k1
         case measure => have := HK1.out; omega
         case rel => exact ⟨(wrap64 (x22_1 + 1)), (by first | rfl | (simp; done) | (simp [*]; done)), H', ⟨by have := HK1.out; omega⟩, ⟨by exact Rz HO_7⟩, ⟨by exact Bz BK642⟩, ⟨by exact Lz1 HB GE642⟩⟩
        rw [if_neg c13] at H
        exact absurd H (by simp)
       rw [if_neg c12] at H
       exact absurd H (by simp)
      rw [if_neg c11] at H
      exact absurd H (by simp)
     rw [if_neg c10] at H
     exact absurd H (by simp)
    rw [if_neg c9] at H
    have c9b0 : decide (x22_1 < (l2.length : Int)) = false := decide_eq_false c9
    clear c9
    obtain rfl := Option.some.inj H
    go_wp2
    go_ret
    exact ⟨by first | rfl | (simp [errW_none, errW_some] <;> rfl) | (simp [*, errW_none, errW_some] <;> rfl), by exact Lz1 HB GE642⟩
 replace c5 := Bool.eq_false_iff.mpr c5
 subst c5
 have H1 : (some false) = some r := by rw [if_neg (show ¬ (false = true) by decide)] at H; exact H
 clear H
 have H := H1
 clear H1
 obtain rfl := Option.some.inj H
 go_enter Try.func39, Try.ntmps39
 go_wp2_with (first | ((with_reducible refine gate_dst (N := 3) rfl ?_); refine box_event ?hg (N := 3) ?hd (cs := #[.int .i64 a0_0, .slice A0_1 l0_1.length c0_1]) (t := 37) ?hr ?_; (case hd => rfl); (case hg => rfl); (case hr => first | (go_simp; done) | (go_simp; rfl)); intro gb642 hg w17 hbox hb; have BK642 := Aside0.mk (hbox); have GW642 := Aside0.mk ((by rw [hg]; exact (below_size (Lz HB)) : w.heap.size ≤ gb642)); have GE642 := Aside0.mk ((by rw [hg]; exact (below_size (Lz HB)) : w.heap.size ≤ gb642)); replace HB := Aside0.mk (below_step (Lz HB) hb); clear hb hbox hg; have hcz18_0 : w17.cell? ⟨gb642, 0, none⟩ = some (.int .i64 a0_0) := (blk_cell BK642.out 0).trans rfl; have hcz18_1 : w17.cell? ⟨gb642, 1, none⟩ = some (.slice A0_1 l0_1.length c0_1) := (blk_cell BK642.out 1).trans rfl; have hfz18_0 := blk_frozen BK642.out 0; have hfz18_1 := blk_frozen BK642.out 1) | ((with_reducible refine gate_callee (f := 41) rfl ?_); refine goesM_ (some 15) rfl rfl Try.func41 (by kernel_rfl) rfl #[.agg #[.int .i64 a0_0, .slice A0_1 l0_1.length c0_1], .slice A1 l1.length c1, .slice A2 l2.length c2] rfl ?_; (with_reducible refine (impl_FireSet.calls k a0_0 _ _ l0_1 _ _ l1 _ _ l2 t643 false _ ?side1 ?side2 ?side3 ?side4 ?side5 ?side6 A4.out).mono ?_); (case side1 => exact Cz ((Kd.C_below HR0_1.out HB.out))); (case side2 => exact HC0_1.out); (case side3 => exact Cz ((Kd.C_below HR1.out HB.out))); (case side4 => exact HC1.out); (case side5 => exact Cz ((Kd.C_below HR2.out HB.out))); (case side6 => exact HC2.out); rintro e w19 ⟨v644, rfl, ho0, hb⟩; refine ⟨_, rfl, ?_⟩; have HO645 := Aside0.mk (Kd.R_lower ho0 (below_size (by exact Lz1 HB GE642))); replace BK642 := Aside0.mk (blk_below (g := gb642) (o := .cells #[.int .i64 a0_0, .slice A0_1 l0_1.length c0_1] 37 (0, 0)) (Bz BK642) hb); replace HB := Aside0.mk (below_step (by exact Lz1 HB GE642) hb); (try clear hb); (try clear ho0)))
 go_ret
 exact ⟨by first | rfl | (simp [errW_none, errW_some] <;> rfl) | (simp [*, errW_none, errW_some] <;> rfl), by exact Lz1 HB GE642⟩

/-! ### laws_FnExactIsLegalSet: function 8 -/
mutual
def laws_FnExactIsLegalSet.j0 : Nat → List Int → List Int → Int → List (S86) → Option (Bool)
 | 0, _, _, _, _ => none
 | k + 1, x1, x2, x650000, x650001 => if (x2.length : Int) > 1048576 then (some true) else (laws_FnExactIsLegalSet.j1 k x1 x2 x650000 x650001)
def laws_FnExactIsLegalSet.j1 : Nat → List Int → List Int → Int → List (S86) → Option (Bool)
 | 0, _, _, _, _ => none
 | k + 1, x1, x2, x650000, x650001 => (laws_szGraph.f x650000 x650001 1048576).bind fun t650 => (if t650 < 0 then (some true) else (laws_FnExactIsLegalSet.j2 k x1 x2 x650000 x650001))
def laws_FnExactIsLegalSet.j2 : Nat → List Int → List Int → Int → List (S86) → Option (Bool)
 | 0, _, _, _, _ => none
 | k + 1, x1, x2, x650000, x650001 => (laws_toGraph.f k x650000 x650001).bind fun bt651 => ((laws_toIntS.f k x1).bind fun t655 => ((laws_toIntS.f k x2).bind fun t658 => ((spec_IsLegalSet.f k bt651.1 bt651.2 t655 t658).bind fun t661 => ((laws_toGraph.f k x650000 x650001).bind fun bt662 => ((laws_toIntS.f k x1).bind fun t667 => ((laws_toIntS.f k x2).bind fun t670 => ((impl_IsLegalSet.f k bt662.1 bt662.2 t667 t670).bind fun t673 => (if (t673 != t661) = true then (some false) else (laws_FnExactIsLegalSet.j3 k x1 x2 t667 t670 x650000 x650001 bt662.1 bt662.2)))))))))
def laws_FnExactIsLegalSet.j3 : Nat → List Int → List Int → List Int → List Int → Int → List (S86) → Int → List (S68) → Option (Bool)
 | 0, _, _, _, _, _, _, _, _ => none
 | k + 1, x1, x2, x10, x11, x650000, x650001, x667000, x667001 => (laws_toGraph.f k x650000 x650001).bind fun bt674 => ((laws_eqGraph.f k x667000 x667001 bt674.1 bt674.2).bind fun t678 => (if t678 = true then (laws_FnExactIsLegalSet.j4 k x1 x2 x10 x11) else (some false)))
def laws_FnExactIsLegalSet.j4 : Nat → List Int → List Int → List Int → List Int → Option (Bool)
 | 0, _, _, _, _ => none
 | k + 1, x1, x2, x10, x11 => (laws_toIntS.f k x1).bind fun t679 => ((laws_eqIntS.f k x10 t679).bind fun t682 => (if t682 = true then (laws_FnExactIsLegalSet.j5 k x2 x11) else (some false)))
def laws_FnExactIsLegalSet.j5 : Nat → List Int → List Int → Option (Bool)
 | 0, _, _ => none
 | k + 1, x2, x11 => (laws_toIntS.f k x2).bind fun t683 => ((laws_eqIntS.f k x11 t683).bind fun t686 => (if t686 = true then (some true) else (some false)))
end
def laws_FnExactIsLegalSet.f (k : Nat) (a0_0 : Int) (l0_1 : List (S86)) (l1 : List Int) (l2 : List Int) : Option (Bool) := if (l1.length : Int) > 1048576 then (some true) else (laws_FnExactIsLegalSet.j0 k l1 l2 a0_0 l0_1)
set_option maxHeartbeats 8000000 in
set_option maxRecDepth 100000 in
theorem laws_FnExactIsLegalSet.calls (k : Nat) (a0_0 : Int) (A0_1 : Option Addr) (c0_1 : Nat) (l0_1 : List (S86)) (A1 : Option Addr) (c1 : Nat) (l1 : List Int) (A2 : Option Addr) (c2 : Nat) (l2 : List Int) (r : Bool) (w : World) (hr0_1 : Kd.C k86 w A0_1 l0_1.length l0_1) (hc0_1 : l0_1.length ≤ c0_1) (hr1 : Kd.C (Kd.int .i64) w A1 l1.length l1) (hc1 : l1.length ≤ c1) (hr2 : Kd.C (Kd.int .i64) w A2 l2.length l2) (hc2 : l2.length ≤ c2) (h : laws_FnExactIsLegalSet.f k a0_0 l0_1 l1 l2 = some r) :
  Calls Try.prog 8 #[.agg #[.int .i64 a0_0, .slice A0_1 l0_1.length c0_1], .slice A1 l1.length c1, .slice A2 l2.length c2] w fun e w' => e = .returned (.bool r) ∧ Below w.heap.size w w' := by
 have hu33 := Try.underlying33
 have hu37 := Try.underlying37
 have HR0_1 := Aside0.mk hr0_1
 have HC0_1 := Aside0.mk hc0_1
 clear hr0_1 hc0_1
 have HR1 := Aside0.mk hr1
 have HC1 := Aside0.mk hc1
 clear hr1 hc1
 have HR2 := Aside0.mk hr2
 have HC2 := Aside0.mk hc2
 clear hr2 hc2
 have HB := Aside0.mk (Below.refl w.heap.size w)
 have H : (if (l1.length : Int) > 1048576 then (some true) else (laws_FnExactIsLegalSet.j0 k l1 l2 a0_0 l0_1)) = some r := h
 clear h
 have HC4 := Aside0.mk H
 clear H
 go_enter Try.func8, Try.ntmps8
 go_upto_if 15 with (first | ((with_reducible refine gate_dst (N := 3) rfl ?_); refine box_event ?hg (N := 3) ?hd (cs := #[.int .i64 a0_0, .slice A0_1 l0_1.length c0_1]) (t := 33) ?hr ?_; (case hd => rfl); (case hg => rfl); (case hr => first | (go_simp; done) | (go_simp; rfl)); intro gb649 hg w5 hbox hb; have BK649 := Aside0.mk (hbox); have GW649 := Aside0.mk ((by rw [hg]; exact (below_size (Lz HB)) : w.heap.size ≤ gb649)); have GE649 := Aside0.mk ((by rw [hg]; exact (below_size (Lz HB)) : w.heap.size ≤ gb649)); replace HB := Aside0.mk (below_step (Lz HB) hb); clear hb hbox hg))
 (try simp only [Act.put, List.setIfInBounds_toArray, List.set_cons_zero, List.set_cons_succ])
 go_cut [] (fun wc => ∃ (kq : Nat), Aside0 (laws_FnExactIsLegalSet.j0 kq l1 l2 a0_0 l0_1 = some r) ∧ Aside0 (kq ≤ k) ∧ Aside0 (wc.heap[gb649]? = some (.cells #[.int .i64 a0_0, (.slice A0_1 l0_1.length c0_1)] 33 (0, 0))) ∧ Aside0 (Below w.heap.size w wc))
 case first =>
  have H := HC4.out
  clear HC4
  by_cases c6 : (l1.length : Int) > 1048576
  ·rw [if_pos c6] at H
   have c6b0 : decide (1048576 < (l1.length : Int)) = true := decide_eq_true c6
   have c6b1 : decide (1048576 < l1.length) = true := decide_eq_true (by omega)
   clear c6
   (first | rw [c6b0] | (simp only [i64_w, i32_w]; rw [c6b0]) | skip)
   obtain rfl := Option.some.inj H
   go_wp2
   go_ret
   exact ⟨by first | rfl | (simp [errW_none, errW_some] <;> rfl) | (simp [*, errW_none, errW_some] <;> rfl), by exact Lz1 HB GE649⟩
  rw [if_neg c6] at H
  have c6b0 : decide (1048576 < (l1.length : Int)) = false := decide_eq_false c6
  have c6b1 : decide (1048576 < l1.length) = false := decide_eq_false (by omega)
  clear c6
  (first | rw [c6b0] | (simp only [i64_w, i32_w]; rw [c6b0]) | skip)
  have H' := Aside0.mk H
  clear H
  go_wp2
  go_meet
  case rel => exact ⟨_, H', ⟨by first | omega | exact Nat.le_refl _⟩, ⟨by exact Bz BK649⟩, ⟨by exact Lz1 HB GE649⟩⟩
 case rest =>
  clear HC4
  try clear c1
  try clear c2
  try clear c6
  try clear c6b0
  try clear c6b1
  obtain ⟨kq, HA, HJ3, BK649, HB⟩ := hcut
  cases kq with
  | zero => exact absurd HA.out (by simp [laws_FnExactIsLegalSet.j0])
  | succ kj3 =>
   have H := HA.out
   clear HA
   simp only [laws_FnExactIsLegalSet.j0] at H
   have HC7 := Aside0.mk H
   clear H
   go_upto_if 18 with (fail)
   go_cut [] (fun wc => ∃ (kq : Nat), Aside0 (laws_FnExactIsLegalSet.j1 kq l1 l2 a0_0 l0_1 = some r) ∧ Aside0 (kq ≤ kj3) ∧ Aside0 (wc.heap[gb649]? = some (.cells #[.int .i64 a0_0, (.slice A0_1 l0_1.length c0_1)] 33 (0, 0))) ∧ Aside0 (Below w.heap.size w wc))
   case first =>
    have H := HC7.out
    clear HC7
    by_cases c8 : (l2.length : Int) > 1048576
    ·rw [if_pos c8] at H
     have c8b0 : decide (1048576 < (l2.length : Int)) = true := decide_eq_true c8
     have c8b1 : decide (1048576 < l2.length) = true := decide_eq_true (by omega)
     clear c8
     (first | rw [c8b0] | (simp only [i64_w, i32_w]; rw [c8b0]) | skip)
     obtain rfl := Option.some.inj H
     go_wp2
     go_ret
     exact ⟨by first | rfl | (simp [errW_none, errW_some] <;> rfl) | (simp [*, errW_none, errW_some] <;> rfl), by exact Lz1 HB GE649⟩
    rw [if_neg c8] at H
    have c8b0 : decide (1048576 < (l2.length : Int)) = false := decide_eq_false c8
    have c8b1 : decide (1048576 < l2.length) = false := decide_eq_false (by omega)
    clear c8
    (first | rw [c8b0] | (simp only [i64_w, i32_w]; rw [c8b0]) | skip)
    have H' := Aside0.mk H
    clear H
    go_wp2
    go_meet
    case rel => exact ⟨_, H', ⟨by have := HJ3.out; first | omega | exact Nat.le_refl _⟩, ⟨by exact Bz BK649⟩, ⟨by exact Lz1 HB GE649⟩⟩
   case rest =>
    clear HC7
    try clear c1
    try clear c2
    try clear c6
    try clear c6b0
    try clear c6b1
    try clear c8
    try clear c8b0
    try clear c8b1
    obtain ⟨kq, HA, HJ6, BK649, HB⟩ := hcut
    cases kq with
    | zero => exact absurd HA.out (by simp [laws_FnExactIsLegalSet.j1])
    | succ kj6 =>
     have H := HA.out
     clear HA
     simp only [laws_FnExactIsLegalSet.j1] at H
     replace H := Option.bind_eq_some_iff.mp H
     obtain ⟨t650, A90, H⟩ := H
     replace H : (if t650 < 0 then (some true) else (laws_FnExactIsLegalSet.j2 kj6 l1 l2 a0_0 l0_1)) = some r := H
     have A9 := Aside0.mk A90
     clear A90
     have HC10 := Aside0.mk H
     clear H
     have hcz11_0 : wc.cell? ⟨gb649, 0, none⟩ = some (.int .i64 a0_0) := (blk_cell BK649.out 0).trans rfl
     have hcz11_1 : wc.cell? ⟨gb649, 1, none⟩ = some (.slice A0_1 l0_1.length c0_1) := (blk_cell BK649.out 1).trans rfl
     have hfz11_0 := blk_frozen BK649.out 0
     have hfz11_1 := blk_frozen BK649.out 1
     go_upto_if 23 with (first | ((with_reducible refine gate_callee (f := 24) rfl ?_); refine goesM_ (some 21) rfl rfl Try.func24 (by kernel_rfl) rfl #[.agg #[.int .i64 a0_0, .slice A0_1 l0_1.length c0_1], .int .i64 1048576] rfl ?_; (with_reducible refine (laws_szGraph.calls a0_0 _ _ l0_1 1048576 t650 _ ?side1 ?side2 A9.out).mono ?_); (case side1 => exact Cz ((Kd.C_below HR0_1.out HB.out))); (case side2 => exact HC0_1.out); rintro e w12 ⟨rfl, hb⟩; refine ⟨_, rfl, ?_⟩; replace BK649 := Aside0.mk (blk_below (g := gb649) (o := .cells #[.int .i64 a0_0, .slice A0_1 l0_1.length c0_1] 33 (0, 0)) (Bz BK649) hb); replace HB := Aside0.mk (below_step (by exact Lz1 HB GE649) hb); (try clear hb); (try clear hb2); (try clear hk); (try clear hi)))
     (try simp only [Act.put, List.setIfInBounds_toArray, List.set_cons_zero, List.set_cons_succ])
     go_cut [] (fun wc => ∃ (kq : Nat), Aside0 (laws_FnExactIsLegalSet.j2 kq l1 l2 a0_0 l0_1 = some r) ∧ Aside0 (kq ≤ kj6) ∧ Aside0 (wc.heap[gb649]? = some (.cells #[.int .i64 a0_0, (.slice A0_1 l0_1.length c0_1)] 33 (0, 0))) ∧ Aside0 (Below w.heap.size w wc))
     case first =>
      have H := HC10.out
      clear HC10
      by_cases c13 : t650 < 0
      ·rw [if_pos c13] at H
       have c13b0 : decide (t650 < 0) = true := decide_eq_true c13
       clear c13
       (first | rw [c13b0] | (simp only [i64_w, i32_w]; rw [c13b0]) | skip)
       obtain rfl := Option.some.inj H
       go_wp2
       go_ret
       exact ⟨by first | rfl | (simp [errW_none, errW_some] <;> rfl) | (simp [*, errW_none, errW_some] <;> rfl), by exact Lz1 HB GE649⟩
      rw [if_neg c13] at H
      have c13b0 : decide (t650 < 0) = false := decide_eq_false c13
      clear c13
      (first | rw [c13b0] | (simp only [i64_w, i32_w]; rw [c13b0]) | skip)
      have H' := Aside0.mk H
      clear H
      go_wp2
      go_meet
      case rel => exact ⟨_, H', ⟨by have := HJ3.out; have := HJ6.out; first | omega | exact Nat.le_refl _⟩, ⟨by exact Bz BK649⟩, ⟨by exact Lz1 HB GE649⟩⟩
     case rest =>
      clear HC10
      try clear c1
      try clear c2
      try clear c6
      try clear c6b0
      try clear c6b1
      try clear c8
      try clear c8b0
      try clear c8b1
      try clear c13
      try clear c13b0
      obtain ⟨kq, HA, HJ9, BK649, HB⟩ := hcut
      cases kq with
      | zero => exact absurd HA.out (by simp [laws_FnExactIsLegalSet.j2])
      | succ kj9 =>
       have H := HA.out
       clear HA
       simp only [laws_FnExactIsLegalSet.j2] at H
       replace H := Option.bind_eq_some_iff.mp H
       obtain ⟨⟨t651, t652⟩, A140, H⟩ := H
       replace H : ((laws_toIntS.f kj9 l1).bind fun t655 => ((laws_toIntS.f kj9 l2).bind fun t658 => ((spec_IsLegalSet.f kj9 t651 t652 t655 t658).bind fun t661 => ((laws_toGraph.f kj9 a0_0 l0_1).bind fun bt662 => ((laws_toIntS.f kj9 l1).bind fun t667 => ((laws_toIntS.f kj9 l2).bind fun t670 => ((impl_IsLegalSet.f kj9 bt662.1 bt662.2 t667 t670).bind fun t673 => (if (t673 != t661) = true then (some false) else (laws_FnExactIsLegalSet.j3 kj9 l1 l2 t667 t670 a0_0 l0_1 bt662.1 bt662.2))))))))) = some r := H
       have A14 := Aside0.mk A140
       clear A140
       replace H := Option.bind_eq_some_iff.mp H
       obtain ⟨t655, A150, H⟩ := H
       replace H : ((laws_toIntS.f kj9 l2).bind fun t658 => ((spec_IsLegalSet.f kj9 t651 t652 t655 t658).bind fun t661 => ((laws_toGraph.f kj9 a0_0 l0_1).bind fun bt662 => ((laws_toIntS.f kj9 l1).bind fun t667 => ((laws_toIntS.f kj9 l2).bind fun t670 => ((impl_IsLegalSet.f kj9 bt662.1 bt662.2 t667 t670).bind fun t673 => (if (t673 != t661) = true then (some false) else (laws_FnExactIsLegalSet.j3 kj9 l1 l2 t667 t670 a0_0 l0_1 bt662.1 bt662.2)))))))) = some r := H
       have A15 := Aside0.mk A150
       clear A150
       replace H := Option.bind_eq_some_iff.mp H
       obtain ⟨t658, A160, H⟩ := H
       replace H : ((spec_IsLegalSet.f kj9 t651 t652 t655 t658).bind fun t661 => ((laws_toGraph.f kj9 a0_0 l0_1).bind fun bt662 => ((laws_toIntS.f kj9 l1).bind fun t667 => ((laws_toIntS.f kj9 l2).bind fun t670 => ((impl_IsLegalSet.f kj9 bt662.1 bt662.2 t667 t670).bind fun t673 => (if (t673 != t661) = true then (some false) else (laws_FnExactIsLegalSet.j3 kj9 l1 l2 t667 t670 a0_0 l0_1 bt662.1 bt662.2))))))) = some r := H
       have A16 := Aside0.mk A160
       clear A160
       replace H := Option.bind_eq_some_iff.mp H
       obtain ⟨t661, A170, H⟩ := H
       replace H : ((laws_toGraph.f kj9 a0_0 l0_1).bind fun bt662 => ((laws_toIntS.f kj9 l1).bind fun t667 => ((laws_toIntS.f kj9 l2).bind fun t670 => ((impl_IsLegalSet.f kj9 bt662.1 bt662.2 t667 t670).bind fun t673 => (if (t673 != t661) = true then (some false) else (laws_FnExactIsLegalSet.j3 kj9 l1 l2 t667 t670 a0_0 l0_1 bt662.1 bt662.2)))))) = some r := H
       have A17 := Aside0.mk A170
       clear A170
       replace H := Option.bind_eq_some_iff.mp H
       obtain ⟨⟨t662, t663⟩, A180, H⟩ := H
       replace H : ((laws_toIntS.f kj9 l1).bind fun t667 => ((laws_toIntS.f kj9 l2).bind fun t670 => ((impl_IsLegalSet.f kj9 t662 t663 t667 t670).bind fun t673 => (if (t673 != t661) = true then (some false) else (laws_FnExactIsLegalSet.j3 kj9 l1 l2 t667 t670 a0_0 l0_1 t662 t663))))) = some r := H
       have A18 := Aside0.mk A180
       clear A180
       replace H := Option.bind_eq_some_iff.mp H
       obtain ⟨t667, A190, H⟩ := H
       replace H : ((laws_toIntS.f kj9 l2).bind fun t670 => ((impl_IsLegalSet.f kj9 t662 t663 t667 t670).bind fun t673 => (if (t673 != t661) = true then (some false) else (laws_FnExactIsLegalSet.j3 kj9 l1 l2 t667 t670 a0_0 l0_1 t662 t663)))) = some r := H
       have A19 := Aside0.mk A190
       clear A190
       replace H := Option.bind_eq_some_iff.mp H
       obtain ⟨t670, A200, H⟩ := H
       replace H : ((impl_IsLegalSet.f kj9 t662 t663 t667 t670).bind fun t673 => (if (t673 != t661) = true then (some false) else (laws_FnExactIsLegalSet.j3 kj9 l1 l2 t667 t670 a0_0 l0_1 t662 t663))) = some r := H
       have A20 := Aside0.mk A200
       clear A200
       replace H := Option.bind_eq_some_iff.mp H
       obtain ⟨t673, A210, H⟩ := H
       replace H : (if (t673 != t661) = true then (some false) else (laws_FnExactIsLegalSet.j3 kj9 l1 l2 t667 t670 a0_0 l0_1 t662 t663)) = some r := H
       have A21 := Aside0.mk A210
       clear A210
       have HC22 := Aside0.mk H
       clear H
       have hcz23_0 : wc.cell? ⟨gb649, 0, none⟩ = some (.int .i64 a0_0) := (blk_cell BK649.out 0).trans rfl
       have hcz23_1 : wc.cell? ⟨gb649, 1, none⟩ = some (.slice A0_1 l0_1.length c0_1) := (blk_cell BK649.out 1).trans rfl
       have hfz23_0 := blk_frozen BK649.out 0
       have hfz23_1 := blk_frozen BK649.out 1
       go_upto_if 43 with (first | ((with_reducible refine gate_callee (f := 26) rfl ?_); refine goesM_ (some 25) rfl rfl Try.func26 (by kernel_rfl) rfl #[.agg #[.int .i64 a0_0, .slice A0_1 l0_1.length c0_1]] rfl ?_; (with_reducible refine (laws_toGraph.calls kj9 a0_0 _ _ l0_1 t651 t652 _ ?side1 ?side2 A14.out).mono ?_); (case side1 => exact Cz ((Kd.C_below HR0_1.out HB.out))); (case side2 => exact HC0_1.out); rintro e w24 ⟨v653, rfl, ho0, hb⟩; refine ⟨_, rfl, ?_⟩; have HO654 := Aside0.mk (Kd.R_lower ho0 (below_size (by exact Lz1 HB GE649))); replace BK649 := Aside0.mk (blk_below (g := gb649) (o := .cells #[.int .i64 a0_0, .slice A0_1 l0_1.length c0_1] 33 (0, 0)) (Bz BK649) hb); replace HB := Aside0.mk (below_step (by exact Lz1 HB GE649) hb); (try clear hb); (try clear ho0)) | ((with_reducible refine gate_callee (f := 36) rfl ?_); refine goesM_ (some 27) rfl rfl Try.func36 (by kernel_rfl) rfl #[.slice A1 l1.length c1] rfl ?_; (with_reducible refine (laws_toIntS.calls kj9 _ _ l1 t655 _ ?side1 ?side2 A15.out).mono ?_); (case side1 => exact Cz ((Kd.C_below HR1.out HB.out))); (case side2 => exact HC1.out); rintro e w25 ⟨v656, rfl, ho0, hb⟩; refine ⟨_, rfl, ?_⟩; replace HO654 := Aside0.mk (Kd.R_below (Rz HO654) hb); have HO657 := Aside0.mk (Kd.R_lower ho0 (below_size (by exact Lz1 HB GE649))); replace BK649 := Aside0.mk (blk_below (g := gb649) (o := .cells #[.int .i64 a0_0, .slice A0_1 l0_1.length c0_1] 33 (0, 0)) (Bz BK649) hb); replace HB := Aside0.mk (below_step (by exact Lz1 HB GE649) hb); (try clear hb); (try clear ho0)) | ((with_reducible refine gate_callee (f := 36) rfl ?_); refine goesM_ (some 29) rfl rfl Try.func36 (by kernel_rfl) rfl #[.slice A2 l2.length c2] rfl ?_; (with_reducible refine (laws_toIntS.calls kj9 _ _ l2 t658 _ ?side1 ?side2 A16.out).mono ?_); (case side1 => exact Cz ((Kd.C_below HR2.out HB.out))); (case side2 => exact HC2.out); rintro e w26 ⟨v659, rfl, ho0, hb⟩; refine ⟨_, rfl, ?_⟩; replace HO654 := Aside0.mk (Kd.R_below (Rz HO654) hb); have HO660 := Aside0.mk (Kd.R_lower (Kd.R_new' ho0 (Kd.R_lt (Rz HO657))) (below_size (by exact Lz1 HB GE649))); replace HO657 := Aside0.mk (Kd.R_elder' (Rz HO657) (Kd.R_base ho0) hb); replace BK649 := Aside0.mk (blk_below (g := gb649) (o := .cells #[.int .i64 a0_0, .slice A0_1 l0_1.length c0_1] 33 (0, 0)) (Bz BK649) hb); replace HB := Aside0.mk (below_step (by exact Lz1 HB GE649) hb); (try clear hb); (try clear ho0); obtain ⟨Ao27, co27, eo27⟩ := Kd.R_slice HO654.out; subst eo27; obtain ⟨Ao28, co28, eo28⟩ := Kd.R_slice HO657.out; subst eo28; obtain ⟨Ao29, co29, eo29⟩ := Kd.R_slice HO660.out; subst eo29) | ((with_reducible refine gate_callee (f := 38) rfl ?_); refine goesM_ (some 30) rfl rfl Try.func38 (by kernel_rfl) rfl #[.agg #[.int .i64 t651, .slice Ao27 t652.length co27], .slice Ao28 t655.length co28, .slice Ao29 t658.length co29] rfl ?_; (with_reducible refine (spec_IsLegalSet.calls kj9 t651 _ _ t652 _ _ t655 _ _ t658 t661 _ ?side1 ?side2 ?side3 ?side4 ?side5 ?side6 A17.out).mono ?_); (case side1 => exact Cz ((Kd.R_reads' HO654.out).2.2)); (case side2 => exact (Kd.R_reads' HO654.out).2.1); (case side3 => exact Cz ((Kd.R_reads' HO657.out).2.2)); (case side4 => exact (Kd.R_reads' HO657.out).2.1); (case side5 => exact Cz ((Kd.R_reads' HO660.out).2.2)); (case side6 => exact (Kd.R_reads' HO660.out).2.1); rintro e w30 ⟨rfl, hb⟩; refine ⟨_, rfl, ?_⟩; replace HO654 := Aside0.mk (Kd.R_below (Rz HO654) hb); replace HO657 := Aside0.mk (Kd.R_below (Rz HO657) hb); replace HO660 := Aside0.mk (Kd.R_below (Rz HO660) hb); replace BK649 := Aside0.mk (blk_below (g := gb649) (o := .cells #[.int .i64 a0_0, .slice A0_1 l0_1.length c0_1] 33 (0, 0)) (Bz BK649) hb); replace HB := Aside0.mk (below_step (by exact Lz1 HB GE649) hb); (try clear hb); (try clear hb2); (try clear hk); (try clear hi); have hcz31_0 : w30.cell? ⟨gb649, 0, none⟩ = some (.int .i64 a0_0) := (blk_cell BK649.out 0).trans rfl; have hcz31_1 : w30.cell? ⟨gb649, 1, none⟩ = some (.slice A0_1 l0_1.length c0_1) := (blk_cell BK649.out 1).trans rfl; have hfz31_0 := blk_frozen BK649.out 0; have hfz31_1 := blk_frozen BK649.out 1) | ((with_reducible refine gate_callee (f := 26) rfl ?_); refine goesM_ (some 32) rfl rfl Try.func26 (by kernel_rfl) rfl #[.agg #[.int .i64 a0_0, .slice A0_1 l0_1.length c0_1]] rfl ?_; (with_reducible refine (laws_toGraph.calls kj9 a0_0 _ _ l0_1 t662 t663 _ ?side1 ?side2 A18.out).mono ?_); (case side1 => exact Cz ((Kd.C_below HR0_1.out HB.out))); (case side2 => exact HC0_1.out); rintro e w32 ⟨v664, rfl, ho0, hb⟩; refine ⟨_, rfl, ?_⟩; replace HO657 := Aside0.mk (Kd.R_below (Rz HO657) hb); replace HO660 := Aside0.mk (Kd.R_below (Rz HO660) hb); have HO665 := Aside0.mk (Kd.R_lower (Kd.R_new' ho0 (Kd.R_lt (Rz HO654))) (below_size (by exact Lz1 HB GE649))); replace HO654 := Aside0.mk (Kd.R_elder' (Rz HO654) (Kd.R_base ho0) hb); replace BK649 := Aside0.mk (blk_below (g := gb649) (o := .cells #[.int .i64 a0_0, .slice A0_1 l0_1.length c0_1] 33 (0, 0)) (Bz BK649) hb); replace HB := Aside0.mk (below_step (by exact Lz1 HB GE649) hb); (try clear hb); (try clear ho0)) | ((with_reducible refine gate_dst (N := 9) rfl ?_); refine box_event ?hg (N := 9) ?hd (cs := #[.int .i64 0, .slice none 0 0]) (t := 37) ?hr ?_; (case hd => rfl); (case hg => rfl); (case hr => first | (go_simp; done) | (go_simp; rfl)); intro gb666 hg w33 hbox hb; replace HO654 := Aside0.mk (Kd.R_below (Rz HO654) hb); replace HO657 := Aside0.mk (Kd.R_below (Rz HO657) hb); replace HO660 := Aside0.mk (Kd.R_below (Rz HO660) hb); replace HO665 := Aside0.mk (Kd.R_below (Rz HO665) hb); have BK666 := Aside0.mk (hbox); have GW666 := Aside0.mk ((by rw [hg]; exact (below_size (by exact Lz1 HB GE649)) : w.heap.size ≤ gb666)); have GE666 := Aside0.mk ((by rw [hg]; exact (below_size (by exact Lz1 HB GE649)) : w.heap.size ≤ gb666)); replace HB := Aside0.mk (below_step (by exact Lz1 HB GE649) hb); have NB649_666 := Aside0.mk ((by rw [hg]; exact Nat.ne_of_lt (blk_lt (g := gb649) (o := .cells #[.int .i64 a0_0, .slice A0_1 l0_1.length c0_1] 33 (0, 0)) (Bz BK649)) : gb649 ≠ gb666)); have NB666_649 := Aside0.mk ((by rw [hg]; exact Nat.ne_of_gt (blk_lt (g := gb649) (o := .cells #[.int .i64 a0_0, .slice A0_1 l0_1.length c0_1] 33 (0, 0)) (Bz BK649)) : gb666 ≠ gb649)); replace BK649 := Aside0.mk (blk_below (g := gb649) (o := .cells #[.int .i64 a0_0, .slice A0_1 l0_1.length c0_1] 33 (0, 0)) (Bz BK649) hb); clear hb hbox hg; have hnb34 := NB666_649.out; have hnc34 := NB649_666.out; have hcz35_0 : w33.cell? ⟨gb666, 0, none⟩ = some (.int .i64 0) := (blk_cell BK666.out 0).trans rfl; have hcz35_1 : w33.cell? ⟨gb666, 1, none⟩ = some (.slice none 0 0) := (blk_cell BK666.out 1).trans rfl; have hfz35_0 := blk_frozen BK666.out 0; have hfz35_1 := blk_frozen BK666.out 1; obtain ⟨Ao36, co36, eo36⟩ := Kd.R_slice HO665.out; subst eo36) | ((with_reducible refine gate_callee (f := 36) rfl ?_); refine goesM_ (some 34) rfl rfl Try.func36 (by kernel_rfl) rfl #[.slice A1 l1.length c1] rfl ?_; (with_reducible refine (laws_toIntS.calls kj9 _ _ l1 t667 _ ?side1 ?side2 A19.out).mono ?_); (case side1 => exact Kd.C_below HR1.out (by exact Lz2 HB GE649 GE666)); (case side2 => exact HC1.out); rintro e w37 ⟨v668, rfl, ho0, hb⟩; refine ⟨_, rfl, ?_⟩; replace HO654 := Aside0.mk (Kd.R_below (by (with_reducible repeat (first | apply Kd.R_alloc | apply Kd.R_drewN | apply Kd.R_drew)); exact (Kd.R_mono (Kd.R_far (p := ⟨gb666, 1, none⟩) (Kd.R_far (p := ⟨gb666, 0, none⟩) (Kd.R_types HO654.out BK666.out (by decide)) (fun _ hk => hk.2) (.int .i64 t662)) (fun _ hk => hk.2) (.slice Ao36 t663.length co36)) (fun _ h_ => h_.1))) hb); replace HO665 := Aside0.mk (Kd.R_below (by (with_reducible repeat (first | apply Kd.R_alloc | apply Kd.R_drewN | apply Kd.R_drew)); exact (Kd.R_mono (Kd.R_far (p := ⟨gb666, 1, none⟩) (Kd.R_far (p := ⟨gb666, 0, none⟩) (Kd.R_types HO665.out BK666.out (by decide)) (fun _ hk => hk.2) (.int .i64 t662)) (fun _ hk => hk.2) (.slice Ao36 t663.length co36)) (fun _ h_ => h_.1))) hb); have HO669 := Aside0.mk (Kd.R_lower (Kd.R_new' (Kd.R_new' ho0 (Kd.R_lt (by (with_reducible repeat (first | apply Kd.R_alloc | apply Kd.R_drewN | apply Kd.R_drew)); exact (Kd.R_mono (Kd.R_far (p := ⟨gb666, 1, none⟩) (Kd.R_far (p := ⟨gb666, 0, none⟩) (Kd.R_types HO657.out BK666.out (by decide)) (fun _ hk => hk.2) (.int .i64 t662)) (fun _ hk => hk.2) (.slice Ao36 t663.length co36)) (fun _ h_ => h_.1))))) (Kd.R_lt (by (with_reducible repeat (first | apply Kd.R_alloc | apply Kd.R_drewN | apply Kd.R_drew)); exact (Kd.R_mono (Kd.R_far (p := ⟨gb666, 1, none⟩) (Kd.R_far (p := ⟨gb666, 0, none⟩) (Kd.R_types HO660.out BK666.out (by decide)) (fun _ hk => hk.2) (.int .i64 t662)) (fun _ hk => hk.2) (.slice Ao36 t663.length co36)) (fun _ h_ => h_.1))))) (below_size (by exact Lz2 HB GE649 GE666))); replace HO657 := Aside0.mk (Kd.R_elder' (by (with_reducible repeat (first | apply Kd.R_alloc | apply Kd.R_drewN | apply Kd.R_drew)); exact (Kd.R_mono (Kd.R_far (p := ⟨gb666, 1, none⟩) (Kd.R_far (p := ⟨gb666, 0, none⟩) (Kd.R_types HO657.out BK666.out (by decide)) (fun _ hk => hk.2) (.int .i64 t662)) (fun _ hk => hk.2) (.slice Ao36 t663.length co36)) (fun _ h_ => h_.1))) (Kd.R_base ho0) hb); replace HO660 := Aside0.mk (Kd.R_elder' (by (with_reducible repeat (first | apply Kd.R_alloc | apply Kd.R_drewN | apply Kd.R_drew)); exact (Kd.R_mono (Kd.R_far (p := ⟨gb666, 1, none⟩) (Kd.R_far (p := ⟨gb666, 0, none⟩) (Kd.R_types HO660.out BK666.out (by decide)) (fun _ hk => hk.2) (.int .i64 t662)) (fun _ hk => hk.2) (.slice Ao36 t663.length co36)) (fun _ h_ => h_.1))) (Kd.R_base ho0) hb); replace BK649 := Aside0.mk (blk_below (g := gb649) (o := .cells #[.int .i64 a0_0, .slice A0_1 l0_1.length c0_1] 33 (0, 0)) (by (with_reducible repeat (first | refine blk_drewN ?_ _ | refine blk_drew ?_ | refine blk_alloc ?_ _)); refine blk_far ?_ NB649_666.out _; (with_reducible repeat (first | refine blk_drewN ?_ _ | refine blk_drew ?_ | refine blk_alloc ?_ _)); refine blk_far ?_ NB649_666.out _; exact Bz BK649) hb); replace BK666 := Aside0.mk (blk_below (g := gb666) (o := .cells #[.int .i64 t662, .slice Ao36 t663.length co36] 37 (0, 0)) (by (with_reducible repeat (first | refine blk_drewN ?_ _ | refine blk_drew ?_ | refine blk_alloc ?_ _)); refine blk_put (cs := #[.int .i64 t662, .slice none 0 0]) ?_ 1 _ rfl; (with_reducible repeat (first | refine blk_drewN ?_ _ | refine blk_drew ?_ | refine blk_alloc ?_ _)); refine blk_put (cs := #[.int .i64 0, .slice none 0 0]) ?_ 0 _ rfl; exact Bz BK666) hb); replace HB := Aside0.mk (below_step (by exact Lz2 HB GE649 GE666) hb); (try clear hb); (try clear ho0)) | ((with_reducible refine gate_callee (f := 36) rfl ?_); refine goesM_ (some 36) rfl rfl Try.func36 (by kernel_rfl) rfl #[.slice A2 l2.length c2] rfl ?_; (with_reducible refine (laws_toIntS.calls kj9 _ _ l2 t670 _ ?side1 ?side2 A20.out).mono ?_); (case side1 => exact Cz ((Kd.C_below HR2.out HB.out))); (case side2 => exact HC2.out); rintro e w38 ⟨v671, rfl, ho0, hb⟩; refine ⟨_, rfl, ?_⟩; replace HO654 := Aside0.mk (Kd.R_below (Rz HO654) hb); replace HO665 := Aside0.mk (Kd.R_below (Rz HO665) hb); have HO672 := Aside0.mk (Kd.R_lower (Kd.R_new' (Kd.R_new' (Kd.R_new' ho0 (Kd.R_lt (Rz HO657))) (Kd.R_lt (Rz HO660))) (Kd.R_lt (Rz HO669))) (below_size (by exact Lz2 HB GE649 GE666))); replace HO657 := Aside0.mk (Kd.R_elder' (Rz HO657) (Kd.R_base ho0) hb); replace HO660 := Aside0.mk (Kd.R_elder' (Rz HO660) (Kd.R_base ho0) hb); replace HO669 := Aside0.mk (Kd.R_elder' (Rz HO669) (Kd.R_base ho0) hb); replace BK649 := Aside0.mk (blk_below (g := gb649) (o := .cells #[.int .i64 a0_0, .slice A0_1 l0_1.length c0_1] 33 (0, 0)) (Bz BK649) hb); replace BK666 := Aside0.mk (blk_below (g := gb666) (o := .cells #[.int .i64 t662, .slice Ao36 t663.length co36] 37 (0, 0)) (Bz BK666) hb); replace HB := Aside0.mk (below_step (by exact Lz2 HB GE649 GE666) hb); (try clear hb); (try clear ho0); have hcz39_0 : w38.cell? ⟨gb666, 0, none⟩ = some (.int .i64 t662) := (blk_cell BK666.out 0).trans rfl; have hcz39_1 : w38.cell? ⟨gb666, 1, none⟩ = some (.slice Ao36 t663.length co36) := (blk_cell BK666.out 1).trans rfl; have hfz39_0 := blk_frozen BK666.out 0; have hfz39_1 := blk_frozen BK666.out 1; obtain ⟨Ao40, co40, eo40⟩ := Kd.R_slice HO669.out; subst eo40; obtain ⟨Ao41, co41, eo41⟩ := Kd.R_slice HO672.out; subst eo41) | ((with_reducible refine gate_callee (f := 39) rfl ?_); refine goesM_ (some 40) rfl rfl Try.func39 (by kernel_rfl) rfl #[.agg #[.int .i64 t662, .slice Ao36 t663.length co36], .slice Ao40 t667.length co40, .slice Ao41 t670.length co41] rfl ?_; (with_reducible refine (impl_IsLegalSet.calls kj9 t662 _ _ t663 _ _ t667 _ _ t670 t673 _ ?side1 ?side2 ?side3 ?side4 ?side5 ?side6 A21.out).mono ?_); (case side1 => exact Cz ((Kd.R_reads' HO665.out).2.2)); (case side2 => exact (Kd.R_reads' HO665.out).2.1); (case side3 => exact Cz ((Kd.R_reads' HO669.out).2.2)); (case side4 => exact (Kd.R_reads' HO669.out).2.1); (case side5 => exact Cz ((Kd.R_reads' HO672.out).2.2)); (case side6 => exact (Kd.R_reads' HO672.out).2.1); rintro e w42 ⟨rfl, hb⟩; refine ⟨_, rfl, ?_⟩; replace HO654 := Aside0.mk (Kd.R_below (Rz HO654) hb); replace HO657 := Aside0.mk (Kd.R_below (Rz HO657) hb); replace HO660 := Aside0.mk (Kd.R_below (Rz HO660) hb); replace HO665 := Aside0.mk (Kd.R_below (Rz HO665) hb); replace HO669 := Aside0.mk (Kd.R_below (Rz HO669) hb); replace HO672 := Aside0.mk (Kd.R_below (Rz HO672) hb); replace BK649 := Aside0.mk (blk_below (g := gb649) (o := .cells #[.int .i64 a0_0, .slice A0_1 l0_1.length c0_1] 33 (0, 0)) (Bz BK649) hb); replace BK666 := Aside0.mk (blk_below (g := gb666) (o := .cells #[.int .i64 t662, .slice Ao36 t663.length co36] 37 (0, 0)) (Bz BK666) hb); replace HB := Aside0.mk (below_step (by exact Lz2 HB GE649 GE666) hb); (try clear hb); (try clear hb2); (try clear hk); (try clear hi)))
       (try simp only [Act.put, List.setIfInBounds_toArray, List.set_cons_zero, List.set_cons_succ])
       go_cut [] (fun wc => ∃ (kq : Nat), Aside0 (laws_FnExactIsLegalSet.j3 kq l1 l2 t667 t670 a0_0 l0_1 t662 t663 = some r) ∧ Aside0 (kq ≤ kj9) ∧ Aside0 (Kd.R (Kd.int .i64) 3 wc w.heap.size (fun k_ => some k_ ≠ ((.slice Ao41 t670.length co41) : Value).ownBlock) (.slice Ao40 t667.length co40) t667) ∧ Aside0 (Kd.R (Kd.int .i64) 3 wc w.heap.size (fun k_ => some k_ ≠ ((.slice Ao40 t667.length co40) : Value).ownBlock) (.slice Ao41 t670.length co41) t670) ∧ Aside0 (Kd.R k68 68 wc w.heap.size (fun _ => True) (.slice Ao36 t663.length co36) t663) ∧ Aside0 (wc.heap[gb649]? = some (.cells #[.int .i64 a0_0, (.slice A0_1 l0_1.length c0_1)] 33 (0, 0))) ∧ Aside0 (wc.heap[gb666]? = some (.cells #[.int .i64 t662, (.slice Ao36 t663.length co36)] 37 (0, 0))) ∧ Aside0 (Below w.heap.size w wc))
       case first =>
        have H := HC22.out
        clear HC22
        by_cases c43 : (t673 != t661) = true
        ·rw [if_pos c43] at H
         have c43b0 : (t673 != t661) = true := c43
         (try (have c43b1 : decide (t673 = t661) = false := by simpa using c43))
         (try (have c43b2 : (t673 == t661) = false := by simpa using c43))
         (try (have c43b3 : ¬ (t673 = t661) := by simpa using c43))
         clear c43
         (first | rw [c43b0] | (simp only [i64_w, i32_w]; rw [c43b0]) |(simp only [c43b2, Bool.not_false, Bool.not_true]) | skip)
         obtain rfl := Option.some.inj H
         go_wp2
         go_ret
         exact ⟨by first | rfl | (simp [errW_none, errW_some] <;> rfl) | (simp [*, errW_none, errW_some] <;> rfl), by exact Lz2 HB GE649 GE666⟩
        rw [if_neg c43] at H
        have c43b0 : (t673 != t661) = false := by simpa using c43
        (try (have c43b1 : decide (t673 = t661) = true := by simpa using c43))
        (try (have c43b2 : (t673 == t661) = true := by simpa using c43))
        clear c43
        (first | rw [c43b0] | (simp only [i64_w, i32_w]; rw [c43b0]) |(simp only [c43b2, Bool.not_false, Bool.not_true]) | skip)
        have H' := Aside0.mk H
        clear H
        go_wp2
        go_meet
        case rel => exact ⟨_, H', ⟨by have := HJ3.out; have := HJ6.out; have := HJ9.out; first | omega | exact Nat.le_refl _⟩, ⟨by (with_reducible repeat (first | apply Kd.R_alloc | apply Kd.R_drewN | apply Kd.R_drew)); exact Kd.R_mono HO669.out (fun _ hk => hk.2)⟩, ⟨by (with_reducible repeat (first | apply Kd.R_alloc | apply Kd.R_drewN | apply Kd.R_drew)); exact Kd.R_mono HO672.out (fun _ hk => hk.2)⟩, ⟨by (with_reducible repeat (first | apply Kd.R_alloc | apply Kd.R_drewN | apply Kd.R_drew)); exact Kd.R_mono HO665.out (fun _ hk => trivial)⟩, ⟨by exact Bz BK649⟩, ⟨by exact Bz BK666⟩, ⟨by exact Lz2 HB GE649 GE666⟩⟩
       case rest =>
        clear HC22
        try clear c1
        try clear c2
        try clear c6
        try clear c6b0
        try clear c6b1
        try clear c8
        try clear c8b0
        try clear c8b1
        try clear c13
        try clear c13b0
        try clear c43
        try clear c43b0
        try clear c43b1
        try clear c43b2
        obtain ⟨kq, HA, HJ21, HO_10, HO_11, HO_667001, BK649, BK666, HB⟩ := hcut
        cases kq with
        | zero => exact absurd HA.out (by simp [laws_FnExactIsLegalSet.j3])
        | succ kj21 =>
         have H := HA.out
         clear HA
         simp only [laws_FnExactIsLegalSet.j3] at H
         replace H := Option.bind_eq_some_iff.mp H
         obtain ⟨⟨t674, t675⟩, A440, H⟩ := H
         replace H : ((laws_eqGraph.f kj21 t662 t663 t674 t675).bind fun t678 => (if t678 = true then (laws_FnExactIsLegalSet.j4 kj21 l1 l2 t667 t670) else (some false))) = some r := H
         have A44 := Aside0.mk A440
         clear A440
         replace H := Option.bind_eq_some_iff.mp H
         obtain ⟨t678, A450, H⟩ := H
         replace H : (if t678 = true then (laws_FnExactIsLegalSet.j4 kj21 l1 l2 t667 t670) else (some false)) = some r := H
         have A45 := Aside0.mk A450
         clear A450
         have HC46 := Aside0.mk H
         clear H
         try go_wp2
         replace HO_10 := Aside0.mk (Kd.R_drew HO_10.out)
         replace HO_11 := Aside0.mk (Kd.R_drew HO_11.out)
         replace HO_667001 := Aside0.mk (Kd.R_drew HO_667001.out)
         replace BK649 := Aside0.mk (blk_drew BK649.out)
         replace BK666 := Aside0.mk (blk_drew BK666.out)
         replace HB := Aside0.mk (below_drew1 HB.out)
         refine start_ (n := 5) (S := fun w' => w'.cell? ⟨gb666, 0, none⟩ = some (.int .i64 t662) ∧ w'.cell? ⟨gb666, 1, none⟩ = some (.slice Ao36 t663.length co36) ∧ w'.cell? ⟨gb649, 0, none⟩ = some (.int .i64 a0_0) ∧ w'.cell? ⟨gb649, 1, none⟩ = some (.slice A0_1 l0_1.length c0_1)) (ds := []) #[false, false, false, false, false] (by kernel_rfl) rfl rfl ⟨(blk_cell BK666.out 0).trans rfl, (blk_cell BK666.out 1).trans rfl, (blk_cell BK649.out 0).trans rfl, (blk_cell BK649.out 1).trans rfl⟩ (fun hHeld => ?_)
         generalize wc.drew = w47 at HO_10 HO_11 HO_667001 BK649 BK666 HB hHeld ⊢
         refine take_ (i := 0) (N := some 44) (v := ?_) (a' := ?_) #[true, false, false, false, false] rfl rfl (by kernel_rfl) (fun _ _ _ h => h) (Or.inl ⟨by rfl, ?_⟩) hHeld ?_ ?_
         rotate_left
         ·rintro w' ⟨s0, s1, s2, s3⟩
          go_simp
          with_reducible rfl
         rotate_left
         ·simp only [Act.put, List.setIfInBounds_toArray, List.set_cons_zero, List.set_cons_succ, i64_w, i32_w]
          rfl
         refine take_ (i := 1) (N := some 45) (v := ?_) (a' := ?_) #[true, true, false, false, false] rfl rfl (by kernel_rfl) (fun _ _ _ h => h) (Or.inl ⟨by rfl, ?_⟩) hHeld ?_ ?_
         rotate_left
         ·rintro w' ⟨s0, s1, s2, s3⟩
          go_simp
          with_reducible rfl
         rotate_left
         ·simp only [Act.put, List.setIfInBounds_toArray, List.set_cons_zero, List.set_cons_succ, i64_w, i32_w]
          rfl
         refine one_ (i := 2) (N := some 46) #[true, true, true, false, false] rfl rfl (by kernel_rfl) (by decide) (fun K hK => ?_)
         refine goes_ Try.func26 (by kernel_rfl) rfl #[.agg #[.int .i64 a0_0, .slice A0_1 l0_1.length c0_1]] (by rfl) rfl rfl (by (try simp only [List.map_toArray, List.map_cons, List.map_nil]); first | done | rfl | (simp only [List.length_drop, List.length_take]; rfl)) ?_
         with_reducible refine (laws_toGraph.calls kj21 a0_0 _ _ l0_1 t674 t675 _ ?side1 ?side2 A44.out).mono ?_
         (case side1 => exact Cz ((Kd.C_below HR0_1.out HB.out)))
         (case side2 => exact HC0_1.out)
         rintro e w48 ⟨v676, rfl, ho0, hb⟩
         refine ⟨_, rfl, ?_⟩
         replace HO_10 := Aside0.mk (Kd.R_below (Rz HO_10) hb)
         replace HO_11 := Aside0.mk (Kd.R_below (Rz HO_11) hb)
         have HO677 := Aside0.mk (Kd.R_lower (Kd.R_new' ho0 (Kd.R_lt (Rz HO_667001))) (below_size (by exact Lz2 HB GE649 GE666)))
         replace HO_667001 := Aside0.mk (Kd.R_elder' (Rz HO_667001) (Kd.R_base ho0) hb)
         replace BK649 := Aside0.mk (blk_below (g := gb649) (o := .cells #[.int .i64 a0_0, .slice A0_1 l0_1.length c0_1] 33 (0, 0)) (Bz BK649) hb)
         replace BK666 := Aside0.mk (blk_below (g := gb666) (o := .cells #[.int .i64 t662, .slice Ao36 t663.length co36] 37 (0, 0)) (Bz BK666) hb)
         replace HB := Aside0.mk (below_step (by exact Lz2 HB GE649 GE666) hb)
         (try clear hb)
         (try clear hb2)
         (try clear hk)
         (try clear hi)
         (try clear ho0)
         obtain ⟨Ao49, co49, eo49⟩ := Kd.R_slice HO677.out
         (first | subst eo49 | (injection eo49 with f1_ f2_ f3_; have f4_ := f1_.symm; have f5_ := f3_.symm; clear f1_ f2_ f3_; subst f4_; subst f5_))
         refine hK.out _ _ ⟨(blk_cell BK666.out 0).trans rfl, (blk_cell BK666.out 1).trans rfl, (blk_cell BK649.out 0).trans rfl, (blk_cell BK649.out 1).trans rfl⟩ (fun hHeld => ?_)
         clear hK K
         refine norm_ (a' := ?_) ?_ ?_
         rotate_left
         ·show Act.put _ (some 46) _ = _
          simp only [Act.put, List.setIfInBounds_toArray, List.set_cons_zero, List.set_cons_succ, i64_w, i32_w]
          rfl
         refine one_ (i := 3) (N := some 47) #[true, true, true, true, false] rfl rfl (by kernel_rfl) (by decide) (fun K hK => ?_)
         refine goes_ Try.func28 (by kernel_rfl) rfl #[.agg #[.int .i64 t662, .slice Ao36 t663.length co36], .agg #[.int .i64 t674, .slice Ao49 t675.length co49]] (by rfl) rfl rfl (by (try simp only [List.map_toArray, List.map_cons, List.map_nil]); first | done | rfl | (simp only [List.length_drop, List.length_take]; rfl)) ?_
         with_reducible refine (laws_eqGraph.calls kj21 t662 _ _ t663 t674 _ _ t675 t678 _ ?side1 ?side2 ?side3 ?side4 A45.out).mono ?_
         (case side1 => exact Cz ((Kd.R_reads' HO_667001.out).2.2))
         (case side2 => exact (Kd.R_reads' HO_667001.out).2.1)
         (case side3 => exact Cz ((Kd.R_reads' HO677.out).2.2))
         (case side4 => exact (Kd.R_reads' HO677.out).2.1)
         rintro e w50 ⟨rfl, hb⟩
         refine ⟨_, rfl, ?_⟩
         replace HO_10 := Aside0.mk (Kd.R_below (Rz HO_10) hb)
         replace HO_11 := Aside0.mk (Kd.R_below (Rz HO_11) hb)
         replace HO_667001 := Aside0.mk (Kd.R_below (Rz HO_667001) hb)
         replace HO677 := Aside0.mk (Kd.R_below (Rz HO677) hb)
         replace BK649 := Aside0.mk (blk_below (g := gb649) (o := .cells #[.int .i64 a0_0, .slice A0_1 l0_1.length c0_1] 33 (0, 0)) (Bz BK649) hb)
         replace BK666 := Aside0.mk (blk_below (g := gb666) (o := .cells #[.int .i64 t662, .slice Ao36 t663.length co36] 37 (0, 0)) (Bz BK666) hb)
         replace HB := Aside0.mk (below_step (by exact Lz2 HB GE649 GE666) hb)
         (try clear hb)
         (try clear hb2)
         (try clear hk)
         (try clear hi)
         refine hK.out _ _ ⟨(blk_cell BK666.out 0).trans rfl, (blk_cell BK666.out 1).trans rfl, (blk_cell BK649.out 0).trans rfl, (blk_cell BK649.out 1).trans rfl⟩ (fun hHeld => ?_)
         clear hK K
         refine norm_ (a' := ?_) ?_ ?_
         rotate_left
         ·show Act.put _ (some 47) _ = _
          simp only [Act.put, List.setIfInBounds_toArray, List.set_cons_zero, List.set_cons_succ, i64_w, i32_w]
          rfl
         refine pure_ (i := 4) (N := some 48) (v := ?_) (a' := ?_) #[true, true, true, true, true] rfl rfl (by kernel_rfl) (fun _ _ _ h => h) (Or.inl ⟨by rfl, ?_⟩) ?_ ?_
         rotate_left
         ·intro w'
          go_simp
          with_reducible rfl
         rotate_left
         ·simp only [Act.put, List.setIfInBounds_toArray, List.set_cons_zero, List.set_cons_succ, i64_w, i32_w]
          rfl
         refine done_ (by kernel_rfl) ?_
         go_upto_if 48 with (fail)
         go_cut [] (fun wc => ∃ (kq : Nat), Aside0 (laws_FnExactIsLegalSet.j4 kq l1 l2 t667 t670 = some r) ∧ Aside0 (kq ≤ kj21) ∧ Aside0 (Kd.R (Kd.int .i64) 3 wc w.heap.size (fun k_ => some k_ ≠ ((.slice Ao41 t670.length co41) : Value).ownBlock) (.slice Ao40 t667.length co40) t667) ∧ Aside0 (Kd.R (Kd.int .i64) 3 wc w.heap.size (fun k_ => some k_ ≠ ((.slice Ao40 t667.length co40) : Value).ownBlock) (.slice Ao41 t670.length co41) t670) ∧ Aside0 (Kd.R k68 68 wc w.heap.size (fun _ => True) (.slice Ao36 t663.length co36) t663) ∧ Aside0 (wc.heap[gb649]? = some (.cells #[.int .i64 a0_0, (.slice A0_1 l0_1.length c0_1)] 33 (0, 0))) ∧ Aside0 (wc.heap[gb666]? = some (.cells #[.int .i64 t662, (.slice Ao36 t663.length co36)] 37 (0, 0))) ∧ Aside0 (Below w.heap.size w wc))
         case first =>
          have H := HC46.out
          clear HC46
          by_cases c51 : t678 = true
          ·subst c51
           have H1 : (laws_FnExactIsLegalSet.j4 kj21 l1 l2 t667 t670) = some r := by rw [if_pos rfl] at H; exact H
           clear H
           have H := H1
           clear H1
           have H' := Aside0.mk H
           clear H
           go_wp2
           go_meet
           case rel => exact ⟨_, H', ⟨by have := HJ3.out; have := HJ6.out; have := HJ9.out; have := HJ21.out; first | omega | exact Nat.le_refl _⟩, ⟨by exact Rz HO_10⟩, ⟨by exact Rz HO_11⟩, ⟨by (with_reducible repeat (first | apply Kd.R_alloc | apply Kd.R_drewN | apply Kd.R_drew)); exact Kd.R_mono HO_667001.out (fun _ hk => trivial)⟩, ⟨by exact Bz BK649⟩, ⟨by exact Bz BK666⟩, ⟨by exact Lz2 HB GE649 GE666⟩⟩
          replace c51 := Bool.eq_false_iff.mpr c51
          subst c51
          have H1 : (some false) = some r := by rw [if_neg (show ¬ (false = true) by decide)] at H; exact H
          clear H
          have H := H1
          clear H1
          obtain rfl := Option.some.inj H
          go_wp2
          go_ret
          exact ⟨by first | rfl | (simp [errW_none, errW_some] <;> rfl) | (simp [*, errW_none, errW_some] <;> rfl), by exact Lz2 HB GE649 GE666⟩
         case rest =>
          clear HC46
          try clear c1
          try clear c2
          try clear c6
          try clear c6b0
          try clear c6b1
          try clear c8
          try clear c8b0
          try clear c8b1
          try clear c13
          try clear c13b0
          try clear c43
          try clear c43b0
          try clear c43b1
          try clear c43b2
          try clear c51
          obtain ⟨kq, HA, HJ45, HO_10, HO_11, HO_667001, BK649, BK666, HB⟩ := hcut
          cases kq with
          | zero => exact absurd HA.out (by simp [laws_FnExactIsLegalSet.j4])
          | succ kj45 =>
           have H := HA.out
           clear HA
           simp only [laws_FnExactIsLegalSet.j4] at H
           replace H := Option.bind_eq_some_iff.mp H
           obtain ⟨t679, A520, H⟩ := H
           replace H : ((laws_eqIntS.f kj45 t667 t679).bind fun t682 => (if t682 = true then (laws_FnExactIsLegalSet.j5 kj45 l2 t670) else (some false))) = some r := H
           have A52 := Aside0.mk A520
           clear A520
           replace H := Option.bind_eq_some_iff.mp H
           obtain ⟨t682, A530, H⟩ := H
           replace H : (if t682 = true then (laws_FnExactIsLegalSet.j5 kj45 l2 t670) else (some false)) = some r := H
           have A53 := Aside0.mk A530
           clear A530
           have HC54 := Aside0.mk H
           clear H
           go_upto_if 53 with (first | ((with_reducible refine gate_callee (f := 36) rfl ?_); refine goesM_ (some 51) rfl rfl Try.func36 (by kernel_rfl) rfl #[.slice A1 l1.length c1] rfl ?_; (with_reducible refine (laws_toIntS.calls kj45 _ _ l1 t679 _ ?side1 ?side2 A52.out).mono ?_); (case side1 => exact Cz ((Kd.C_below HR1.out HB.out))); (case side2 => exact HC1.out); rintro e w55 ⟨v680, rfl, ho0, hb⟩; refine ⟨_, rfl, ?_⟩; replace HO_667001 := Aside0.mk (Kd.R_below (Rz HO_667001) hb); have HO681 := Aside0.mk (Kd.R_lower (Kd.R_new' (Kd.R_new' ho0 (Kd.R_lt (Rz HO_10))) (Kd.R_lt (Rz HO_11))) (below_size (by exact Lz2 HB GE649 GE666))); replace HO_10 := Aside0.mk (Kd.R_elder' (Rz HO_10) (Kd.R_base ho0) hb); replace HO_11 := Aside0.mk (Kd.R_elder' (Rz HO_11) (Kd.R_base ho0) hb); replace BK649 := Aside0.mk (blk_below (g := gb649) (o := .cells #[.int .i64 a0_0, .slice A0_1 l0_1.length c0_1] 33 (0, 0)) (Bz BK649) hb); replace BK666 := Aside0.mk (blk_below (g := gb666) (o := .cells #[.int .i64 t662, .slice Ao36 t663.length co36] 37 (0, 0)) (Bz BK666) hb); replace HB := Aside0.mk (below_step (by exact Lz2 HB GE649 GE666) hb); (try clear hb); (try clear ho0); obtain ⟨Ao56, co56, eo56⟩ := Kd.R_slice HO681.out; subst eo56) | ((with_reducible refine gate_callee (f := 19) rfl ?_); refine goesM_ (some 52) rfl rfl Try.func19 (by kernel_rfl) rfl #[.slice Ao40 t667.length co40, .slice Ao56 t679.length co56] rfl ?_; (with_reducible refine (laws_eqIntS.calls kj45 _ _ t667 _ _ t679 t682 _ ?side1 ?side2 ?side3 ?side4 A53.out).mono ?_); (case side1 => exact Cz ((Kd.R_reads' HO_10.out).2.2)); (case side2 => exact (Kd.R_reads' HO_10.out).2.1); (case side3 => exact Cz ((Kd.R_reads' HO681.out).2.2)); (case side4 => exact (Kd.R_reads' HO681.out).2.1); rintro e w' ⟨rfl, ⟨nd, rfl⟩⟩; refine ⟨_, rfl, ?_⟩))
           (try simp only [Act.put, List.setIfInBounds_toArray, List.set_cons_zero, List.set_cons_succ])
           go_cut [] (fun wc => ∃ (kq : Nat), Aside0 (laws_FnExactIsLegalSet.j5 kq l2 t670 = some r) ∧ Aside0 (kq ≤ kj45) ∧ Aside0 (Kd.R (Kd.int .i64) 3 wc w.heap.size (fun _ => True) (.slice Ao41 t670.length co41) t670) ∧ Aside0 (Kd.R k68 68 wc w.heap.size (fun _ => True) (.slice Ao36 t663.length co36) t663) ∧ Aside0 (wc.heap[gb649]? = some (.cells #[.int .i64 a0_0, (.slice A0_1 l0_1.length c0_1)] 33 (0, 0))) ∧ Aside0 (wc.heap[gb666]? = some (.cells #[.int .i64 t662, (.slice Ao36 t663.length co36)] 37 (0, 0))) ∧ Aside0 (Below w.heap.size w wc))
           case first =>
            have H := HC54.out
            clear HC54
            by_cases c57 : t682 = true
            ·subst c57
             have H1 : (laws_FnExactIsLegalSet.j5 kj45 l2 t670) = some r := by rw [if_pos rfl] at H; exact H
             clear H
             have H := H1
             clear H1
             have H' := Aside0.mk H
             clear H
             go_wp2
             go_meet
             case rel => exact ⟨_, H', ⟨by have := HJ3.out; have := HJ6.out; have := HJ9.out; have := HJ21.out; have := HJ45.out; first | omega | exact Nat.le_refl _⟩, ⟨by (with_reducible repeat (first | apply Kd.R_alloc | apply Kd.R_drewN | apply Kd.R_drew)); exact Kd.R_mono HO_11.out (fun _ hk => trivial)⟩, ⟨by exact Rz HO_667001⟩, ⟨by exact Bz BK649⟩, ⟨by exact Bz BK666⟩, ⟨by exact Lz2 HB GE649 GE666⟩⟩
            replace c57 := Bool.eq_false_iff.mpr c57
            subst c57
            have H1 : (some false) = some r := by rw [if_neg (show ¬ (false = true) by decide)] at H; exact H
            clear H
            have H := H1
            clear H1
            obtain rfl := Option.some.inj H
            go_wp2
            go_ret
            exact ⟨by first | rfl | (simp [errW_none, errW_some] <;> rfl) | (simp [*, errW_none, errW_some] <;> rfl), by exact Lz2 HB GE649 GE666⟩
           case rest =>
            clear HC54
            try clear c1
            try clear c2
            try clear c6
            try clear c6b0
            try clear c6b1
            try clear c8
            try clear c8b0
            try clear c8b1
            try clear c13
            try clear c13b0
            try clear c43
            try clear c43b0
            try clear c43b1
            try clear c43b2
            try clear c51
            try clear c57
            obtain ⟨kq, HA, HJ53, HO_11, HO_667001, BK649, BK666, HB⟩ := hcut
            cases kq with
            | zero => exact absurd HA.out (by simp [laws_FnExactIsLegalSet.j5])
            | succ kj53 =>
             have H := HA.out
             clear HA
             simp only [laws_FnExactIsLegalSet.j5] at H
             replace H := Option.bind_eq_some_iff.mp H
             obtain ⟨t683, A580, H⟩ := H
             replace H : ((laws_eqIntS.f kj53 t670 t683).bind fun t686 => (if t686 = true then (some true) else (some false))) = some r := H
             have A58 := Aside0.mk A580
             clear A580
             replace H := Option.bind_eq_some_iff.mp H
             obtain ⟨t686, A590, H⟩ := H
             replace H : (if t686 = true then (some true) else (some false)) = some r := H
             have A59 := Aside0.mk A590
             clear A590
             by_cases c60 : t686 = true
             ·subst c60
              have H1 : (some true) = some r := by rw [if_pos rfl] at H; exact H
              clear H
              have H := H1
              clear H1
              obtain rfl := Option.some.inj H
              go_wp2_with (first | ((with_reducible refine gate_callee (f := 36) rfl ?_); refine goesM_ (some 56) rfl rfl Try.func36 (by kernel_rfl) rfl #[.slice A2 l2.length c2] rfl ?_; (with_reducible refine (laws_toIntS.calls kj53 _ _ l2 t683 _ ?side1 ?side2 A58.out).mono ?_); (case side1 => exact Cz ((Kd.C_below HR2.out HB.out))); (case side2 => exact HC2.out); rintro e w61 ⟨v684, rfl, ho0, hb⟩; refine ⟨_, rfl, ?_⟩; replace HO_667001 := Aside0.mk (Kd.R_below (Rz HO_667001) hb); have HO685 := Aside0.mk (Kd.R_lower (Kd.R_new' ho0 (Kd.R_lt (Rz HO_11))) (below_size (by exact Lz2 HB GE649 GE666))); replace HO_11 := Aside0.mk (Kd.R_elder' (Rz HO_11) (Kd.R_base ho0) hb); replace BK649 := Aside0.mk (blk_below (g := gb649) (o := .cells #[.int .i64 a0_0, .slice A0_1 l0_1.length c0_1] 33 (0, 0)) (Bz BK649) hb); replace BK666 := Aside0.mk (blk_below (g := gb666) (o := .cells #[.int .i64 t662, .slice Ao36 t663.length co36] 37 (0, 0)) (Bz BK666) hb); replace HB := Aside0.mk (below_step (by exact Lz2 HB GE649 GE666) hb); (try clear hb); (try clear ho0); obtain ⟨Ao62, co62, eo62⟩ := Kd.R_slice HO685.out; subst eo62) | ((with_reducible refine gate_callee (f := 19) rfl ?_); refine goesM_ (some 57) rfl rfl Try.func19 (by kernel_rfl) rfl #[.slice Ao41 t670.length co41, .slice Ao62 t683.length co62] rfl ?_; (with_reducible refine (laws_eqIntS.calls kj53 _ _ t670 _ _ t683 true _ ?side1 ?side2 ?side3 ?side4 A59.out).mono ?_); (case side1 => exact Cz ((Kd.R_reads' HO_11.out).2.2)); (case side2 => exact (Kd.R_reads' HO_11.out).2.1); (case side3 => exact Cz ((Kd.R_reads' HO685.out).2.2)); (case side4 => exact (Kd.R_reads' HO685.out).2.1); rintro e w' ⟨rfl, ⟨nd, rfl⟩⟩; refine ⟨_, rfl, ?_⟩))
              go_ret
              exact ⟨by first | rfl | (simp [errW_none, errW_some] <;> rfl) | (simp [*, errW_none, errW_some] <;> rfl), by exact Lz2 HB GE649 GE666⟩
             replace c60 := Bool.eq_false_iff.mpr c60
             subst c60
             have H1 : (some false) = some r := by rw [if_neg (show ¬ (false = true) by decide)] at H; exact H
             clear H
             have H := H1
             clear H1
             obtain rfl := Option.some.inj H
             go_wp2_with (first | ((with_reducible refine gate_callee (f := 36) rfl ?_); refine goesM_ (some 56) rfl rfl Try.func36 (by kernel_rfl) rfl #[.slice A2 l2.length c2] rfl ?_; (with_reducible refine (laws_toIntS.calls kj53 _ _ l2 t683 _ ?side1 ?side2 A58.out).mono ?_); (case side1 => exact Cz ((Kd.C_below HR2.out HB.out))); (case side2 => exact HC2.out); rintro e w63 ⟨v684, rfl, ho0, hb⟩; refine ⟨_, rfl, ?_⟩; replace HO_667001 := Aside0.mk (Kd.R_below (Rz HO_667001) hb); have HO685 := Aside0.mk (Kd.R_lower (Kd.R_new' ho0 (Kd.R_lt (Rz HO_11))) (below_size (by exact Lz2 HB GE649 GE666))); replace HO_11 := Aside0.mk (Kd.R_elder' (Rz HO_11) (Kd.R_base ho0) hb); replace BK649 := Aside0.mk (blk_below (g := gb649) (o := .cells #[.int .i64 a0_0, .slice A0_1 l0_1.length c0_1] 33 (0, 0)) (Bz BK649) hb); replace BK666 := Aside0.mk (blk_below (g := gb666) (o := .cells #[.int .i64 t662, .slice Ao36 t663.length co36] 37 (0, 0)) (Bz BK666) hb); replace HB := Aside0.mk (below_step (by exact Lz2 HB GE649 GE666) hb); (try clear hb); (try clear ho0); obtain ⟨Ao64, co64, eo64⟩ := Kd.R_slice HO685.out; subst eo64) | ((with_reducible refine gate_callee (f := 19) rfl ?_); refine goesM_ (some 57) rfl rfl Try.func19 (by kernel_rfl) rfl #[.slice Ao41 t670.length co41, .slice Ao64 t683.length co64] rfl ?_; (with_reducible refine (laws_eqIntS.calls kj53 _ _ t670 _ _ t683 false _ ?side1 ?side2 ?side3 ?side4 A59.out).mono ?_); (case side1 => exact Cz ((Kd.R_reads' HO_11.out).2.2)); (case side2 => exact (Kd.R_reads' HO_11.out).2.1); (case side3 => exact Cz ((Kd.R_reads' HO685.out).2.2)); (case side4 => exact (Kd.R_reads' HO685.out).2.1); rintro e w' ⟨rfl, ⟨nd, rfl⟩⟩; refine ⟨_, rfl, ?_⟩))
             go_ret
             exact ⟨by first | rfl | (simp [errW_none, errW_some] <;> rfl) | (simp [*, errW_none, errW_some] <;> rfl), by exact Lz2 HB GE649 GE666⟩

end Go.Proofs.Ytfpcgccnhpfcnaa.P
