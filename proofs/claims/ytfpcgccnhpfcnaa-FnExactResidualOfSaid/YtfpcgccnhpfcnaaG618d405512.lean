/- Functions of the program as plain Lean functions, and that the machine's calls answer as they do. Written for this claim by a program of this work that drives the kit's print engine; Lean checks it. -/
import Derived.Test.YtfpcgccnhpfcnaaGbf62bd544f
import Derived.Test.YtfpcgccnhpfcnaaGa7e7e39d0d
import Derived.Test.YtfpcgccnhpfcnaaG55bbc5b30a
import Derived.Test.YtfpcgccnhpfcnaaGacf4011ac1
import Derived.Test.YtfpcgccnhpfcnaaG738cf0ac4a
namespace Go.Proofs.Ytfpcgccnhpfcnaa.P
open Go.RowKit Go.Proofs.YtfpcgccnhpfcnaaW.PrintWords Go.Proofs.YtfpcgccnhpfcnaaW.PrintLast Go.Proofs.YtfpcgccnhpfcnaaW.PrintMore
attribute [local go_sem] max2_int min2_int max_two min_two max_three min_three max_four min_four   -- for this text's walks alone
set_option linter.unusedVariables false
set_option linter.unusedSimpArgs false

/-! ### spec_l07Minus: function 86 -/
def spec_l07Minus.l0 : Nat → List Int → List Int → List Int → Int → Int → Option (List Int)
 | 0, _, _, _, _, _ => none
 | k + 1, x1, x5, x9, x10, x11 => if x11 < x10 then (if 0 ≤ x11 then (if x11 < (x9.length : Int) then (if x11 < (x1.length : Int) then (if x5.length < 17592186044416 then (spec_l07Minus.l0 k x1 (x5 ++ [wrap64 ((rd x9 x11) - (rd x1 x11))]) x9 x10 (wrap64 (x11 + 1))) else (none)) else (none)) else (none)) else (none)) else (some x5)
def spec_l07Minus.f (k : Nat) (l0 : List Int) (l1 : List Int) : Option (List Int) := spec_l07Minus.l0 k l1 (([] : List Int)) l0 (l0.length : Int) 0
set_option maxHeartbeats 8000000 in
set_option maxRecDepth 100000 in
theorem spec_l07Minus.calls (k : Nat) (A0 : Option Addr) (c0 : Nat) (l0 : List Int) (A1 : Option Addr) (c1 : Nat) (l1 : List Int) (r : List Int) (w : World) (hr0 : Kd.C (Kd.int .i64) w A0 l0.length l0) (hc0 : l0.length ≤ c0) (hr1 : Kd.C (Kd.int .i64) w A1 l1.length l1) (hc1 : l1.length ≤ c1) (h : spec_l07Minus.f k l0 l1 = some r) :
  Calls Try.prog 86 #[.slice A0 l0.length c0, .slice A1 l1.length c1] w fun e w' => ∃ v0_ : Value, e = .returned (v0_) ∧ Kd.R (Kd.int .i64) 3 w' w.heap.size (fun _ => True) v0_ r ∧ Below w.heap.size w w' := by
 have HR0 := Aside0.mk hr0
 have HC0 := Aside0.mk hc0
 clear hr0 hc0
 have HR1 := Aside0.mk hr1
 have HC1 := Aside0.mk hc1
 clear hr1 hc1
 have HB := Aside0.mk (Below.refl w.heap.size w)
 have H : (spec_l07Minus.l0 k l1 (([] : List Int)) l0 (l0.length : Int) 0) = some r := h
 clear h
 obtain ⟨y820, hy820⟩ : ∃ y_ : List Int, y_ = (([] : List Int)) := ⟨_, rfl⟩
 replace H : (spec_l07Minus.l0 k l1 y820 l0 (l0.length : Int) 0) = some r := by first | (rw [hy820]; with_reducible exact H) | (have H2_ := (Option.bind_some _ _).symm.trans H; rw [hy820]; with_reducible exact H2_) | (have H2_ := (Option.bind_some _ _).symm.trans H; with_reducible exact H2_) | with_reducible exact H | (rw [hy820]; exact H) | exact H
 have Ny820 := Aside0.mk hy820
 clear hy820
 have H' := Aside0.mk H
 clear H
 go_enter Try.func86, Try.ntmps86
 go_wp2_with (first | ((with_reducible refine gate_dst (N := 8) rfl ?_); refine Kd.R_lit (Kd.int .i64) _ 3 ?hg (N := 8) ?hd (xs := ([] : List Int)) (inner := []) (ok := fun _ => True) (okp := fun _ => True) ?hr ?hp (fun _ hk => hk) trivial (Below.refl _ _) (Nat.le_refl _) (by simp) ?_; (case hd => rfl); (case hg => rfl); (case hr => first | (go_simp; done) | (go_simp; rfl)); (case hp => exact (Reps.none _ _)); intro v821 w3 ho4 hb hg_ hnew_; clear hg_ hnew_; (first | rw [← Ny820.out] at ho4 | (simp only [Int.reduceToNat] at ho4; rw [← Ny820.out] at ho4)); have HO822 := Aside0.mk (Kd.R_lower ho4 (below_size (Lz HB))); replace HB := Aside0.mk (below_step (Lz HB) hb); clear hb ho4))
 go_loopg [5, 11] k (fun kq v5 v11 w' => ∃ (x5_1 : List Int) (x11_1 : Int), v11 = .int .i64 x11_1 ∧ Aside0 (spec_l07Minus.l0 kq l1 x5_1 l0 (l0.length : Int) x11_1 = some r) ∧ Aside0 (kq ≤ k) ∧ Aside0 (Kd.R (Kd.int .i64) 3 w' w.heap.size (fun _ => True) v5 x5_1) ∧ Aside0 (Below w.heap.size w w'))
 case atStart => exact ⟨(y820), (0), (by first | rfl | (simp; done) | (simp [*]; done)), H', ⟨Nat.le_refl _⟩, ⟨by exact Rz HO822⟩, ⟨by exact Lz HB⟩⟩
 case round =>
  clear H'
  try clear c1
  obtain ⟨x5_1, x11_1, rfl, HA, HK1, HO_5, HB⟩ := hrel
  cases gk with
  | zero => exact absurd HA.out (by simp [spec_l07Minus.l0])
  | succ k1 =>
   have H := HA.out
   clear HA
   simp only [spec_l07Minus.l0] at H
   by_cases c5 : x11_1 < (l0.length : Int)
   ·rw [if_pos c5] at H
    have c5b0 : decide (x11_1 < (l0.length : Int)) = true := decide_eq_true c5
    clear c5
    by_cases c6 : 0 ≤ x11_1
    ·rw [if_pos c6] at H
     have c6b0 : decide (0 ≤ x11_1) = true := decide_eq_true c6
     clear c6
     by_cases c7 : x11_1 < (l0.length : Int)
     ·rw [if_pos c7] at H
      have c7b0 : decide (x11_1 < (l0.length : Int)) = true := decide_eq_true c7
      clear c7
      by_cases c8 : x11_1 < (l1.length : Int)
      ·rw [if_pos c8] at H
       have c8b0 : decide (x11_1 < (l1.length : Int)) = true := decide_eq_true c8
       clear c8
       by_cases c9 : x5_1.length < 17592186044416
       ·rw [if_pos c9] at H
        have LMc9 := Aside0.mk c9
        clear c9
        obtain ⟨y825, hy825⟩ : ∃ y_ : List Int, y_ = (x5_1 ++ [wrap64 ((rd l0 x11_1) - (rd l1 x11_1))]) := ⟨_, rfl⟩
        replace H : (spec_l07Minus.l0 k1 l1 y825 l0 (l0.length : Int) (wrap64 (x11_1 + 1))) = some r := by first | (rw [hy825]; with_reducible exact H) | (have H2_ := (Option.bind_some _ _).symm.trans H; rw [hy825]; with_reducible exact H2_) | (have H2_ := (Option.bind_some _ _).symm.trans H; with_reducible exact H2_) | with_reducible exact H | (rw [hy825]; exact H) | exact H
        have Ny825 := Aside0.mk hy825
        clear hy825
        have H' := Aside0.mk H
        clear H
        have p823 : 0 ≤ (x11_1 : Int) := of_decide_eq_true (by first | (with_reducible assumption) | assumption)
        have q823 : x11_1 < (l0.length : Int) := of_decide_eq_true (by first | (with_reducible assumption) | assumption)
        obtain ⟨ad823, e823, hx823_0⟩ := Kd.at_int HR0.out x11_1 p823 q823
        cases e823
        replace hx823_0 := (HB.out.cell (World.block_lt_of_cell? w _ hx823_0)).trans hx823_0
        replace p823 := eq_true p823
        replace q823 := eq_true q823
        have p824 : 0 ≤ (x11_1 : Int) := of_decide_eq_true (by first | (with_reducible assumption) | assumption)
        have q824 : x11_1 < (l1.length : Int) := of_decide_eq_true (by first | (with_reducible assumption) | assumption)
        obtain ⟨ad824, e824, hx824_0⟩ := Kd.at_int HR1.out x11_1 p824 q824
        cases e824
        replace hx824_0 := (HB.out.cell (World.block_lt_of_cell? w _ hx824_0)).trans hx824_0
        replace p824 := eq_true p824
        replace q824 := eq_true q824
        go_wp2_with (first | ((with_reducible refine gate_builtin (b := .append) (xs := #[.tmp 16, .tmp 23]) rfl ?_); at_builtin; refine Kd.R_append (Kd.int .i64) (w0 := w) w.heap.size rfl (.tmp 16) (.tmp 23) 24 3 (.int .i64 0) 8 rfl Try.underlying24 info3 rfl (by decide) (by omega) u5 x5_1 (wrap64 ((rd l0 x11_1) - (rd l1 x11_1))) [.int .i64 (wrap64 ((rd l0 x11_1) - (rd l1 x11_1)))] (fun _ => True) (fun _ => False) rfl rfl ?aP (fun _ hk => hk.elim) ?aF ?aO ?aB ?aS ?aL ?_; (case aP => exact rfl); (case aB => exact (Lz HB)); (case aF => exact (fun _ _ => trivial)); (case aO => exact (Rz HO_5)); (case aS => exact (below_size (Lz HB))); (case aL => have := LMc9.out; omega); intro v826 w10 ho hb hg hat; rw [← Ny825.out] at ho; replace HB := Aside0.mk (hb); have HO827 := Aside0.mk (ho); clear HO_5; clear ho hb hg hat))
        go_roundg k1
        case measure => have := HK1.out; omega
        case rel => exact ⟨(y825), (wrap64 (x11_1 + 1)), (by first | rfl | (simp; done) | (simp [*]; done)), H', ⟨by have := HK1.out; omega⟩, ⟨by exact Rz HO827⟩, ⟨by exact Lz HB⟩⟩
       rw [if_neg c9] at H
       exact absurd H (by simp)
      rw [if_neg c8] at H
      exact absurd H (by simp)
     rw [if_neg c7] at H
     exact absurd H (by simp)
    rw [if_neg c6] at H
    exact absurd H (by simp)
   rw [if_neg c5] at H
   have c5b0 : decide (x11_1 < (l0.length : Int)) = false := decide_eq_false c5
   clear c5
   obtain rfl := Option.some.inj H
   go_wp2
   go_ret
   exact ⟨_, by first | rfl | (simp [errW_none, errW_some] <;> rfl) | (simp [*, errW_none, errW_some] <;> rfl), by exact Rz HO_5, by exact Lz HB⟩

/-! ### spec_ResidualOf: function 45 -/
def spec_ResidualOf.f (k : Nat) (a0_0 : Int) (l0_1 : List (S68)) (l1 : List Int) : Option (List Int × Bool) := (spec_DivisorOk.f k a0_0 l0_1 l1).bind fun t829 => (if t829 = true then ((spec_CanonicalOf.f k a0_0 l0_1).bind fun t830 => ((spec_l07Minus.f k t830 l1).bind fun t833 => (some (t833, true)))) else (some (([] : List Int), false)))
set_option maxHeartbeats 8000000 in
set_option maxRecDepth 100000 in
theorem spec_ResidualOf.calls (k : Nat) (a0_0 : Int) (A0_1 : Option Addr) (c0_1 : Nat) (l0_1 : List (S68)) (A1 : Option Addr) (c1 : Nat) (l1 : List Int) (r1 : List Int) (r2 : Bool) (w : World) (hr0_1 : Kd.C k68 w A0_1 l0_1.length l0_1) (hc0_1 : l0_1.length ≤ c0_1) (hr1 : Kd.C (Kd.int .i64) w A1 l1.length l1) (hc1 : l1.length ≤ c1) (h : spec_ResidualOf.f k a0_0 l0_1 l1 = some (r1, r2)) :
  Calls Try.prog 45 #[.agg #[.int .i64 a0_0, .slice A0_1 l0_1.length c0_1], .slice A1 l1.length c1] w fun e w' => ∃ v0_ : Value, e = .returned (.tuple #[v0_, .bool r2]) ∧ Kd.R (Kd.int .i64) 3 w' w.heap.size (fun _ => True) v0_ r1 ∧ Below w.heap.size w w' := by
 have hu37 := Try.underlying37
 have HR0_1 := Aside0.mk hr0_1
 have HC0_1 := Aside0.mk hc0_1
 clear hr0_1 hc0_1
 have HR1 := Aside0.mk hr1
 have HC1 := Aside0.mk hc1
 clear hr1 hc1
 have HB := Aside0.mk (Below.refl w.heap.size w)
 have H : ((spec_DivisorOk.f k a0_0 l0_1 l1).bind fun t829 => (if t829 = true then ((spec_CanonicalOf.f k a0_0 l0_1).bind fun t830 => ((spec_l07Minus.f k t830 l1).bind fun t833 => (some (t833, true)))) else (some (([] : List Int), false)))) = some (r1, r2) := h
 clear h
 replace H := Option.bind_eq_some_iff.mp H
 obtain ⟨t829, A30, H⟩ := H
 replace H : (if t829 = true then ((spec_CanonicalOf.f k a0_0 l0_1).bind fun t830 => ((spec_l07Minus.f k t830 l1).bind fun t833 => (some (t833, true)))) else (some (([] : List Int), false))) = some (r1, r2) := H
 have A3 := Aside0.mk A30
 clear A30
 by_cases c4 : t829 = true
 ·subst c4
  have H1 : ((spec_CanonicalOf.f k a0_0 l0_1).bind fun t830 => ((spec_l07Minus.f k t830 l1).bind fun t833 => (some (t833, true)))) = some (r1, r2) := by rw [if_pos rfl] at H; exact H
  clear H
  have H := H1
  clear H1
  replace H := Option.bind_eq_some_iff.mp H
  obtain ⟨t830, A50, H⟩ := H
  replace H : ((spec_l07Minus.f k t830 l1).bind fun t833 => (some (t833, true))) = some (r1, r2) := H
  have A5 := Aside0.mk A50
  clear A50
  replace H := Option.bind_eq_some_iff.mp H
  obtain ⟨t833, A60, H⟩ := H
  replace H : (some (t833, true)) = some (r1, r2) := H
  have A6 := Aside0.mk A60
  clear A60
  simp only [Option.some.injEq, Prod.mk.injEq] at H
  obtain ⟨rfl, rfl⟩ := H
  go_enter Try.func45, Try.ntmps45
  go_wp2_with (first | ((with_reducible refine gate_dst (N := 2) rfl ?_); refine box_event ?hg (N := 2) ?hd (cs := #[.int .i64 a0_0, .slice A0_1 l0_1.length c0_1]) (t := 37) ?hr ?_; (case hd => rfl); (case hg => rfl); (case hr => first | (go_simp; done) | (go_simp; rfl)); intro gb828 hg w7 hbox hb; have BK828 := Aside0.mk (hbox); have GW828 := Aside0.mk ((by rw [hg]; exact (below_size (Lz HB)) : w.heap.size ≤ gb828)); have GE828 := Aside0.mk ((by rw [hg]; exact (below_size (Lz HB)) : w.heap.size ≤ gb828)); replace HB := Aside0.mk (below_step (Lz HB) hb); clear hb hbox hg; have hcz8_0 : w7.cell? ⟨gb828, 0, none⟩ = some (.int .i64 a0_0) := (blk_cell BK828.out 0).trans rfl; have hcz8_1 : w7.cell? ⟨gb828, 1, none⟩ = some (.slice A0_1 l0_1.length c0_1) := (blk_cell BK828.out 1).trans rfl; have hfz8_0 := blk_frozen BK828.out 0; have hfz8_1 := blk_frozen BK828.out 1) | ((with_reducible refine gate_callee (f := 78) rfl ?_); refine goesM_ (some 8) rfl rfl Try.func78 (by kernel_rfl) rfl #[.agg #[.int .i64 a0_0, .slice A0_1 l0_1.length c0_1], .slice A1 l1.length c1] rfl ?_; (with_reducible refine (spec_DivisorOk.calls k a0_0 _ _ l0_1 _ _ l1 true _ ?side1 ?side2 ?side3 ?side4 A3.out).mono ?_); (case side1 => exact Cz ((Kd.C_below HR0_1.out HB.out))); (case side2 => exact HC0_1.out); (case side3 => exact Cz ((Kd.C_below HR1.out HB.out))); (case side4 => exact HC1.out); rintro e w9 ⟨rfl, hb⟩; refine ⟨_, rfl, ?_⟩; replace BK828 := Aside0.mk (blk_below (g := gb828) (o := .cells #[.int .i64 a0_0, .slice A0_1 l0_1.length c0_1] 37 (0, 0)) (Bz BK828) hb); replace HB := Aside0.mk (below_step (by exact Lz1 HB GE828) hb); (try clear hb); (try clear hb2); (try clear hk); (try clear hi); have hcz10_0 : w9.cell? ⟨gb828, 0, none⟩ = some (.int .i64 a0_0) := (blk_cell BK828.out 0).trans rfl; have hcz10_1 : w9.cell? ⟨gb828, 1, none⟩ = some (.slice A0_1 l0_1.length c0_1) := (blk_cell BK828.out 1).trans rfl; have hfz10_0 := blk_frozen BK828.out 0; have hfz10_1 := blk_frozen BK828.out 1) | ((with_reducible refine gate_callee (f := 31) rfl ?_); refine goesM_ (some 11) rfl rfl Try.func31 (by kernel_rfl) rfl #[.agg #[.int .i64 a0_0, .slice A0_1 l0_1.length c0_1]] rfl ?_; (with_reducible refine (spec_CanonicalOf.calls k a0_0 _ _ l0_1 t830 _ ?side1 ?side2 A5.out).mono ?_); (case side1 => exact Cz ((Kd.C_below HR0_1.out HB.out))); (case side2 => exact HC0_1.out); rintro e w11 ⟨v831, rfl, ho0, hb⟩; refine ⟨_, rfl, ?_⟩; have HO832 := Aside0.mk (Kd.R_lower ho0 (below_size (by exact Lz1 HB GE828))); replace BK828 := Aside0.mk (blk_below (g := gb828) (o := .cells #[.int .i64 a0_0, .slice A0_1 l0_1.length c0_1] 37 (0, 0)) (Bz BK828) hb); replace HB := Aside0.mk (below_step (by exact Lz1 HB GE828) hb); (try clear hb); (try clear ho0); obtain ⟨Ao12, co12, eo12⟩ := Kd.R_slice HO832.out; subst eo12) | ((with_reducible refine gate_callee (f := 86) rfl ?_); refine goesM_ (some 13) rfl rfl Try.func86 (by kernel_rfl) rfl #[.slice Ao12 t830.length co12, .slice A1 l1.length c1] rfl ?_; (with_reducible refine (spec_l07Minus.calls k _ _ t830 _ _ l1 t833 _ ?side1 ?side2 ?side3 ?side4 A6.out).mono ?_); (case side1 => exact Cz ((Kd.R_reads' HO832.out).2.2)); (case side2 => exact (Kd.R_reads' HO832.out).2.1); (case side3 => exact Cz ((Kd.C_below HR1.out HB.out))); (case side4 => exact HC1.out); rintro e w13 ⟨v834, rfl, ho0, hb⟩; refine ⟨_, rfl, ?_⟩; have HO835 := Aside0.mk (Kd.R_lower (Kd.R_new' ho0 (Kd.R_lt (Rz HO832))) (below_size (by exact Lz1 HB GE828))); replace HO832 := Aside0.mk (Kd.R_elder' (Rz HO832) (Kd.R_base ho0) hb); replace BK828 := Aside0.mk (blk_below (g := gb828) (o := .cells #[.int .i64 a0_0, .slice A0_1 l0_1.length c0_1] 37 (0, 0)) (Bz BK828) hb); replace HB := Aside0.mk (below_step (by exact Lz1 HB GE828) hb); (try clear hb); (try clear ho0)))
  go_ret2
  exact ⟨_, by first | rfl | (simp [errW_none, errW_some] <;> rfl) | (simp [*, errW_none, errW_some] <;> rfl), by (with_reducible repeat (first | apply Kd.R_alloc | apply Kd.R_drewN | apply Kd.R_drew)); exact Kd.R_mono HO835.out (fun _ hk => trivial), by exact Lz1 HB GE828⟩
 replace c4 := Bool.eq_false_iff.mpr c4
 subst c4
 have H1 : (some (([] : List Int), false)) = some (r1, r2) := by rw [if_neg (show ¬ (false = true) by decide)] at H; exact H
 clear H
 have H := H1
 clear H1
 simp only [Option.some.injEq, Prod.mk.injEq] at H
 obtain ⟨rfl, rfl⟩ := H
 go_enter Try.func45, Try.ntmps45
 go_wp2_with (first | ((with_reducible refine gate_dst (N := 2) rfl ?_); refine box_event ?hg (N := 2) ?hd (cs := #[.int .i64 a0_0, .slice A0_1 l0_1.length c0_1]) (t := 37) ?hr ?_; (case hd => rfl); (case hg => rfl); (case hr => first | (go_simp; done) | (go_simp; rfl)); intro gb828 hg w14 hbox hb; have BK828 := Aside0.mk (hbox); have GW828 := Aside0.mk ((by rw [hg]; exact (below_size (Lz HB)) : w.heap.size ≤ gb828)); have GE828 := Aside0.mk ((by rw [hg]; exact (below_size (Lz HB)) : w.heap.size ≤ gb828)); replace HB := Aside0.mk (below_step (Lz HB) hb); clear hb hbox hg; have hcz15_0 : w14.cell? ⟨gb828, 0, none⟩ = some (.int .i64 a0_0) := (blk_cell BK828.out 0).trans rfl; have hcz15_1 : w14.cell? ⟨gb828, 1, none⟩ = some (.slice A0_1 l0_1.length c0_1) := (blk_cell BK828.out 1).trans rfl; have hfz15_0 := blk_frozen BK828.out 0; have hfz15_1 := blk_frozen BK828.out 1) | ((with_reducible refine gate_callee (f := 78) rfl ?_); refine goesM_ (some 8) rfl rfl Try.func78 (by kernel_rfl) rfl #[.agg #[.int .i64 a0_0, .slice A0_1 l0_1.length c0_1], .slice A1 l1.length c1] rfl ?_; (with_reducible refine (spec_DivisorOk.calls k a0_0 _ _ l0_1 _ _ l1 false _ ?side1 ?side2 ?side3 ?side4 A3.out).mono ?_); (case side1 => exact Cz ((Kd.C_below HR0_1.out HB.out))); (case side2 => exact HC0_1.out); (case side3 => exact Cz ((Kd.C_below HR1.out HB.out))); (case side4 => exact HC1.out); rintro e w16 ⟨rfl, hb⟩; refine ⟨_, rfl, ?_⟩; replace BK828 := Aside0.mk (blk_below (g := gb828) (o := .cells #[.int .i64 a0_0, .slice A0_1 l0_1.length c0_1] 37 (0, 0)) (Bz BK828) hb); replace HB := Aside0.mk (below_step (by exact Lz1 HB GE828) hb); (try clear hb); (try clear hb2); (try clear hk); (try clear hi)))
 go_ret2
 exact ⟨_, by first | rfl | (simp [errW_none, errW_some] <;> rfl) | (simp [*, errW_none, errW_some] <;> rfl), by first | exact Kd.R_nil _ _ _ _ _ | exact Kd.N_nil _ _ _ _ _ | exact Kd.V_nil _ _ _ _ _ | exact Kd.Q_nil _ _ _ _ _ | exact Kd.S_nil _ _ _ _ _, by exact Lz1 HB GE828⟩

/-! ### impl_plus: function 87 -/
def impl_plus.l0 : Nat → List Int → List Int → Int → Int → Option (List Int)
 | 0, _, _, _, _ => none
 | k + 1, x1, x5, x10, x11 => if x11 < x10 then (if 0 ≤ x11 then (if x11 < (x5.length : Int) then (if x11 < (x1.length : Int) then (impl_plus.l0 k x1 (x5.set (x11 : Int).toNat (wrap64 ((rd x5 x11) + (rd x1 x11)))) x10 (wrap64 (x11 + 1))) else (none)) else (none)) else (none)) else (some x5)
def impl_plus.f (k : Nat) (l0 : List Int) (l1 : List Int) : Option (List Int) := (impl_copyInts.f l0).bind fun t836 => (impl_plus.l0 k l1 t836 (t836.length : Int) 0)
def impl_plus.T5 : Bool × List (List Nat × List Nat) := (true, [([], []), ([], []), ([0, 1], [0, 1]), ([2], [2]), ([], []), ([], []), ([4, 5], [4, 5]), ([6], [6]), ([3, 7], [3, 7]), ([0, 1, 0, 1, 2, 3, 4, 5, 6, 7, 8], [0, 1]), ([9, 8, 0, 1, 2, 3, 4, 5, 6, 7, 8], [8, 9])])
def impl_plus.B5 : List Nat := [0, 0, 3, 7, 0, 0, 48, 112, 255, 511, 1023]
theorem impl_plus.tab5 : rtab .any (opsOf Try.f87 5) = impl_plus.T5 := by kernel_rfl
theorem impl_plus.bits5 : waitsOk impl_plus.T5.2 impl_plus.B5 = true := by kernel_rfl
set_option maxHeartbeats 8000000 in
set_option maxRecDepth 100000 in
theorem impl_plus.calls (k : Nat) (A0 : Option Addr) (c0 : Nat) (l0 : List Int) (A1 : Option Addr) (c1 : Nat) (l1 : List Int) (r : List Int) (w : World) (hr0 : Kd.C (Kd.int .i64) w A0 l0.length l0) (hc0 : l0.length ≤ c0) (hr1 : Kd.C (Kd.int .i64) w A1 l1.length l1) (hc1 : l1.length ≤ c1) (h : impl_plus.f k l0 l1 = some r) :
  Calls Try.prog 87 #[.slice A0 l0.length c0, .slice A1 l1.length c1] w fun e w' => ∃ v0_ : Value, e = .returned (v0_) ∧ Kd.R (Kd.int .i64) 3 w' w.heap.size (fun _ => True) v0_ r ∧ Below w.heap.size w w' := by
 have HR0 := Aside0.mk hr0
 have HC0 := Aside0.mk hc0
 clear hr0 hc0
 have HR1 := Aside0.mk hr1
 have HC1 := Aside0.mk hc1
 clear hr1 hc1
 have HB := Aside0.mk (Below.refl w.heap.size w)
 have H : ((impl_copyInts.f l0).bind fun t836 => (impl_plus.l0 k l1 t836 (t836.length : Int) 0)) = some r := h
 clear h
 replace H := Option.bind_eq_some_iff.mp H
 obtain ⟨t836, A30, H⟩ := H
 replace H : (impl_plus.l0 k l1 t836 (t836.length : Int) 0) = some r := H
 have A3 := Aside0.mk A30
 clear A30
 have H' := Aside0.mk H
 clear H
 go_enter Try.func87, Try.ntmps87
 go_wp2_with (first | ((with_reducible refine gate_callee (f := 106) rfl ?_); refine goesM_ (some 8) rfl rfl Try.func106 (by kernel_rfl) rfl #[.slice A0 l0.length c0] rfl ?_; (with_reducible refine (impl_copyInts.calls _ _ l0 t836 _ ?side1 ?side2 A3.out).mono ?_); (case side1 => exact Cz (HR0.out)); (case side2 => exact HC0.out); rintro e w4 ⟨v837, rfl, ho0, hb⟩; refine ⟨_, rfl, ?_⟩; have HO838 := Aside0.mk (Kd.R_lower ho0 (below_size (Lz HB))); replace HB := Aside0.mk (below_step (Lz HB) hb); (try clear hb); (try clear ho0); obtain ⟨Ao5, co5, eo5⟩ := Kd.R_slice HO838.out; subst eo5))
 go_loopg [11] k (fun kq v11 w' => ∃ (x5_1 : List Int) (x11_1 : Int), v11 = .int .i64 x11_1 ∧ Aside0 (impl_plus.l0 kq l1 x5_1 (t836.length : Int) x11_1 = some r) ∧ Aside0 (kq ≤ k) ∧ Aside0 (Kd.R (Kd.int .i64) 3 w' w.heap.size (fun _ => True) (.slice Ao5 t836.length co5) x5_1) ∧ Aside0 (Below w.heap.size w w'))
 case atStart => exact ⟨(t836), (0), (by first | rfl | (simp; done) | (simp [*]; done)), H', ⟨Nat.le_refl _⟩, ⟨by exact Rz HO838⟩, ⟨by exact Lz HB⟩⟩
 case round =>
  clear H'
  try clear c1
  obtain ⟨x5_1, x11_1, rfl, HA, HK1, HO_5, HB⟩ := hrel
  have hl5_1 := (Kd.R_reads' HO_5.out).1
  rw [hl5_1] at HO_5
  (try simp only [hl5_1])
  cases gk with
  | zero => exact absurd HA.out (by simp [impl_plus.l0])
  | succ k1 =>
   have H := HA.out
   clear HA
   simp only [impl_plus.l0] at H
   by_cases c6 : x11_1 < (t836.length : Int)
   ·rw [if_pos c6] at H
    have c6b0 : decide (x11_1 < (t836.length : Int)) = true := decide_eq_true c6
    (try simp only [hl5_1] at c6b0)
    clear c6
    by_cases c7 : 0 ≤ x11_1
    ·rw [if_pos c7] at H
     have c7b0 : decide (0 ≤ x11_1) = true := decide_eq_true c7
     clear c7
     by_cases c8 : x11_1 < (x5_1.length : Int)
     ·rw [if_pos c8] at H
      have c8b0 : decide (x11_1 < (x5_1.length : Int)) = true := decide_eq_true c8
      (try simp only [hl5_1] at c8b0)
      clear c8
      by_cases c9 : x11_1 < (l1.length : Int)
      ·rw [if_pos c9] at H
       have c9b0 : decide (x11_1 < (l1.length : Int)) = true := decide_eq_true c9
       (try simp only [hl5_1] at c9b0)
       clear c9
       obtain ⟨y841, hy841⟩ : ∃ y_ : List Int, y_ = (x5_1.set (x11_1 : Int).toNat (wrap64 ((rd x5_1 x11_1) + (rd l1 x11_1)))) := ⟨_, rfl⟩
       replace H : (impl_plus.l0 k1 l1 y841 (t836.length : Int) (wrap64 (x11_1 + 1))) = some r := by first | (rw [hy841]; with_reducible exact H) | (have H2_ := (Option.bind_some _ _).symm.trans H; rw [hy841]; with_reducible exact H2_) | (have H2_ := (Option.bind_some _ _).symm.trans H; with_reducible exact H2_) | with_reducible exact H | (rw [hy841]; exact H) | exact H
       have Ny841 := Aside0.mk hy841
       clear hy841
       have H' := Aside0.mk H
       clear H
       try go_wp2
       replace HO_5 := Aside0.mk (Kd.R_drew HO_5.out)
       replace HB := Aside0.mk (below_drew1 HB.out)
       have p839 : 0 ≤ (x11_1 : Int) := of_decide_eq_true (by first | (with_reducible assumption) | assumption)
       have q839 : x11_1 < (x5_1.length : Int) := of_decide_eq_true (by first | (with_reducible assumption) | assumption)
       obtain ⟨ad839, e839, hx839_0⟩ := Kd.at_int (Kd.R_reads' HO_5.out).2.2 x11_1 p839 q839
       cases e839
       replace p839 := eq_true p839
       replace q839 := eq_true q839
       have p840 : 0 ≤ (x11_1 : Int) := of_decide_eq_true (by first | (with_reducible assumption) | assumption)
       have q840 : x11_1 < (l1.length : Int) := of_decide_eq_true (by first | (with_reducible assumption) | assumption)
       obtain ⟨ad840, e840, hx840_0⟩ := Kd.at_int HR1.out x11_1 p840 q840
       have hw840_0 := hx840_0
       cases e840
       replace hx840_0 := (HB.out.cell (World.block_lt_of_cell? w _ hx840_0)).trans hx840_0
       replace p840 := eq_true p840
       replace q840 := eq_true q840
       have p10 : 0 ≤ (x11_1 : Int) := of_decide_eq_true (by first | (with_reducible assumption) | assumption)
       have q10 : (x11_1 : Int) < ((x5_1.length : Int) : Int) := of_decide_eq_true (by first | (with_reducible assumption) | assumption)
       obtain ⟨go10, co10, eo10, gb10, gl10, cl10, HG10⟩ := Kd.R_form HO_5.out (by omega)
       (first | cases eo10 | (injection eo10 with ea_ en_ ec_; (first | subst ea_ | (injection ea_ with ea_; subst ea_)); subst ec_; clear en_))
       have GB10 := Aside0.mk gb10
       have GG10 := Aside0.mk HG10
       clear gb10 gl10 HG10
       (first | simp only [add_plain] at hx839_0 | skip)
       obtain ⟨hx10_0, hf10_0⟩ := Kd.R_celln 0 HO_5.out (x11_1 : Int) p10 q10
       replace p10 := eq_true p10
       replace q10 := eq_true q10
       have HP12 := Kd.R_putn HO_5.out (x11_1 : Int) (wrap64 ((rd x5_1 x11_1) + (rd l1 x11_1)))
       rw [← Ny841.out] at HP12
       have HQ12 := Aside0.mk HP12
       clear HP12
       refine start_ (n := 11) (S := fun w' => w'.cell? ⟨go10, (x11_1).toNat, none⟩ = some (.int .i64 (rd x5_1 x11_1)) ∧ w'.cell? (ad840.add (x11_1).toNat) = some (.int .i64 (rd l1 x11_1))) (ds := [10]) #[false, false, false, false, false, false, false, false, false, false, false] (by kernel_rfl) rfl rfl ⟨hx839_0, ((HB.out.cell (World.block_lt_of_cell? w _ hw840_0)).trans hw840_0)⟩ (fun hHeld => ?_); refine with_tabW impl_plus.tab5 impl_plus.bits5 (fun HT_ HW_ => ?_)
       generalize wr.drew = w11 at HO_5 HB GG10 HQ12 hf10_0 hx10_0 hx839_0 hx840_0 hHeld ⊢
       refine pureT_ 0 14 HT_ ?_
       refine pureT_ 1 15 HT_ ?_
       refine pureT_ 2 16 HT_ ?_
       refine pureT_ 4 18 HT_ ?_
       refine pureT_ 5 19 HT_ ?_
       refine pureT_ 6 20 HT_ ?_
       refine takeT_ 3 17 HT_ HW_ hHeld rfl (by rintro w' ⟨s0, s1⟩; go_simp; with_reducible rfl) ?_
       refine takeT_ 7 21 HT_ HW_ hHeld rfl (by rintro w' ⟨s0, s1⟩; go_simp; with_reducible rfl) ?_
       refine pureT_ 8 22 HT_ ?_
       refine pureT_ 9 23 HT_ ?_
       refine last_ (i := 10) (N := none) #[true, true, true, true, true, true, true, true, true, true, true] rfl rfl (one_of HT_.out (by kernel_rfl)) (by decide) (fun K hK => ?_)
       refine skip_ (w1 := ?_) (by rfl) rfl ?_ ?_
       rotate_left
       ·go_simp
        rfl
       refine hK.out _ _ ?_
       clear hK K
       refine done_ (done_of HT_.out (by kernel_rfl)) ?_
       try go_wp2
       (try simp only [← hl5_1])
       go_roundg k1
       case measure => have := HK1.out; omega
       case rel => exact ⟨(y841), (wrap64 (x11_1 + 1)), (by first | rfl | (simp; done) | (simp [*]; done)), H', ⟨by have := HK1.out; omega⟩, ⟨by (try simp only [hl5_1]); exact Rz HQ12⟩, ⟨by exact Lz1 HB GB10⟩⟩
      rw [if_neg c9] at H
      exact absurd H (by simp)
     rw [if_neg c8] at H
     exact absurd H (by simp)
    rw [if_neg c7] at H
    exact absurd H (by simp)
   rw [if_neg c6] at H
   have c6b0 : decide (x11_1 < (t836.length : Int)) = false := decide_eq_false c6
   (try simp only [hl5_1] at c6b0)
   clear c6
   obtain rfl := Option.some.inj H
   go_wp2
   go_ret
   exact ⟨_, by first | rfl | (simp [errW_none, errW_some] <;> rfl) | (simp [*, errW_none, errW_some] <;> rfl), by exact Rz HO_5, by exact Lz HB⟩

/-! ### impl_NegateDivisor: function 88 -/
def impl_NegateDivisor.l0 : Nat → List Int → Int → Int → Option (List Int)
 | 0, _, _, _ => none
 | k + 1, x3, x8, x9 => if x9 < x8 then (if 0 ≤ x9 then (if x9 < (x3.length : Int) then (impl_NegateDivisor.l0 k (x3.set (x9 : Int).toNat (wrap64 (-(rd x3 x9)))) x8 (wrap64 (x9 + 1))) else (none)) else (none)) else (some x3)
def impl_NegateDivisor.f (k : Nat) (l0 : List Int) : Option (List Int) := (impl_copyInts.f l0).bind fun t842 => (impl_NegateDivisor.l0 k t842 (t842.length : Int) 0)
set_option maxHeartbeats 8000000 in
set_option maxRecDepth 100000 in
theorem impl_NegateDivisor.calls (k : Nat) (A0 : Option Addr) (c0 : Nat) (l0 : List Int) (r : List Int) (w : World) (hr0 : Kd.C (Kd.int .i64) w A0 l0.length l0) (hc0 : l0.length ≤ c0) (h : impl_NegateDivisor.f k l0 = some r) :
  Calls Try.prog 88 #[.slice A0 l0.length c0] w fun e w' => ∃ v0_ : Value, e = .returned (v0_) ∧ Kd.R (Kd.int .i64) 3 w' w.heap.size (fun _ => True) v0_ r ∧ Below w.heap.size w w' := by
 have HR0 := Aside0.mk hr0
 have HC0 := Aside0.mk hc0
 clear hr0 hc0
 have HB := Aside0.mk (Below.refl w.heap.size w)
 have H : ((impl_copyInts.f l0).bind fun t842 => (impl_NegateDivisor.l0 k t842 (t842.length : Int) 0)) = some r := h
 clear h
 replace H := Option.bind_eq_some_iff.mp H
 obtain ⟨t842, A20, H⟩ := H
 replace H : (impl_NegateDivisor.l0 k t842 (t842.length : Int) 0) = some r := H
 have A2 := Aside0.mk A20
 clear A20
 have H' := Aside0.mk H
 clear H
 go_enter Try.func88, Try.ntmps88
 go_wp2_with (first | ((with_reducible refine gate_callee (f := 106) rfl ?_); refine goesM_ (some 6) rfl rfl Try.func106 (by kernel_rfl) rfl #[.slice A0 l0.length c0] rfl ?_; (with_reducible refine (impl_copyInts.calls _ _ l0 t842 _ ?side1 ?side2 A2.out).mono ?_); (case side1 => exact Cz (HR0.out)); (case side2 => exact HC0.out); rintro e w3 ⟨v843, rfl, ho0, hb⟩; refine ⟨_, rfl, ?_⟩; have HO844 := Aside0.mk (Kd.R_lower ho0 (below_size (Lz HB))); replace HB := Aside0.mk (below_step (Lz HB) hb); (try clear hb); (try clear ho0); obtain ⟨Ao4, co4, eo4⟩ := Kd.R_slice HO844.out; subst eo4))
 go_loopg [9] k (fun kq v9 w' => ∃ (x3_1 : List Int) (x9_1 : Int), v9 = .int .i64 x9_1 ∧ Aside0 (impl_NegateDivisor.l0 kq x3_1 (t842.length : Int) x9_1 = some r) ∧ Aside0 (kq ≤ k) ∧ Aside0 (Kd.R (Kd.int .i64) 3 w' w.heap.size (fun _ => True) (.slice Ao4 t842.length co4) x3_1) ∧ Aside0 (Below w.heap.size w w'))
 case atStart => exact ⟨(t842), (0), (by first | rfl | (simp; done) | (simp [*]; done)), H', ⟨Nat.le_refl _⟩, ⟨by exact Rz HO844⟩, ⟨by exact Lz HB⟩⟩
 case round =>
  clear H'
  obtain ⟨x3_1, x9_1, rfl, HA, HK1, HO_3, HB⟩ := hrel
  have hl3_1 := (Kd.R_reads' HO_3.out).1
  rw [hl3_1] at HO_3
  (try simp only [hl3_1])
  cases gk with
  | zero => exact absurd HA.out (by simp [impl_NegateDivisor.l0])
  | succ k1 =>
   have H := HA.out
   clear HA
   simp only [impl_NegateDivisor.l0] at H
   by_cases c5 : x9_1 < (t842.length : Int)
   ·rw [if_pos c5] at H
    have c5b0 : decide (x9_1 < (t842.length : Int)) = true := decide_eq_true c5
    (try simp only [hl3_1] at c5b0)
    clear c5
    by_cases c6 : 0 ≤ x9_1
    ·rw [if_pos c6] at H
     have c6b0 : decide (0 ≤ x9_1) = true := decide_eq_true c6
     clear c6
     by_cases c7 : x9_1 < (x3_1.length : Int)
     ·rw [if_pos c7] at H
      have c7b0 : decide (x9_1 < (x3_1.length : Int)) = true := decide_eq_true c7
      (try simp only [hl3_1] at c7b0)
      clear c7
      obtain ⟨y846, hy846⟩ : ∃ y_ : List Int, y_ = (x3_1.set (x9_1 : Int).toNat (wrap64 (-(rd x3_1 x9_1)))) := ⟨_, rfl⟩
      replace H : (impl_NegateDivisor.l0 k1 y846 (t842.length : Int) (wrap64 (x9_1 + 1))) = some r := by first | (rw [hy846]; with_reducible exact H) | (have H2_ := (Option.bind_some _ _).symm.trans H; rw [hy846]; with_reducible exact H2_) | (have H2_ := (Option.bind_some _ _).symm.trans H; with_reducible exact H2_) | with_reducible exact H | (rw [hy846]; exact H) | exact H
      have Ny846 := Aside0.mk hy846
      clear hy846
      have H' := Aside0.mk H
      clear H
      have p845 : 0 ≤ (x9_1 : Int) := of_decide_eq_true (by first | (with_reducible assumption) | assumption)
      have q845 : x9_1 < (x3_1.length : Int) := of_decide_eq_true (by first | (with_reducible assumption) | assumption)
      obtain ⟨ad845, e845, hx845_0⟩ := Kd.at_int (Kd.R_reads' HO_3.out).2.2 x9_1 p845 q845
      cases e845
      replace p845 := eq_true p845
      replace q845 := eq_true q845
      have p8 : 0 ≤ (x9_1 : Int) := of_decide_eq_true (by first | (with_reducible assumption) | assumption)
      have q8 : (x9_1 : Int) < ((x3_1.length : Int) : Int) := of_decide_eq_true (by first | (with_reducible assumption) | assumption)
      obtain ⟨go8, co8, eo8, gb8, gl8, cl8, HG8⟩ := Kd.R_form HO_3.out (by omega)
      (first | cases eo8 | (injection eo8 with ea_ en_ ec_; (first | subst ea_ | (injection ea_ with ea_; subst ea_)); subst ec_; clear en_))
      have GB8 := Aside0.mk gb8
      have GG8 := Aside0.mk HG8
      clear gb8 gl8 HG8
      (first | simp only [add_plain] at hx845_0 | skip)
      obtain ⟨hx8_0, hf8_0⟩ := Kd.R_celln 0 HO_3.out (x9_1 : Int) p8 q8
      replace p8 := eq_true p8
      replace q8 := eq_true q8
      have HP9 := Kd.R_putg HO_3.out (x9_1 : Int) (wrap64 (-(rd x3_1 x9_1)))
      go_wp2_with (first | ((with_reducible refine gate_store (t := 3) (p := 19) rfl ?_); refine store_event (t := 3) (p := 19) (v := ?vo_w10) (w1 := (wr.setCell ⟨go8, (x9_1 : Int).toNat, none⟩ (.int .i64 (wrap64 (-(rd x3_1 x9_1)))))) ?hg ?ho ?hn ?hr ?_; (case ho => rfl); (case hg => rfl); (case hn => rfl); (case hr => first | (go_simp; done) | (go_simp; rfl)); intro w10 hw; have hg : wr.grownBy w10 (some go8) := (by rw [hw]; exact HP9.2); have hp_ : Kd.R (Kd.int .i64) 3 w10 w.heap.size (fun _ => True) (.slice (some ⟨go8, 0, none⟩) x3_1.length co4) y846 := (by rw [hw, Ny846.out]; exact HP9.1); clear HP9; replace HO_3 := Aside0.mk (hp_); replace HB := Aside0.mk ((by rw [hw]; exact below_set (HB.out) GB8.out : Below w.heap.size w w10)); clear hg hw hp_))
      (try simp only [← hl3_1])
      go_roundg k1
      case measure => have := HK1.out; omega
      case rel => exact ⟨(y846), (wrap64 (x9_1 + 1)), (by first | rfl | (simp; done) | (simp [*]; done)), H', ⟨by have := HK1.out; omega⟩, ⟨by (try simp only [hl3_1]); exact Rz HO_3⟩, ⟨by exact Lz HB⟩⟩
     rw [if_neg c7] at H
     exact absurd H (by simp)
    rw [if_neg c6] at H
    exact absurd H (by simp)
   rw [if_neg c5] at H
   have c5b0 : decide (x9_1 < (t842.length : Int)) = false := decide_eq_false c5
   (try simp only [hl3_1] at c5b0)
   clear c5
   obtain rfl := Option.some.inj H
   go_wp2
   go_ret
   exact ⟨_, by first | rfl | (simp [errW_none, errW_some] <;> rfl) | (simp [*, errW_none, errW_some] <;> rfl), by exact Rz HO_3, by exact Lz HB⟩

/-! ### impl_ResidualOf: function 46 -/
def impl_ResidualOf.f (k : Nat) (a0_0 : Int) (l0_1 : List (S68)) (l1 : List Int) : Option (List Int × Bool) := (impl_DivisorOk.f k a0_0 l0_1 l1).bind fun t848 => (if t848 = true then ((impl_CanonicalOf.f k a0_0 l0_1).bind fun t849 => ((impl_NegateDivisor.f k l1).bind fun t852 => ((impl_plus.f k t849 t852).bind fun t855 => (some (t855, true))))) else (some (([] : List Int), false)))
set_option maxHeartbeats 8000000 in
set_option maxRecDepth 100000 in
theorem impl_ResidualOf.calls (k : Nat) (a0_0 : Int) (A0_1 : Option Addr) (c0_1 : Nat) (l0_1 : List (S68)) (A1 : Option Addr) (c1 : Nat) (l1 : List Int) (r1 : List Int) (r2 : Bool) (w : World) (hr0_1 : Kd.C k68 w A0_1 l0_1.length l0_1) (hc0_1 : l0_1.length ≤ c0_1) (hr1 : Kd.C (Kd.int .i64) w A1 l1.length l1) (hc1 : l1.length ≤ c1) (h : impl_ResidualOf.f k a0_0 l0_1 l1 = some (r1, r2)) :
  Calls Try.prog 46 #[.agg #[.int .i64 a0_0, .slice A0_1 l0_1.length c0_1], .slice A1 l1.length c1] w fun e w' => ∃ v0_ : Value, e = .returned (.tuple #[v0_, .bool r2]) ∧ Kd.R (Kd.int .i64) 3 w' w.heap.size (fun _ => True) v0_ r1 ∧ Below w.heap.size w w' := by
 have hu37 := Try.underlying37
 have HR0_1 := Aside0.mk hr0_1
 have HC0_1 := Aside0.mk hc0_1
 clear hr0_1 hc0_1
 have HR1 := Aside0.mk hr1
 have HC1 := Aside0.mk hc1
 clear hr1 hc1
 have HB := Aside0.mk (Below.refl w.heap.size w)
 have H : ((impl_DivisorOk.f k a0_0 l0_1 l1).bind fun t848 => (if t848 = true then ((impl_CanonicalOf.f k a0_0 l0_1).bind fun t849 => ((impl_NegateDivisor.f k l1).bind fun t852 => ((impl_plus.f k t849 t852).bind fun t855 => (some (t855, true))))) else (some (([] : List Int), false)))) = some (r1, r2) := h
 clear h
 replace H := Option.bind_eq_some_iff.mp H
 obtain ⟨t848, A30, H⟩ := H
 replace H : (if t848 = true then ((impl_CanonicalOf.f k a0_0 l0_1).bind fun t849 => ((impl_NegateDivisor.f k l1).bind fun t852 => ((impl_plus.f k t849 t852).bind fun t855 => (some (t855, true))))) else (some (([] : List Int), false))) = some (r1, r2) := H
 have A3 := Aside0.mk A30
 clear A30
 by_cases c4 : t848 = true
 ·subst c4
  have H1 : ((impl_CanonicalOf.f k a0_0 l0_1).bind fun t849 => ((impl_NegateDivisor.f k l1).bind fun t852 => ((impl_plus.f k t849 t852).bind fun t855 => (some (t855, true))))) = some (r1, r2) := by rw [if_pos rfl] at H; exact H
  clear H
  have H := H1
  clear H1
  replace H := Option.bind_eq_some_iff.mp H
  obtain ⟨t849, A50, H⟩ := H
  replace H : ((impl_NegateDivisor.f k l1).bind fun t852 => ((impl_plus.f k t849 t852).bind fun t855 => (some (t855, true)))) = some (r1, r2) := H
  have A5 := Aside0.mk A50
  clear A50
  replace H := Option.bind_eq_some_iff.mp H
  obtain ⟨t852, A60, H⟩ := H
  replace H : ((impl_plus.f k t849 t852).bind fun t855 => (some (t855, true))) = some (r1, r2) := H
  have A6 := Aside0.mk A60
  clear A60
  replace H := Option.bind_eq_some_iff.mp H
  obtain ⟨t855, A70, H⟩ := H
  replace H : (some (t855, true)) = some (r1, r2) := H
  have A7 := Aside0.mk A70
  clear A70
  simp only [Option.some.injEq, Prod.mk.injEq] at H
  obtain ⟨rfl, rfl⟩ := H
  go_enter Try.func46, Try.ntmps46
  go_wp2_with (first | ((with_reducible refine gate_dst (N := 2) rfl ?_); refine box_event ?hg (N := 2) ?hd (cs := #[.int .i64 a0_0, .slice A0_1 l0_1.length c0_1]) (t := 37) ?hr ?_; (case hd => rfl); (case hg => rfl); (case hr => first | (go_simp; done) | (go_simp; rfl)); intro gb847 hg w8 hbox hb; have BK847 := Aside0.mk (hbox); have GW847 := Aside0.mk ((by rw [hg]; exact (below_size (Lz HB)) : w.heap.size ≤ gb847)); have GE847 := Aside0.mk ((by rw [hg]; exact (below_size (Lz HB)) : w.heap.size ≤ gb847)); replace HB := Aside0.mk (below_step (Lz HB) hb); clear hb hbox hg; have hcz9_0 : w8.cell? ⟨gb847, 0, none⟩ = some (.int .i64 a0_0) := (blk_cell BK847.out 0).trans rfl; have hcz9_1 : w8.cell? ⟨gb847, 1, none⟩ = some (.slice A0_1 l0_1.length c0_1) := (blk_cell BK847.out 1).trans rfl; have hfz9_0 := blk_frozen BK847.out 0; have hfz9_1 := blk_frozen BK847.out 1) | ((with_reducible refine gate_callee (f := 81) rfl ?_); refine goesM_ (some 8) rfl rfl Try.func81 (by kernel_rfl) rfl #[.agg #[.int .i64 a0_0, .slice A0_1 l0_1.length c0_1], .slice A1 l1.length c1] rfl ?_; (with_reducible refine (impl_DivisorOk.calls k a0_0 _ _ l0_1 _ _ l1 true _ ?side1 ?side2 ?side3 ?side4 A3.out).mono ?_); (case side1 => exact Cz ((Kd.C_below HR0_1.out HB.out))); (case side2 => exact HC0_1.out); (case side3 => exact Cz ((Kd.C_below HR1.out HB.out))); (case side4 => exact HC1.out); rintro e w10 ⟨rfl, hb⟩; refine ⟨_, rfl, ?_⟩; replace BK847 := Aside0.mk (blk_below (g := gb847) (o := .cells #[.int .i64 a0_0, .slice A0_1 l0_1.length c0_1] 37 (0, 0)) (Bz BK847) hb); replace HB := Aside0.mk (below_step (by exact Lz1 HB GE847) hb); (try clear hb); (try clear hb2); (try clear hk); (try clear hi); have hcz11_0 : w10.cell? ⟨gb847, 0, none⟩ = some (.int .i64 a0_0) := (blk_cell BK847.out 0).trans rfl; have hcz11_1 : w10.cell? ⟨gb847, 1, none⟩ = some (.slice A0_1 l0_1.length c0_1) := (blk_cell BK847.out 1).trans rfl; have hfz11_0 := blk_frozen BK847.out 0; have hfz11_1 := blk_frozen BK847.out 1) | ((with_reducible refine gate_callee (f := 32) rfl ?_); refine goesM_ (some 11) rfl rfl Try.func32 (by kernel_rfl) rfl #[.agg #[.int .i64 a0_0, .slice A0_1 l0_1.length c0_1]] rfl ?_; (with_reducible refine (impl_CanonicalOf.calls k a0_0 _ _ l0_1 t849 _ ?side1 ?side2 A5.out).mono ?_); (case side1 => exact Cz ((Kd.C_below HR0_1.out HB.out))); (case side2 => exact HC0_1.out); rintro e w12 ⟨v850, rfl, ho0, hb⟩; refine ⟨_, rfl, ?_⟩; have HO851 := Aside0.mk (Kd.R_lower ho0 (below_size (by exact Lz1 HB GE847))); replace BK847 := Aside0.mk (blk_below (g := gb847) (o := .cells #[.int .i64 a0_0, .slice A0_1 l0_1.length c0_1] 37 (0, 0)) (Bz BK847) hb); replace HB := Aside0.mk (below_step (by exact Lz1 HB GE847) hb); (try clear hb); (try clear ho0)) | ((with_reducible refine gate_callee (f := 88) rfl ?_); refine goesM_ (some 13) rfl rfl Try.func88 (by kernel_rfl) rfl #[.slice A1 l1.length c1] rfl ?_; (with_reducible refine (impl_NegateDivisor.calls k _ _ l1 t852 _ ?side1 ?side2 A6.out).mono ?_); (case side1 => exact Cz ((Kd.C_below HR1.out HB.out))); (case side2 => exact HC1.out); rintro e w13 ⟨v853, rfl, ho0, hb⟩; refine ⟨_, rfl, ?_⟩; have HO854 := Aside0.mk (Kd.R_lower (Kd.R_new' ho0 (Kd.R_lt (Rz HO851))) (below_size (by exact Lz1 HB GE847))); replace HO851 := Aside0.mk (Kd.R_elder' (Rz HO851) (Kd.R_base ho0) hb); replace BK847 := Aside0.mk (blk_below (g := gb847) (o := .cells #[.int .i64 a0_0, .slice A0_1 l0_1.length c0_1] 37 (0, 0)) (Bz BK847) hb); replace HB := Aside0.mk (below_step (by exact Lz1 HB GE847) hb); (try clear hb); (try clear ho0); obtain ⟨Ao14, co14, eo14⟩ := Kd.R_slice HO851.out; subst eo14; obtain ⟨Ao15, co15, eo15⟩ := Kd.R_slice HO854.out; subst eo15) | ((with_reducible refine gate_callee (f := 87) rfl ?_); refine goesM_ (some 14) rfl rfl Try.func87 (by kernel_rfl) rfl #[.slice Ao14 t849.length co14, .slice Ao15 t852.length co15] rfl ?_; (with_reducible refine (impl_plus.calls k _ _ t849 _ _ t852 t855 _ ?side1 ?side2 ?side3 ?side4 A7.out).mono ?_); (case side1 => exact Cz ((Kd.R_reads' HO851.out).2.2)); (case side2 => exact (Kd.R_reads' HO851.out).2.1); (case side3 => exact Cz ((Kd.R_reads' HO854.out).2.2)); (case side4 => exact (Kd.R_reads' HO854.out).2.1); rintro e w16 ⟨v856, rfl, ho0, hb⟩; refine ⟨_, rfl, ?_⟩; have HO857 := Aside0.mk (Kd.R_lower (Kd.R_new' (Kd.R_new' ho0 (Kd.R_lt (Rz HO851))) (Kd.R_lt (Rz HO854))) (below_size (by exact Lz1 HB GE847))); replace HO851 := Aside0.mk (Kd.R_elder' (Rz HO851) (Kd.R_base ho0) hb); replace HO854 := Aside0.mk (Kd.R_elder' (Rz HO854) (Kd.R_base ho0) hb); replace BK847 := Aside0.mk (blk_below (g := gb847) (o := .cells #[.int .i64 a0_0, .slice A0_1 l0_1.length c0_1] 37 (0, 0)) (Bz BK847) hb); replace HB := Aside0.mk (below_step (by exact Lz1 HB GE847) hb); (try clear hb); (try clear ho0)))
  go_ret2
  exact ⟨_, by first | rfl | (simp [errW_none, errW_some] <;> rfl) | (simp [*, errW_none, errW_some] <;> rfl), by (with_reducible repeat (first | apply Kd.R_alloc | apply Kd.R_drewN | apply Kd.R_drew)); exact Kd.R_mono HO857.out (fun _ hk => trivial), by exact Lz1 HB GE847⟩
 replace c4 := Bool.eq_false_iff.mpr c4
 subst c4
 have H1 : (some (([] : List Int), false)) = some (r1, r2) := by rw [if_neg (show ¬ (false = true) by decide)] at H; exact H
 clear H
 have H := H1
 clear H1
 simp only [Option.some.injEq, Prod.mk.injEq] at H
 obtain ⟨rfl, rfl⟩ := H
 go_enter Try.func46, Try.ntmps46
 go_wp2_with (first | ((with_reducible refine gate_dst (N := 2) rfl ?_); refine box_event ?hg (N := 2) ?hd (cs := #[.int .i64 a0_0, .slice A0_1 l0_1.length c0_1]) (t := 37) ?hr ?_; (case hd => rfl); (case hg => rfl); (case hr => first | (go_simp; done) | (go_simp; rfl)); intro gb847 hg w17 hbox hb; have BK847 := Aside0.mk (hbox); have GW847 := Aside0.mk ((by rw [hg]; exact (below_size (Lz HB)) : w.heap.size ≤ gb847)); have GE847 := Aside0.mk ((by rw [hg]; exact (below_size (Lz HB)) : w.heap.size ≤ gb847)); replace HB := Aside0.mk (below_step (Lz HB) hb); clear hb hbox hg; have hcz18_0 : w17.cell? ⟨gb847, 0, none⟩ = some (.int .i64 a0_0) := (blk_cell BK847.out 0).trans rfl; have hcz18_1 : w17.cell? ⟨gb847, 1, none⟩ = some (.slice A0_1 l0_1.length c0_1) := (blk_cell BK847.out 1).trans rfl; have hfz18_0 := blk_frozen BK847.out 0; have hfz18_1 := blk_frozen BK847.out 1) | ((with_reducible refine gate_callee (f := 81) rfl ?_); refine goesM_ (some 8) rfl rfl Try.func81 (by kernel_rfl) rfl #[.agg #[.int .i64 a0_0, .slice A0_1 l0_1.length c0_1], .slice A1 l1.length c1] rfl ?_; (with_reducible refine (impl_DivisorOk.calls k a0_0 _ _ l0_1 _ _ l1 false _ ?side1 ?side2 ?side3 ?side4 A3.out).mono ?_); (case side1 => exact Cz ((Kd.C_below HR0_1.out HB.out))); (case side2 => exact HC0_1.out); (case side3 => exact Cz ((Kd.C_below HR1.out HB.out))); (case side4 => exact HC1.out); rintro e w19 ⟨rfl, hb⟩; refine ⟨_, rfl, ?_⟩; replace BK847 := Aside0.mk (blk_below (g := gb847) (o := .cells #[.int .i64 a0_0, .slice A0_1 l0_1.length c0_1] 37 (0, 0)) (Bz BK847) hb); replace HB := Aside0.mk (below_step (by exact Lz1 HB GE847) hb); (try clear hb); (try clear hb2); (try clear hk); (try clear hi)))
 go_ret2
 exact ⟨_, by first | rfl | (simp [errW_none, errW_some] <;> rfl) | (simp [*, errW_none, errW_some] <;> rfl), by first | exact Kd.R_nil _ _ _ _ _ | exact Kd.N_nil _ _ _ _ _ | exact Kd.V_nil _ _ _ _ _ | exact Kd.Q_nil _ _ _ _ _ | exact Kd.S_nil _ _ _ _ _, by exact Lz1 HB GE847⟩

/-! ### laws_FnExactResidualOf: function 11 -/
mutual
def laws_FnExactResidualOf.j0 : Nat → List Int → Int → List (S86) → Option (Bool)
 | 0, _, _, _ => none
 | k + 1, x1, x859000, x859001 => (laws_szGraph.f x859000 x859001 1048576).bind fun t859 => (if t859 < 0 then (some true) else (laws_FnExactResidualOf.j1 k x1 x859000 x859001))
def laws_FnExactResidualOf.j1 : Nat → List Int → Int → List (S86) → Option (Bool)
 | 0, _, _, _ => none
 | k + 1, x1, x859000, x859001 => (laws_toGraph.f k x859000 x859001).bind fun bt860 => ((laws_toIntS.f k x1).bind fun t864 => ((spec_ResidualOf.f k bt860.1 bt860.2 t864).bind fun bt867 => ((laws_toGraph.f k x859000 x859001).bind fun bt871 => ((laws_toIntS.f k x1).bind fun t876 => ((impl_ResidualOf.f k bt871.1 bt871.2 t876).bind fun bt879 => ((laws_eqIntS.f k bt879.1 bt867.1).bind fun t883 => (if t883 = true then (laws_FnExactResidualOf.j2 k x1 bt867.1 bt867.2 t876 bt879.1 bt879.2 (bt879.2 != bt867.2) x859000 x859001 bt871.1 bt871.2) else (laws_FnExactResidualOf.j2 k x1 bt867.1 bt867.2 t876 bt879.1 bt879.2 true x859000 x859001 bt871.1 bt871.2))))))))
def laws_FnExactResidualOf.j2 : Nat → List Int → List Int → Bool → List Int → List Int → Bool → Bool → Int → List (S86) → Int → List (S68) → Option (Bool)
 | 0, _, _, _, _, _, _, _, _, _, _, _ => none
 | k + 1, x1, x6, x7, x9, x10, x11, x51, x859000, x859001, x876000, x876001 => if x51 = true then (some false) else (laws_FnExactResidualOf.j3 k x1 x6 x7 x9 x10 x11 x859000 x859001 x876000 x876001)
def laws_FnExactResidualOf.j3 : Nat → List Int → List Int → Bool → List Int → List Int → Bool → Int → List (S86) → Int → List (S68) → Option (Bool)
 | 0, _, _, _, _, _, _, _, _, _, _ => none
 | k + 1, x1, x6, x7, x9, x10, x11, x859000, x859001, x876000, x876001 => (laws_toGraph.f k x859000 x859001).bind fun bt884 => ((laws_eqGraph.f k x876000 x876001 bt884.1 bt884.2).bind fun t888 => (if t888 = true then (laws_FnExactResidualOf.j4 k x1 x6 x7 x9 x10 x11 x859000 x859001 x876000 x876001) else (some false)))
def laws_FnExactResidualOf.j4 : Nat → List Int → List Int → Bool → List Int → List Int → Bool → Int → List (S86) → Int → List (S68) → Option (Bool)
 | 0, _, _, _, _, _, _, _, _, _, _ => none
 | k + 1, x1, x6, x7, x9, x10, x11, x859000, x859001, x876000, x876001 => (laws_toIntS.f k x1).bind fun t889 => ((laws_eqIntS.f k x9 t889).bind fun t892 => (if t892 = true then (laws_FnExactResidualOf.j5 k x1 x6 x7 x9 x10 x11 x859000 x859001 x876000 x876001) else (some false)))
def laws_FnExactResidualOf.j5 : Nat → List Int → List Int → Bool → List Int → List Int → Bool → Int → List (S86) → Int → List (S68) → Option (Bool)
 | 0, _, _, _, _, _, _, _, _, _, _ => none
 | k + 1, x1, x6, x7, x9, x10, x11, x859000, x859001, x876000, x876001 => (laws_markGraph.f k x876000 x876001 1).bind fun bt893 => ((laws_markIntS.f k x9 bt893.1).bind fun bt895 => (if bt895.1 < 0 then (laws_FnExactResidualOf.j6 k x1 x6 x7 x10 true x859000 x859001) else ((laws_eqIntS.f k x10 x6).bind fun t897 => (if t897 = true then (laws_FnExactResidualOf.j6 k x1 x6 x7 x10 (x11 != x7) x859000 x859001) else (laws_FnExactResidualOf.j6 k x1 x6 x7 x10 true x859000 x859001)))))
def laws_FnExactResidualOf.j6 : Nat → List Int → List Int → Bool → List Int → Bool → Int → List (S86) → Option (Bool)
 | 0, _, _, _, _, _, _, _ => none
 | k + 1, x1, x6, x7, x10, x80, x859000, x859001 => if x80 = true then (some false) else (laws_FnExactResidualOf.j7 k x1 x6 x7 x10 x859000 x859001)
def laws_FnExactResidualOf.j7 : Nat → List Int → List Int → Bool → List Int → Int → List (S86) → Option (Bool)
 | 0, _, _, _, _, _, _ => none
 | k + 1, x1, x6, x7, x10, x859000, x859001 => (laws_markIntS.f k x10 1).bind fun bt898 => ((laws_heldIntS.f k bt898.2 1).bind fun t900 => (if t900 < 0 then (some false) else (laws_FnExactResidualOf.j8 k x1 x6 x7 bt898.2 bt898.1 t900 x859000 x859001)))
def laws_FnExactResidualOf.j8 : Nat → List Int → List Int → Bool → List Int → Int → Int → Int → List (S86) → Option (Bool)
 | 0, _, _, _, _, _, _, _, _ => none
 | k + 1, x1, x6, x7, x10, x13, x14, x859000, x859001 => if x14 = x13 then (laws_FnExactResidualOf.j9 k x1 x6 x7 x10 x13 x859000 x859001) else (some false)
def laws_FnExactResidualOf.j9 : Nat → List Int → List Int → Bool → List Int → Int → Int → List (S86) → Option (Bool)
 | 0, _, _, _, _, _, _, _ => none
 | k + 1, x1, x6, x7, x10, x13, x859000, x859001 => (laws_toGraph.f k x859000 x859001).bind fun bt901 => ((laws_toIntS.f k x1).bind fun t905 => ((impl_ResidualOf.f k bt901.1 bt901.2 t905).bind fun bt908 => ((laws_eqIntS.f k bt908.1 x6).bind fun t912 => (if t912 = true then (laws_FnExactResidualOf.j10 k x10 x13 (bt908.2 != x7)) else (laws_FnExactResidualOf.j10 k x10 x13 true)))))
def laws_FnExactResidualOf.j10 : Nat → List Int → Int → Bool → Option (Bool)
 | 0, _, _, _ => none
 | k + 1, x10, x13, x108 => if x108 = true then (some false) else (laws_FnExactResidualOf.j11 k x10 x13)
def laws_FnExactResidualOf.j11 : Nat → List Int → Int → Option (Bool)
 | 0, _, _ => none
 | k + 1, x10, x13 => (laws_heldIntS.f k x10 1).bind fun t913 => (if t913 < 0 then (some false) else (laws_FnExactResidualOf.j12 k x13 t913))
def laws_FnExactResidualOf.j12 : Nat → Int → Int → Option (Bool)
 | 0, _, _ => none
 | k + 1, x13, x14 => if x14 = x13 then (some true) else (some false)
end
def laws_FnExactResidualOf.f (k : Nat) (a0_0 : Int) (l0_1 : List (S86)) (l1 : List Int) : Option (Bool) := if (l1.length : Int) > 1048576 then (some true) else (laws_FnExactResidualOf.j0 k l1 a0_0 l0_1)
set_option maxHeartbeats 8000000 in
set_option maxRecDepth 100000 in
theorem laws_FnExactResidualOf.calls (k : Nat) (a0_0 : Int) (A0_1 : Option Addr) (c0_1 : Nat) (l0_1 : List (S86)) (A1 : Option Addr) (c1 : Nat) (l1 : List Int) (r : Bool) (w : World) (hr0_1 : Kd.C k86 w A0_1 l0_1.length l0_1) (hc0_1 : l0_1.length ≤ c0_1) (hr1 : Kd.C (Kd.int .i64) w A1 l1.length l1) (hc1 : l1.length ≤ c1) (h : laws_FnExactResidualOf.f k a0_0 l0_1 l1 = some r) :
  Calls Try.prog 11 #[.agg #[.int .i64 a0_0, .slice A0_1 l0_1.length c0_1], .slice A1 l1.length c1] w fun e w' => e = .returned (.bool r) ∧ Below w.heap.size w w' := by
 have hu33 := Try.underlying33
 have hu37 := Try.underlying37
 have HR0_1 := Aside0.mk hr0_1
 have HC0_1 := Aside0.mk hc0_1
 clear hr0_1 hc0_1
 have HR1 := Aside0.mk hr1
 have HC1 := Aside0.mk hc1
 clear hr1 hc1
 have HB := Aside0.mk (Below.refl w.heap.size w)
 have H : (if (l1.length : Int) > 1048576 then (some true) else (laws_FnExactResidualOf.j0 k l1 a0_0 l0_1)) = some r := h
 clear h
 have HC3 := Aside0.mk H
 clear H
 go_enter Try.func11, Try.ntmps11
 go_upto_if 19 with (first | ((with_reducible refine gate_dst (N := 2) rfl ?_); refine box_event ?hg (N := 2) ?hd (cs := #[.int .i64 a0_0, .slice A0_1 l0_1.length c0_1]) (t := 33) ?hr ?_; (case hd => rfl); (case hg => rfl); (case hr => first | (go_simp; done) | (go_simp; rfl)); intro gb858 hg w4 hbox hb; have BK858 := Aside0.mk (hbox); have GW858 := Aside0.mk ((by rw [hg]; exact (below_size (Lz HB)) : w.heap.size ≤ gb858)); have GE858 := Aside0.mk ((by rw [hg]; exact (below_size (Lz HB)) : w.heap.size ≤ gb858)); replace HB := Aside0.mk (below_step (Lz HB) hb); clear hb hbox hg))
 (try simp only [Act.put, List.setIfInBounds_toArray, List.set_cons_zero, List.set_cons_succ])
 go_cut [] (fun wc => ∃ (kq : Nat), Aside0 (laws_FnExactResidualOf.j0 kq l1 a0_0 l0_1 = some r) ∧ Aside0 (kq ≤ k) ∧ Aside0 (wc.heap[gb858]? = some (.cells #[.int .i64 a0_0, (.slice A0_1 l0_1.length c0_1)] 33 (0, 0))) ∧ Aside0 (Below w.heap.size w wc))
 case first =>
  have H := HC3.out
  clear HC3
  by_cases c5 : (l1.length : Int) > 1048576
  ·rw [if_pos c5] at H
   have c5b0 : decide (1048576 < (l1.length : Int)) = true := decide_eq_true c5
   (try simp only [hl876001_57, hl10_73] at c5b0)
   have c5b1 : decide (1048576 < l1.length) = true := decide_eq_true (by omega)
   (try simp only [hl876001_57, hl10_73] at c5b1)
   clear c5
   (first | rw [c5b0] | (simp only [i64_w, i32_w]; rw [c5b0]) | skip)
   obtain rfl := Option.some.inj H
   go_wp2
   go_ret
   exact ⟨by first | rfl | (simp [errW_none, errW_some] <;> rfl) | (simp [*, errW_none, errW_some] <;> rfl), by exact Lz1 HB GE858⟩
  rw [if_neg c5] at H
  have c5b0 : decide (1048576 < (l1.length : Int)) = false := decide_eq_false c5
  (try simp only [hl876001_57, hl10_73] at c5b0)
  have c5b1 : decide (1048576 < l1.length) = false := decide_eq_false (by omega)
  (try simp only [hl876001_57, hl10_73] at c5b1)
  clear c5
  (first | rw [c5b0] | (simp only [i64_w, i32_w]; rw [c5b0]) | skip)
  have H' := Aside0.mk H
  clear H
  go_wp2
  go_meet
  case rel => exact ⟨_, H', ⟨by first | omega | exact Nat.le_refl _⟩, ⟨by exact Bz BK858⟩, ⟨by exact Lz1 HB GE858⟩⟩
 case rest =>
  clear HC3
  try clear c1
  try clear c5
  try clear c5b0
  try clear c5b1
  obtain ⟨kq, HA, HJ2, BK858, HB⟩ := hcut
  cases kq with
  | zero => exact absurd HA.out (by simp [laws_FnExactResidualOf.j0])
  | succ kj2 =>
   have H := HA.out
   clear HA
   simp only [laws_FnExactResidualOf.j0] at H
   replace H := Option.bind_eq_some_iff.mp H
   obtain ⟨t859, A60, H⟩ := H
   replace H : (if t859 < 0 then (some true) else (laws_FnExactResidualOf.j1 kj2 l1 a0_0 l0_1)) = some r := H
   have A6 := Aside0.mk A60
   clear A60
   have HC7 := Aside0.mk H
   clear H
   have hcz8_0 : wc.cell? ⟨gb858, 0, none⟩ = some (.int .i64 a0_0) := (blk_cell BK858.out 0).trans rfl
   have hcz8_1 : wc.cell? ⟨gb858, 1, none⟩ = some (.slice A0_1 l0_1.length c0_1) := (blk_cell BK858.out 1).trans rfl
   have hfz8_0 := blk_frozen BK858.out 0
   have hfz8_1 := blk_frozen BK858.out 1
   go_upto_if 24 with (first | ((with_reducible refine gate_callee (f := 24) rfl ?_); refine goesM_ (some 22) rfl rfl Try.func24 (by kernel_rfl) rfl #[.agg #[.int .i64 a0_0, .slice A0_1 l0_1.length c0_1], .int .i64 1048576] rfl ?_; (with_reducible refine (laws_szGraph.calls a0_0 _ _ l0_1 1048576 t859 _ ?side1 ?side2 A6.out).mono ?_); (case side1 => exact Cz ((Kd.C_below HR0_1.out HB.out))); (case side2 => exact HC0_1.out); rintro e w9 ⟨rfl, hb⟩; refine ⟨_, rfl, ?_⟩; replace BK858 := Aside0.mk (blk_below (g := gb858) (o := .cells #[.int .i64 a0_0, .slice A0_1 l0_1.length c0_1] 33 (0, 0)) (Bz BK858) hb); replace HB := Aside0.mk (below_step (by exact Lz1 HB GE858) hb); (try clear hb); (try clear hb2); (try clear hk); (try clear hi)))
   (try simp only [Act.put, List.setIfInBounds_toArray, List.set_cons_zero, List.set_cons_succ])
   go_cut [] (fun wc => ∃ (kq : Nat), Aside0 (laws_FnExactResidualOf.j1 kq l1 a0_0 l0_1 = some r) ∧ Aside0 (kq ≤ kj2) ∧ Aside0 (wc.heap[gb858]? = some (.cells #[.int .i64 a0_0, (.slice A0_1 l0_1.length c0_1)] 33 (0, 0))) ∧ Aside0 (Below w.heap.size w wc))
   case first =>
    have H := HC7.out
    clear HC7
    by_cases c10 : t859 < 0
    ·rw [if_pos c10] at H
     have c10b0 : decide (t859 < 0) = true := decide_eq_true c10
     clear c10
     (first | rw [c10b0] | (simp only [i64_w, i32_w]; rw [c10b0]) | skip)
     obtain rfl := Option.some.inj H
     go_wp2
     go_ret
     exact ⟨by first | rfl | (simp [errW_none, errW_some] <;> rfl) | (simp [*, errW_none, errW_some] <;> rfl), by exact Lz1 HB GE858⟩
    rw [if_neg c10] at H
    have c10b0 : decide (t859 < 0) = false := decide_eq_false c10
    clear c10
    (first | rw [c10b0] | (simp only [i64_w, i32_w]; rw [c10b0]) | skip)
    have H' := Aside0.mk H
    clear H
    go_wp2
    go_meet
    case rel => exact ⟨_, H', ⟨by have := HJ2.out; first | omega | exact Nat.le_refl _⟩, ⟨by exact Bz BK858⟩, ⟨by exact Lz1 HB GE858⟩⟩
   case rest =>
    clear HC7
    try clear c1
    try clear c5
    try clear c5b0
    try clear c5b1
    try clear c10
    try clear c10b0
    obtain ⟨kq, HA, HJ6, BK858, HB⟩ := hcut
    cases kq with
    | zero => exact absurd HA.out (by simp [laws_FnExactResidualOf.j1])
    | succ kj6 =>
     have H := HA.out
     clear HA
     simp only [laws_FnExactResidualOf.j1] at H
     replace H := Option.bind_eq_some_iff.mp H
     obtain ⟨⟨t860, t861⟩, A110, H⟩ := H
     replace H : ((laws_toIntS.f kj6 l1).bind fun t864 => ((spec_ResidualOf.f kj6 t860 t861 t864).bind fun bt867 => ((laws_toGraph.f kj6 a0_0 l0_1).bind fun bt871 => ((laws_toIntS.f kj6 l1).bind fun t876 => ((impl_ResidualOf.f kj6 bt871.1 bt871.2 t876).bind fun bt879 => ((laws_eqIntS.f kj6 bt879.1 bt867.1).bind fun t883 => (if t883 = true then (laws_FnExactResidualOf.j2 kj6 l1 bt867.1 bt867.2 t876 bt879.1 bt879.2 (bt879.2 != bt867.2) a0_0 l0_1 bt871.1 bt871.2) else (laws_FnExactResidualOf.j2 kj6 l1 bt867.1 bt867.2 t876 bt879.1 bt879.2 true a0_0 l0_1 bt871.1 bt871.2)))))))) = some r := H
     have A11 := Aside0.mk A110
     clear A110
     replace H := Option.bind_eq_some_iff.mp H
     obtain ⟨t864, A120, H⟩ := H
     replace H : ((spec_ResidualOf.f kj6 t860 t861 t864).bind fun bt867 => ((laws_toGraph.f kj6 a0_0 l0_1).bind fun bt871 => ((laws_toIntS.f kj6 l1).bind fun t876 => ((impl_ResidualOf.f kj6 bt871.1 bt871.2 t876).bind fun bt879 => ((laws_eqIntS.f kj6 bt879.1 bt867.1).bind fun t883 => (if t883 = true then (laws_FnExactResidualOf.j2 kj6 l1 bt867.1 bt867.2 t876 bt879.1 bt879.2 (bt879.2 != bt867.2) a0_0 l0_1 bt871.1 bt871.2) else (laws_FnExactResidualOf.j2 kj6 l1 bt867.1 bt867.2 t876 bt879.1 bt879.2 true a0_0 l0_1 bt871.1 bt871.2))))))) = some r := H
     have A12 := Aside0.mk A120
     clear A120
     replace H := Option.bind_eq_some_iff.mp H
     obtain ⟨⟨t867, t870⟩, A130, H⟩ := H
     replace H : ((laws_toGraph.f kj6 a0_0 l0_1).bind fun bt871 => ((laws_toIntS.f kj6 l1).bind fun t876 => ((impl_ResidualOf.f kj6 bt871.1 bt871.2 t876).bind fun bt879 => ((laws_eqIntS.f kj6 bt879.1 t867).bind fun t883 => (if t883 = true then (laws_FnExactResidualOf.j2 kj6 l1 t867 t870 t876 bt879.1 bt879.2 (bt879.2 != t870) a0_0 l0_1 bt871.1 bt871.2) else (laws_FnExactResidualOf.j2 kj6 l1 t867 t870 t876 bt879.1 bt879.2 true a0_0 l0_1 bt871.1 bt871.2)))))) = some r := H
     have A13 := Aside0.mk A130
     clear A130
     replace H := Option.bind_eq_some_iff.mp H
     obtain ⟨⟨t871, t872⟩, A140, H⟩ := H
     replace H : ((laws_toIntS.f kj6 l1).bind fun t876 => ((impl_ResidualOf.f kj6 t871 t872 t876).bind fun bt879 => ((laws_eqIntS.f kj6 bt879.1 t867).bind fun t883 => (if t883 = true then (laws_FnExactResidualOf.j2 kj6 l1 t867 t870 t876 bt879.1 bt879.2 (bt879.2 != t870) a0_0 l0_1 t871 t872) else (laws_FnExactResidualOf.j2 kj6 l1 t867 t870 t876 bt879.1 bt879.2 true a0_0 l0_1 t871 t872))))) = some r := H
     have A14 := Aside0.mk A140
     clear A140
     replace H := Option.bind_eq_some_iff.mp H
     obtain ⟨t876, A150, H⟩ := H
     replace H : ((impl_ResidualOf.f kj6 t871 t872 t876).bind fun bt879 => ((laws_eqIntS.f kj6 bt879.1 t867).bind fun t883 => (if t883 = true then (laws_FnExactResidualOf.j2 kj6 l1 t867 t870 t876 bt879.1 bt879.2 (bt879.2 != t870) a0_0 l0_1 t871 t872) else (laws_FnExactResidualOf.j2 kj6 l1 t867 t870 t876 bt879.1 bt879.2 true a0_0 l0_1 t871 t872)))) = some r := H
     have A15 := Aside0.mk A150
     clear A150
     replace H := Option.bind_eq_some_iff.mp H
     obtain ⟨⟨t879, t882⟩, A160, H⟩ := H
     replace H : ((laws_eqIntS.f kj6 t879 t867).bind fun t883 => (if t883 = true then (laws_FnExactResidualOf.j2 kj6 l1 t867 t870 t876 t879 t882 (t882 != t870) a0_0 l0_1 t871 t872) else (laws_FnExactResidualOf.j2 kj6 l1 t867 t870 t876 t879 t882 true a0_0 l0_1 t871 t872))) = some r := H
     have A16 := Aside0.mk A160
     clear A160
     have HC17 := Aside0.mk H
     clear H
     have hcz18_0 : wc.cell? ⟨gb858, 0, none⟩ = some (.int .i64 a0_0) := (blk_cell BK858.out 0).trans rfl
     have hcz18_1 : wc.cell? ⟨gb858, 1, none⟩ = some (.slice A0_1 l0_1.length c0_1) := (blk_cell BK858.out 1).trans rfl
     have hfz18_0 := blk_frozen BK858.out 0
     have hfz18_1 := blk_frozen BK858.out 1
     go_upto_region 11 with (first | ((with_reducible refine gate_callee (f := 26) rfl ?_); refine goesM_ (some 27) rfl rfl Try.func26 (by kernel_rfl) rfl #[.agg #[.int .i64 a0_0, .slice A0_1 l0_1.length c0_1]] rfl ?_; (with_reducible refine (laws_toGraph.calls kj6 a0_0 _ _ l0_1 t860 t861 _ ?side1 ?side2 A11.out).mono ?_); (case side1 => exact Cz ((Kd.C_below HR0_1.out HB.out))); (case side2 => exact HC0_1.out); rintro e w19 ⟨v862, rfl, ho0, hb⟩; refine ⟨_, rfl, ?_⟩; have HO863 := Aside0.mk (Kd.R_lower ho0 (below_size (by exact Lz1 HB GE858))); replace BK858 := Aside0.mk (blk_below (g := gb858) (o := .cells #[.int .i64 a0_0, .slice A0_1 l0_1.length c0_1] 33 (0, 0)) (Bz BK858) hb); replace HB := Aside0.mk (below_step (by exact Lz1 HB GE858) hb); (try clear hb); (try clear ho0)) | ((with_reducible refine gate_callee (f := 36) rfl ?_); refine goesM_ (some 29) rfl rfl Try.func36 (by kernel_rfl) rfl #[.slice A1 l1.length c1] rfl ?_; (with_reducible refine (laws_toIntS.calls kj6 _ _ l1 t864 _ ?side1 ?side2 A12.out).mono ?_); (case side1 => exact Cz ((Kd.C_below HR1.out HB.out))); (case side2 => exact HC1.out); rintro e w20 ⟨v865, rfl, ho0, hb⟩; refine ⟨_, rfl, ?_⟩; replace HO863 := Aside0.mk (Kd.R_below (Rz HO863) hb); have HO866 := Aside0.mk (Kd.R_lower ho0 (below_size (by exact Lz1 HB GE858))); replace BK858 := Aside0.mk (blk_below (g := gb858) (o := .cells #[.int .i64 a0_0, .slice A0_1 l0_1.length c0_1] 33 (0, 0)) (Bz BK858) hb); replace HB := Aside0.mk (below_step (by exact Lz1 HB GE858) hb); (try clear hb); (try clear ho0); obtain ⟨Ao21, co21, eo21⟩ := Kd.R_slice HO863.out; subst eo21; obtain ⟨Ao22, co22, eo22⟩ := Kd.R_slice HO866.out; subst eo22) | ((with_reducible refine gate_callee (f := 45) rfl ?_); refine goesM_ (some 30) rfl rfl Try.func45 (by kernel_rfl) rfl #[.agg #[.int .i64 t860, .slice Ao21 t861.length co21], .slice Ao22 t864.length co22] rfl ?_; (with_reducible refine (spec_ResidualOf.calls kj6 t860 _ _ t861 _ _ t864 t867 t870 _ ?side1 ?side2 ?side3 ?side4 A13.out).mono ?_); (case side1 => exact Cz ((Kd.R_reads' HO863.out).2.2)); (case side2 => exact (Kd.R_reads' HO863.out).2.1); (case side3 => exact Cz ((Kd.R_reads' HO866.out).2.2)); (case side4 => exact (Kd.R_reads' HO866.out).2.1); rintro e w23 ⟨v868, rfl, ho0, hb⟩; refine ⟨_, rfl, ?_⟩; replace HO863 := Aside0.mk (Kd.R_below (Rz HO863) hb); have HO869 := Aside0.mk (Kd.R_lower (Kd.R_new' ho0 (Kd.R_lt (Rz HO866))) (below_size (by exact Lz1 HB GE858))); replace HO866 := Aside0.mk (Kd.R_elder' (Rz HO866) (Kd.R_base ho0) hb); replace BK858 := Aside0.mk (blk_below (g := gb858) (o := .cells #[.int .i64 a0_0, .slice A0_1 l0_1.length c0_1] 33 (0, 0)) (Bz BK858) hb); replace HB := Aside0.mk (below_step (by exact Lz1 HB GE858) hb); (try clear hb); (try clear ho0); have hcz24_0 : w23.cell? ⟨gb858, 0, none⟩ = some (.int .i64 a0_0) := (blk_cell BK858.out 0).trans rfl; have hcz24_1 : w23.cell? ⟨gb858, 1, none⟩ = some (.slice A0_1 l0_1.length c0_1) := (blk_cell BK858.out 1).trans rfl; have hfz24_0 := blk_frozen BK858.out 0; have hfz24_1 := blk_frozen BK858.out 1) | ((with_reducible refine gate_callee (f := 26) rfl ?_); refine goesM_ (some 34) rfl rfl Try.func26 (by kernel_rfl) rfl #[.agg #[.int .i64 a0_0, .slice A0_1 l0_1.length c0_1]] rfl ?_; (with_reducible refine (laws_toGraph.calls kj6 a0_0 _ _ l0_1 t871 t872 _ ?side1 ?side2 A14.out).mono ?_); (case side1 => exact Cz ((Kd.C_below HR0_1.out HB.out))); (case side2 => exact HC0_1.out); rintro e w25 ⟨v873, rfl, ho0, hb⟩; refine ⟨_, rfl, ?_⟩; replace HO866 := Aside0.mk (Kd.R_below (Rz HO866) hb); replace HO869 := Aside0.mk (Kd.R_below (Rz HO869) hb); have HO874 := Aside0.mk (Kd.R_lower (Kd.R_new' ho0 (Kd.R_lt (Rz HO863))) (below_size (by exact Lz1 HB GE858))); replace HO863 := Aside0.mk (Kd.R_elder' (Rz HO863) (Kd.R_base ho0) hb); replace BK858 := Aside0.mk (blk_below (g := gb858) (o := .cells #[.int .i64 a0_0, .slice A0_1 l0_1.length c0_1] 33 (0, 0)) (Bz BK858) hb); replace HB := Aside0.mk (below_step (by exact Lz1 HB GE858) hb); (try clear hb); (try clear ho0)) | ((with_reducible refine gate_dst (N := 8) rfl ?_); refine box_event ?hg (N := 8) ?hd (cs := #[.int .i64 0, .slice none 0 0]) (t := 37) ?hr ?_; (case hd => rfl); (case hg => rfl); (case hr => first | (go_simp; done) | (go_simp; rfl)); intro gb875 hg w26 hbox hb; replace HO863 := Aside0.mk (Kd.R_below (Rz HO863) hb); replace HO866 := Aside0.mk (Kd.R_below (Rz HO866) hb); replace HO869 := Aside0.mk (Kd.R_below (Rz HO869) hb); replace HO874 := Aside0.mk (Kd.R_below (Rz HO874) hb); have BK875 := Aside0.mk (hbox); have GW875 := Aside0.mk ((by rw [hg]; exact (below_size (by exact Lz1 HB GE858)) : w.heap.size ≤ gb875)); have GE875 := Aside0.mk ((by rw [hg]; exact (below_size (by exact Lz1 HB GE858)) : w.heap.size ≤ gb875)); replace HB := Aside0.mk (below_step (by exact Lz1 HB GE858) hb); have NB858_875 := Aside0.mk ((by rw [hg]; exact Nat.ne_of_lt (blk_lt (g := gb858) (o := .cells #[.int .i64 a0_0, .slice A0_1 l0_1.length c0_1] 33 (0, 0)) (Bz BK858)) : gb858 ≠ gb875)); have NB875_858 := Aside0.mk ((by rw [hg]; exact Nat.ne_of_gt (blk_lt (g := gb858) (o := .cells #[.int .i64 a0_0, .slice A0_1 l0_1.length c0_1] 33 (0, 0)) (Bz BK858)) : gb875 ≠ gb858)); replace BK858 := Aside0.mk (blk_below (g := gb858) (o := .cells #[.int .i64 a0_0, .slice A0_1 l0_1.length c0_1] 33 (0, 0)) (Bz BK858) hb); clear hb hbox hg; have hnb27 := NB875_858.out; have hnc27 := NB858_875.out; have hcz28_0 : w26.cell? ⟨gb875, 0, none⟩ = some (.int .i64 0) := (blk_cell BK875.out 0).trans rfl; have hcz28_1 : w26.cell? ⟨gb875, 1, none⟩ = some (.slice none 0 0) := (blk_cell BK875.out 1).trans rfl; have hfz28_0 := blk_frozen BK875.out 0; have hfz28_1 := blk_frozen BK875.out 1; obtain ⟨Ao29, co29, eo29⟩ := Kd.R_slice HO874.out; subst eo29) | ((with_reducible refine gate_callee (f := 36) rfl ?_); refine goesM_ (some 36) rfl rfl Try.func36 (by kernel_rfl) rfl #[.slice A1 l1.length c1] rfl ?_; (with_reducible refine (laws_toIntS.calls kj6 _ _ l1 t876 _ ?side1 ?side2 A15.out).mono ?_); (case side1 => exact Kd.C_below HR1.out (by exact Lz2 HB GE858 GE875)); (case side2 => exact HC1.out); rintro e w30 ⟨v877, rfl, ho0, hb⟩; refine ⟨_, rfl, ?_⟩; replace HO863 := Aside0.mk (Kd.R_below (by (with_reducible repeat (first | apply Kd.R_alloc | apply Kd.R_drewN | apply Kd.R_drew)); exact (Kd.R_mono (Kd.R_far (p := ⟨gb875, 1, none⟩) (Kd.R_far (p := ⟨gb875, 0, none⟩) (Kd.R_types HO863.out BK875.out (by decide)) (fun _ hk => hk.2) (.int .i64 t871)) (fun _ hk => hk.2) (.slice Ao29 t872.length co29)) (fun _ h_ => h_.1))) hb); replace HO874 := Aside0.mk (Kd.R_below (by (with_reducible repeat (first | apply Kd.R_alloc | apply Kd.R_drewN | apply Kd.R_drew)); exact (Kd.R_mono (Kd.R_far (p := ⟨gb875, 1, none⟩) (Kd.R_far (p := ⟨gb875, 0, none⟩) (Kd.R_types HO874.out BK875.out (by decide)) (fun _ hk => hk.2) (.int .i64 t871)) (fun _ hk => hk.2) (.slice Ao29 t872.length co29)) (fun _ h_ => h_.1))) hb); have HO878 := Aside0.mk (Kd.R_lower (Kd.R_new' (Kd.R_new' ho0 (Kd.R_lt (by (with_reducible repeat (first | apply Kd.R_alloc | apply Kd.R_drewN | apply Kd.R_drew)); exact (Kd.R_mono (Kd.R_far (p := ⟨gb875, 1, none⟩) (Kd.R_far (p := ⟨gb875, 0, none⟩) (Kd.R_types HO866.out BK875.out (by decide)) (fun _ hk => hk.2) (.int .i64 t871)) (fun _ hk => hk.2) (.slice Ao29 t872.length co29)) (fun _ h_ => h_.1))))) (Kd.R_lt (by (with_reducible repeat (first | apply Kd.R_alloc | apply Kd.R_drewN | apply Kd.R_drew)); exact (Kd.R_mono (Kd.R_far (p := ⟨gb875, 1, none⟩) (Kd.R_far (p := ⟨gb875, 0, none⟩) (Kd.R_types HO869.out BK875.out (by decide)) (fun _ hk => hk.2) (.int .i64 t871)) (fun _ hk => hk.2) (.slice Ao29 t872.length co29)) (fun _ h_ => h_.1))))) (below_size (by exact Lz2 HB GE858 GE875))); replace HO866 := Aside0.mk (Kd.R_elder' (by (with_reducible repeat (first | apply Kd.R_alloc | apply Kd.R_drewN | apply Kd.R_drew)); exact (Kd.R_mono (Kd.R_far (p := ⟨gb875, 1, none⟩) (Kd.R_far (p := ⟨gb875, 0, none⟩) (Kd.R_types HO866.out BK875.out (by decide)) (fun _ hk => hk.2) (.int .i64 t871)) (fun _ hk => hk.2) (.slice Ao29 t872.length co29)) (fun _ h_ => h_.1))) (Kd.R_base ho0) hb); replace HO869 := Aside0.mk (Kd.R_elder' (by (with_reducible repeat (first | apply Kd.R_alloc | apply Kd.R_drewN | apply Kd.R_drew)); exact (Kd.R_mono (Kd.R_far (p := ⟨gb875, 1, none⟩) (Kd.R_far (p := ⟨gb875, 0, none⟩) (Kd.R_types HO869.out BK875.out (by decide)) (fun _ hk => hk.2) (.int .i64 t871)) (fun _ hk => hk.2) (.slice Ao29 t872.length co29)) (fun _ h_ => h_.1))) (Kd.R_base ho0) hb); replace BK858 := Aside0.mk (blk_below (g := gb858) (o := .cells #[.int .i64 a0_0, .slice A0_1 l0_1.length c0_1] 33 (0, 0)) (by (with_reducible repeat (first | refine blk_drewN ?_ _ | refine blk_drew ?_ | refine blk_alloc ?_ _)); refine blk_far ?_ NB858_875.out _; (with_reducible repeat (first | refine blk_drewN ?_ _ | refine blk_drew ?_ | refine blk_alloc ?_ _)); refine blk_far ?_ NB858_875.out _; exact Bz BK858) hb); replace BK875 := Aside0.mk (blk_below (g := gb875) (o := .cells #[.int .i64 t871, .slice Ao29 t872.length co29] 37 (0, 0)) (by (with_reducible repeat (first | refine blk_drewN ?_ _ | refine blk_drew ?_ | refine blk_alloc ?_ _)); refine blk_put (cs := #[.int .i64 t871, .slice none 0 0]) ?_ 1 _ rfl; (with_reducible repeat (first | refine blk_drewN ?_ _ | refine blk_drew ?_ | refine blk_alloc ?_ _)); refine blk_put (cs := #[.int .i64 0, .slice none 0 0]) ?_ 0 _ rfl; exact Bz BK875) hb); replace HB := Aside0.mk (below_step (by exact Lz2 HB GE858 GE875) hb); (try clear hb); (try clear ho0); have hcz31_0 : w30.cell? ⟨gb875, 0, none⟩ = some (.int .i64 t871) := (blk_cell BK875.out 0).trans rfl; have hcz31_1 : w30.cell? ⟨gb875, 1, none⟩ = some (.slice Ao29 t872.length co29) := (blk_cell BK875.out 1).trans rfl; have hfz31_0 := blk_frozen BK875.out 0; have hfz31_1 := blk_frozen BK875.out 1; obtain ⟨Ao32, co32, eo32⟩ := Kd.R_slice HO878.out; subst eo32) | ((with_reducible refine gate_callee (f := 46) rfl ?_); refine goesM_ (some 40) rfl rfl Try.func46 (by kernel_rfl) rfl #[.agg #[.int .i64 t871, .slice Ao29 t872.length co29], .slice Ao32 t876.length co32] rfl ?_; (with_reducible refine (impl_ResidualOf.calls kj6 t871 _ _ t872 _ _ t876 t879 t882 _ ?side1 ?side2 ?side3 ?side4 A16.out).mono ?_); (case side1 => exact Cz ((Kd.R_reads' HO874.out).2.2)); (case side2 => exact (Kd.R_reads' HO874.out).2.1); (case side3 => exact Cz ((Kd.R_reads' HO878.out).2.2)); (case side4 => exact (Kd.R_reads' HO878.out).2.1); rintro e w33 ⟨v880, rfl, ho0, hb⟩; refine ⟨_, rfl, ?_⟩; replace HO863 := Aside0.mk (Kd.R_below (Rz HO863) hb); replace HO874 := Aside0.mk (Kd.R_below (Rz HO874) hb); have HO881 := Aside0.mk (Kd.R_lower (Kd.R_new' (Kd.R_new' (Kd.R_new' ho0 (Kd.R_lt (Rz HO866))) (Kd.R_lt (Rz HO869))) (Kd.R_lt (Rz HO878))) (below_size (by exact Lz2 HB GE858 GE875))); replace HO866 := Aside0.mk (Kd.R_elder' (Rz HO866) (Kd.R_base ho0) hb); replace HO869 := Aside0.mk (Kd.R_elder' (Rz HO869) (Kd.R_base ho0) hb); replace HO878 := Aside0.mk (Kd.R_elder' (Rz HO878) (Kd.R_base ho0) hb); replace BK858 := Aside0.mk (blk_below (g := gb858) (o := .cells #[.int .i64 a0_0, .slice A0_1 l0_1.length c0_1] 33 (0, 0)) (Bz BK858) hb); replace BK875 := Aside0.mk (blk_below (g := gb875) (o := .cells #[.int .i64 t871, .slice Ao29 t872.length co29] 37 (0, 0)) (Bz BK875) hb); replace HB := Aside0.mk (below_step (by exact Lz2 HB GE858 GE875) hb); (try clear hb); (try clear ho0)))
     (try simp only [Act.put, List.setIfInBounds_toArray, List.set_cons_zero, List.set_cons_succ])
     go_cut [51] (fun v51 wc => ∃ (kq : Nat) (x51_16 : Bool), v51 = .bool x51_16 ∧ Aside0 (laws_FnExactResidualOf.j2 kq l1 t867 t870 t876 t879 t882 x51_16 a0_0 l0_1 t871 t872 = some r) ∧ Aside0 (kq ≤ kj6) ∧ Aside0 (Kd.R (Kd.int .i64) 3 wc w.heap.size (fun k_ => some k_ ≠ ((.slice Ao32 t876.length co32) : Value).ownBlock ∧ some k_ ≠ (v880 : Value).ownBlock) v868 t867) ∧ Aside0 (Kd.R (Kd.int .i64) 3 wc w.heap.size (fun k_ => some k_ ≠ (v868 : Value).ownBlock ∧ some k_ ≠ (v880 : Value).ownBlock) (.slice Ao32 t876.length co32) t876) ∧ Aside0 (Kd.R (Kd.int .i64) 3 wc w.heap.size (fun k_ => some k_ ≠ (v868 : Value).ownBlock ∧ some k_ ≠ ((.slice Ao32 t876.length co32) : Value).ownBlock) v880 t879) ∧ Aside0 (Kd.R k68 68 wc w.heap.size (fun _ => True) (.slice Ao29 t872.length co29) t872) ∧ Aside0 (wc.heap[gb858]? = some (.cells #[.int .i64 a0_0, (.slice A0_1 l0_1.length c0_1)] 33 (0, 0))) ∧ Aside0 (wc.heap[gb875]? = some (.cells #[.int .i64 t871, (.slice Ao29 t872.length co29)] 37 (0, 0))) ∧ Aside0 (Below w.heap.size w wc))
     case first =>
      have H := HC17.out
      clear HC17
      replace H := Option.bind_eq_some_iff.mp H
      obtain ⟨t883, A340, H⟩ := H
      replace H : (if t883 = true then (laws_FnExactResidualOf.j2 kj6 l1 t867 t870 t876 t879 t882 (t882 != t870) a0_0 l0_1 t871 t872) else (laws_FnExactResidualOf.j2 kj6 l1 t867 t870 t876 t879 t882 true a0_0 l0_1 t871 t872)) = some r := H
      have A34 := Aside0.mk A340
      clear A340
      by_cases c35 : t883 = true
      ·subst c35
       have H1 : (laws_FnExactResidualOf.j2 kj6 l1 t867 t870 t876 t879 t882 (t882 != t870) a0_0 l0_1 t871 t872) = some r := by rw [if_pos rfl] at H; exact H
       clear H
       have H := H1
       clear H1
       have H' := Aside0.mk H
       clear H
       obtain ⟨Ao36, co36, eo36⟩ := Kd.R_slice HO881.out
       subst eo36
       obtain ⟨Ao37, co37, eo37⟩ := Kd.R_slice HO869.out
       subst eo37
       go_wp2_with (first | ((with_reducible refine gate_callee (f := 19) rfl ?_); refine goesM_ (some 45) rfl rfl Try.func19 (by kernel_rfl) rfl #[.slice Ao36 t879.length co36, .slice Ao37 t867.length co37] rfl ?_; (with_reducible refine (laws_eqIntS.calls kj6 _ _ t879 _ _ t867 true _ ?side1 ?side2 ?side3 ?side4 A34.out).mono ?_); (case side1 => exact Cz ((Kd.R_reads' HO881.out).2.2)); (case side2 => exact (Kd.R_reads' HO881.out).2.1); (case side3 => exact Cz ((Kd.R_reads' HO869.out).2.2)); (case side4 => exact (Kd.R_reads' HO869.out).2.1); rintro e w' ⟨rfl, ⟨nd, rfl⟩⟩; refine ⟨_, rfl, ?_⟩))
       go_meet
       case rel => exact ⟨_, ((t882 != t870)), (by first | rfl | (simp; done) | (simp [*]; done)), H', ⟨by have := HJ2.out; have := HJ6.out; first | omega | exact Nat.le_refl _⟩, ⟨by (with_reducible repeat (first | apply Kd.R_alloc | apply Kd.R_drewN | apply Kd.R_drew)); exact Kd.R_mono HO869.out (fun _ hk => ⟨hk.1.2, hk.2⟩)⟩, ⟨by (with_reducible repeat (first | apply Kd.R_alloc | apply Kd.R_drewN | apply Kd.R_drew)); exact Kd.R_mono HO878.out (fun _ hk => ⟨hk.1.2, hk.2⟩)⟩, ⟨by (with_reducible repeat (first | apply Kd.R_alloc | apply Kd.R_drewN | apply Kd.R_drew)); exact Kd.R_mono HO881.out (fun _ hk => ⟨hk.1.2, hk.2⟩)⟩, ⟨by (with_reducible repeat (first | apply Kd.R_alloc | apply Kd.R_drewN | apply Kd.R_drew)); exact Kd.R_mono HO874.out (fun _ hk => trivial)⟩, ⟨by exact Bz BK858⟩, ⟨by exact Bz BK875⟩, ⟨by exact Lz2 HB GE858 GE875⟩⟩
      replace c35 := Bool.eq_false_iff.mpr c35
      subst c35
      have H1 : (laws_FnExactResidualOf.j2 kj6 l1 t867 t870 t876 t879 t882 true a0_0 l0_1 t871 t872) = some r := by rw [if_neg (show ¬ (false = true) by decide)] at H; exact H
      clear H
      have H := H1
      clear H1
      have H' := Aside0.mk H
      clear H
      obtain ⟨Ao38, co38, eo38⟩ := Kd.R_slice HO881.out
      subst eo38
      obtain ⟨Ao39, co39, eo39⟩ := Kd.R_slice HO869.out
      subst eo39
      go_wp2_with (first | ((with_reducible refine gate_callee (f := 19) rfl ?_); refine goesM_ (some 45) rfl rfl Try.func19 (by kernel_rfl) rfl #[.slice Ao38 t879.length co38, .slice Ao39 t867.length co39] rfl ?_; (with_reducible refine (laws_eqIntS.calls kj6 _ _ t879 _ _ t867 false _ ?side1 ?side2 ?side3 ?side4 A34.out).mono ?_); (case side1 => exact Cz ((Kd.R_reads' HO881.out).2.2)); (case side2 => exact (Kd.R_reads' HO881.out).2.1); (case side3 => exact Cz ((Kd.R_reads' HO869.out).2.2)); (case side4 => exact (Kd.R_reads' HO869.out).2.1); rintro e w' ⟨rfl, ⟨nd, rfl⟩⟩; refine ⟨_, rfl, ?_⟩))
      go_meet
      case rel => exact ⟨_, (true), (by first | rfl | (simp; done) | (simp [*]; done)), H', ⟨by have := HJ2.out; have := HJ6.out; first | omega | exact Nat.le_refl _⟩, ⟨by (with_reducible repeat (first | apply Kd.R_alloc | apply Kd.R_drewN | apply Kd.R_drew)); exact Kd.R_mono HO869.out (fun _ hk => ⟨hk.1.2, hk.2⟩)⟩, ⟨by (with_reducible repeat (first | apply Kd.R_alloc | apply Kd.R_drewN | apply Kd.R_drew)); exact Kd.R_mono HO878.out (fun _ hk => ⟨hk.1.2, hk.2⟩)⟩, ⟨by (with_reducible repeat (first | apply Kd.R_alloc | apply Kd.R_drewN | apply Kd.R_drew)); exact Kd.R_mono HO881.out (fun _ hk => ⟨hk.1.2, hk.2⟩)⟩, ⟨by (with_reducible repeat (first | apply Kd.R_alloc | apply Kd.R_drewN | apply Kd.R_drew)); exact Kd.R_mono HO874.out (fun _ hk => trivial)⟩, ⟨by exact Bz BK858⟩, ⟨by exact Bz BK875⟩, ⟨by exact Lz2 HB GE858 GE875⟩⟩
     case rest =>
      clear HC17
      try clear c1
      try clear c5
      try clear c5b0
      try clear c5b1
      try clear c10
      try clear c10b0
      try clear c35
      obtain ⟨kq, x51_16, rfl, HA, HJ16, HO_6, HO_9, HO_10, HO_876001, BK858, BK875, HB⟩ := hcut
      cases kq with
      | zero => exact absurd HA.out (by simp [laws_FnExactResidualOf.j2])
      | succ kj16 =>
       have H := HA.out
       clear HA
       simp only [laws_FnExactResidualOf.j2] at H
       have HC40 := Aside0.mk H
       clear H
       go_upto_if 51 with (fail)
       go_cut [] (fun wc => ∃ (kq : Nat), Aside0 (laws_FnExactResidualOf.j3 kq l1 t867 t870 t876 t879 t882 a0_0 l0_1 t871 t872 = some r) ∧ Aside0 (kq ≤ kj16) ∧ Aside0 (Kd.R (Kd.int .i64) 3 wc w.heap.size (fun k_ => some k_ ≠ ((.slice Ao32 t876.length co32) : Value).ownBlock ∧ some k_ ≠ (v880 : Value).ownBlock) v868 t867) ∧ Aside0 (Kd.R (Kd.int .i64) 3 wc w.heap.size (fun k_ => some k_ ≠ (v868 : Value).ownBlock ∧ some k_ ≠ (v880 : Value).ownBlock) (.slice Ao32 t876.length co32) t876) ∧ Aside0 (Kd.R (Kd.int .i64) 3 wc w.heap.size (fun k_ => some k_ ≠ (v868 : Value).ownBlock ∧ some k_ ≠ ((.slice Ao32 t876.length co32) : Value).ownBlock) v880 t879) ∧ Aside0 (Kd.R k68 68 wc w.heap.size (fun _ => True) (.slice Ao29 t872.length co29) t872) ∧ Aside0 (wc.heap[gb858]? = some (.cells #[.int .i64 a0_0, (.slice A0_1 l0_1.length c0_1)] 33 (0, 0))) ∧ Aside0 (wc.heap[gb875]? = some (.cells #[.int .i64 t871, (.slice Ao29 t872.length co29)] 37 (0, 0))) ∧ Aside0 (Below w.heap.size w wc))
       case first =>
        have H := HC40.out
        clear HC40
        by_cases c41 : x51_16 = true
        ·subst c41
         have H1 : (some false) = some r := by rw [if_pos rfl] at H; exact H
         clear H
         have H := H1
         clear H1
         obtain rfl := Option.some.inj H
         go_wp2
         go_ret
         exact ⟨by first | rfl | (simp [errW_none, errW_some] <;> rfl) | (simp [*, errW_none, errW_some] <;> rfl), by exact Lz2 HB GE858 GE875⟩
        replace c41 := Bool.eq_false_iff.mpr c41
        subst c41
        have H1 : (laws_FnExactResidualOf.j3 kj16 l1 t867 t870 t876 t879 t882 a0_0 l0_1 t871 t872) = some r := by rw [if_neg (show ¬ (false = true) by decide)] at H; exact H
        clear H
        have H := H1
        clear H1
        have H' := Aside0.mk H
        clear H
        go_wp2
        go_meet
        case rel => exact ⟨_, H', ⟨by have := HJ2.out; have := HJ6.out; have := HJ16.out; first | omega | exact Nat.le_refl _⟩, ⟨by exact Rz HO_6⟩, ⟨by exact Rz HO_9⟩, ⟨by exact Rz HO_10⟩, ⟨by exact Rz HO_876001⟩, ⟨by exact Bz BK858⟩, ⟨by exact Bz BK875⟩, ⟨by exact Lz2 HB GE858 GE875⟩⟩
       case rest =>
        clear HC40
        try clear c1
        try clear c5
        try clear c5b0
        try clear c5b1
        try clear c10
        try clear c10b0
        try clear c35
        try clear c41
        obtain ⟨kq, HA, HJ39, HO_6, HO_9, HO_10, HO_876001, BK858, BK875, HB⟩ := hcut
        cases kq with
        | zero => exact absurd HA.out (by simp [laws_FnExactResidualOf.j3])
        | succ kj39 =>
         have H := HA.out
         clear HA
         simp only [laws_FnExactResidualOf.j3] at H
         replace H := Option.bind_eq_some_iff.mp H
         obtain ⟨⟨t884, t885⟩, A420, H⟩ := H
         replace H : ((laws_eqGraph.f kj39 t871 t872 t884 t885).bind fun t888 => (if t888 = true then (laws_FnExactResidualOf.j4 kj39 l1 t867 t870 t876 t879 t882 a0_0 l0_1 t871 t872) else (some false))) = some r := H
         have A42 := Aside0.mk A420
         clear A420
         replace H := Option.bind_eq_some_iff.mp H
         obtain ⟨t888, A430, H⟩ := H
         replace H : (if t888 = true then (laws_FnExactResidualOf.j4 kj39 l1 t867 t870 t876 t879 t882 a0_0 l0_1 t871 t872) else (some false)) = some r := H
         have A43 := Aside0.mk A430
         clear A430
         have HC44 := Aside0.mk H
         clear H
         try go_wp2
         replace HO_6 := Aside0.mk (Kd.R_drew HO_6.out)
         replace HO_9 := Aside0.mk (Kd.R_drew HO_9.out)
         replace HO_10 := Aside0.mk (Kd.R_drew HO_10.out)
         replace HO_876001 := Aside0.mk (Kd.R_drew HO_876001.out)
         replace BK858 := Aside0.mk (blk_drew BK858.out)
         replace BK875 := Aside0.mk (blk_drew BK875.out)
         replace HB := Aside0.mk (below_drew1 HB.out)
         refine start_ (n := 5) (S := fun w' => w'.cell? ⟨gb875, 0, none⟩ = some (.int .i64 t871) ∧ w'.cell? ⟨gb875, 1, none⟩ = some (.slice Ao29 t872.length co29) ∧ w'.cell? ⟨gb858, 0, none⟩ = some (.int .i64 a0_0) ∧ w'.cell? ⟨gb858, 1, none⟩ = some (.slice A0_1 l0_1.length c0_1)) (ds := []) #[false, false, false, false, false] (by kernel_rfl) rfl rfl ⟨(blk_cell BK875.out 0).trans rfl, (blk_cell BK875.out 1).trans rfl, (blk_cell BK858.out 0).trans rfl, (blk_cell BK858.out 1).trans rfl⟩ (fun hHeld => ?_)
         generalize wc.drew = w45 at HO_6 HO_9 HO_10 HO_876001 BK858 BK875 HB hHeld ⊢
         refine take_ (i := 0) (N := some 52) (v := ?_) (a' := ?_) #[true, false, false, false, false] rfl rfl (by kernel_rfl) (fun _ _ _ h => h) (Or.inl ⟨by rfl, ?_⟩) hHeld ?_ ?_
         rotate_left
         ·rintro w' ⟨s0, s1, s2, s3⟩
          go_simp
          with_reducible rfl
         rotate_left
         ·simp only [Act.put, List.setIfInBounds_toArray, List.set_cons_zero, List.set_cons_succ, i64_w, i32_w]
          rfl
         refine take_ (i := 1) (N := some 53) (v := ?_) (a' := ?_) #[true, true, false, false, false] rfl rfl (by kernel_rfl) (fun _ _ _ h => h) (Or.inl ⟨by rfl, ?_⟩) hHeld ?_ ?_
         rotate_left
         ·rintro w' ⟨s0, s1, s2, s3⟩
          go_simp
          with_reducible rfl
         rotate_left
         ·simp only [Act.put, List.setIfInBounds_toArray, List.set_cons_zero, List.set_cons_succ, i64_w, i32_w]
          rfl
         refine one_ (i := 2) (N := some 54) #[true, true, true, false, false] rfl rfl (by kernel_rfl) (by decide) (fun K hK => ?_)
         refine goes_ Try.func26 (by kernel_rfl) rfl #[.agg #[.int .i64 a0_0, .slice A0_1 l0_1.length c0_1]] (by rfl) rfl rfl (by (try simp only [List.map_toArray, List.map_cons, List.map_nil]); first | done | rfl | (simp only [List.length_drop, List.length_take]; rfl)) ?_
         with_reducible refine (laws_toGraph.calls kj39 a0_0 _ _ l0_1 t884 t885 _ ?side1 ?side2 A42.out).mono ?_
         (case side1 => exact Cz ((Kd.C_below HR0_1.out HB.out)))
         (case side2 => exact HC0_1.out)
         rintro e w46 ⟨v886, rfl, ho0, hb⟩
         refine ⟨_, rfl, ?_⟩
         replace HO_6 := Aside0.mk (Kd.R_below (Rz HO_6) hb)
         replace HO_9 := Aside0.mk (Kd.R_below (Rz HO_9) hb)
         replace HO_10 := Aside0.mk (Kd.R_below (Rz HO_10) hb)
         have HO887 := Aside0.mk (Kd.R_lower (Kd.R_new' ho0 (Kd.R_lt (Rz HO_876001))) (below_size (by exact Lz2 HB GE858 GE875)))
         replace HO_876001 := Aside0.mk (Kd.R_elder' (Rz HO_876001) (Kd.R_base ho0) hb)
         replace BK858 := Aside0.mk (blk_below (g := gb858) (o := .cells #[.int .i64 a0_0, .slice A0_1 l0_1.length c0_1] 33 (0, 0)) (Bz BK858) hb)
         replace BK875 := Aside0.mk (blk_below (g := gb875) (o := .cells #[.int .i64 t871, .slice Ao29 t872.length co29] 37 (0, 0)) (Bz BK875) hb)
         replace HB := Aside0.mk (below_step (by exact Lz2 HB GE858 GE875) hb)
         (try clear hb)
         (try clear hb2)
         (try clear hk)
         (try clear hi)
         (try clear ho0)
         obtain ⟨Ao47, co47, eo47⟩ := Kd.R_slice HO887.out
         (first | subst eo47 | (injection eo47 with f1_ f2_ f3_; have f4_ := f1_.symm; have f5_ := f3_.symm; clear f1_ f2_ f3_; subst f4_; subst f5_))
         refine hK.out _ _ ⟨(blk_cell BK875.out 0).trans rfl, (blk_cell BK875.out 1).trans rfl, (blk_cell BK858.out 0).trans rfl, (blk_cell BK858.out 1).trans rfl⟩ (fun hHeld => ?_)
         clear hK K
         refine norm_ (a' := ?_) ?_ ?_
         rotate_left
         ·show Act.put _ (some 54) _ = _
          simp only [Act.put, List.setIfInBounds_toArray, List.set_cons_zero, List.set_cons_succ, i64_w, i32_w]
          rfl
         refine one_ (i := 3) (N := some 55) #[true, true, true, true, false] rfl rfl (by kernel_rfl) (by decide) (fun K hK => ?_)
         refine goes_ Try.func28 (by kernel_rfl) rfl #[.agg #[.int .i64 t871, .slice Ao29 t872.length co29], .agg #[.int .i64 t884, .slice Ao47 t885.length co47]] (by rfl) rfl rfl (by (try simp only [List.map_toArray, List.map_cons, List.map_nil]); first | done | rfl | (simp only [List.length_drop, List.length_take]; rfl)) ?_
         with_reducible refine (laws_eqGraph.calls kj39 t871 _ _ t872 t884 _ _ t885 t888 _ ?side1 ?side2 ?side3 ?side4 A43.out).mono ?_
         (case side1 => exact Cz ((Kd.R_reads' HO_876001.out).2.2))
         (case side2 => exact (Kd.R_reads' HO_876001.out).2.1)
         (case side3 => exact Cz ((Kd.R_reads' HO887.out).2.2))
         (case side4 => exact (Kd.R_reads' HO887.out).2.1)
         rintro e w48 ⟨rfl, hb⟩
         refine ⟨_, rfl, ?_⟩
         replace HO_6 := Aside0.mk (Kd.R_below (Rz HO_6) hb)
         replace HO_9 := Aside0.mk (Kd.R_below (Rz HO_9) hb)
         replace HO_10 := Aside0.mk (Kd.R_below (Rz HO_10) hb)
         replace HO_876001 := Aside0.mk (Kd.R_below (Rz HO_876001) hb)
         replace HO887 := Aside0.mk (Kd.R_below (Rz HO887) hb)
         replace BK858 := Aside0.mk (blk_below (g := gb858) (o := .cells #[.int .i64 a0_0, .slice A0_1 l0_1.length c0_1] 33 (0, 0)) (Bz BK858) hb)
         replace BK875 := Aside0.mk (blk_below (g := gb875) (o := .cells #[.int .i64 t871, .slice Ao29 t872.length co29] 37 (0, 0)) (Bz BK875) hb)
         replace HB := Aside0.mk (below_step (by exact Lz2 HB GE858 GE875) hb)
         (try clear hb)
         (try clear hb2)
         (try clear hk)
         (try clear hi)
         refine hK.out _ _ ⟨(blk_cell BK875.out 0).trans rfl, (blk_cell BK875.out 1).trans rfl, (blk_cell BK858.out 0).trans rfl, (blk_cell BK858.out 1).trans rfl⟩ (fun hHeld => ?_)
         clear hK K
         refine norm_ (a' := ?_) ?_ ?_
         rotate_left
         ·show Act.put _ (some 55) _ = _
          simp only [Act.put, List.setIfInBounds_toArray, List.set_cons_zero, List.set_cons_succ, i64_w, i32_w]
          rfl
         refine pure_ (i := 4) (N := some 56) (v := ?_) (a' := ?_) #[true, true, true, true, true] rfl rfl (by kernel_rfl) (fun _ _ _ h => h) (Or.inl ⟨by rfl, ?_⟩) ?_ ?_
         rotate_left
         ·intro w'
          go_simp
          with_reducible rfl
         rotate_left
         ·simp only [Act.put, List.setIfInBounds_toArray, List.set_cons_zero, List.set_cons_succ, i64_w, i32_w]
          rfl
         refine done_ (by kernel_rfl) ?_
         go_upto_if 56 with (fail)
         go_cut [] (fun wc => ∃ (kq : Nat), Aside0 (laws_FnExactResidualOf.j4 kq l1 t867 t870 t876 t879 t882 a0_0 l0_1 t871 t872 = some r) ∧ Aside0 (kq ≤ kj39) ∧ Aside0 (Kd.R (Kd.int .i64) 3 wc w.heap.size (fun k_ => some k_ ≠ ((.slice Ao32 t876.length co32) : Value).ownBlock ∧ some k_ ≠ (v880 : Value).ownBlock) v868 t867) ∧ Aside0 (Kd.R (Kd.int .i64) 3 wc w.heap.size (fun k_ => some k_ ≠ (v868 : Value).ownBlock ∧ some k_ ≠ (v880 : Value).ownBlock) (.slice Ao32 t876.length co32) t876) ∧ Aside0 (Kd.R (Kd.int .i64) 3 wc w.heap.size (fun k_ => some k_ ≠ (v868 : Value).ownBlock ∧ some k_ ≠ ((.slice Ao32 t876.length co32) : Value).ownBlock) v880 t879) ∧ Aside0 (Kd.R k68 68 wc w.heap.size (fun _ => True) (.slice Ao29 t872.length co29) t872) ∧ Aside0 (wc.heap[gb858]? = some (.cells #[.int .i64 a0_0, (.slice A0_1 l0_1.length c0_1)] 33 (0, 0))) ∧ Aside0 (wc.heap[gb875]? = some (.cells #[.int .i64 t871, (.slice Ao29 t872.length co29)] 37 (0, 0))) ∧ Aside0 (Below w.heap.size w wc))
         case first =>
          have H := HC44.out
          clear HC44
          by_cases c49 : t888 = true
          ·subst c49
           have H1 : (laws_FnExactResidualOf.j4 kj39 l1 t867 t870 t876 t879 t882 a0_0 l0_1 t871 t872) = some r := by rw [if_pos rfl] at H; exact H
           clear H
           have H := H1
           clear H1
           have H' := Aside0.mk H
           clear H
           go_wp2
           go_meet
           case rel => exact ⟨_, H', ⟨by have := HJ2.out; have := HJ6.out; have := HJ16.out; have := HJ39.out; first | omega | exact Nat.le_refl _⟩, ⟨by exact Rz HO_6⟩, ⟨by exact Rz HO_9⟩, ⟨by exact Rz HO_10⟩, ⟨by (with_reducible repeat (first | apply Kd.R_alloc | apply Kd.R_drewN | apply Kd.R_drew)); exact Kd.R_mono HO_876001.out (fun _ hk => trivial)⟩, ⟨by exact Bz BK858⟩, ⟨by exact Bz BK875⟩, ⟨by exact Lz2 HB GE858 GE875⟩⟩
          replace c49 := Bool.eq_false_iff.mpr c49
          subst c49
          have H1 : (some false) = some r := by rw [if_neg (show ¬ (false = true) by decide)] at H; exact H
          clear H
          have H := H1
          clear H1
          obtain rfl := Option.some.inj H
          go_wp2
          go_ret
          exact ⟨by first | rfl | (simp [errW_none, errW_some] <;> rfl) | (simp [*, errW_none, errW_some] <;> rfl), by exact Lz2 HB GE858 GE875⟩
         case rest =>
          clear HC44
          try clear c1
          try clear c5
          try clear c5b0
          try clear c5b1
          try clear c10
          try clear c10b0
          try clear c35
          try clear c41
          try clear c49
          obtain ⟨kq, HA, HJ43, HO_6, HO_9, HO_10, HO_876001, BK858, BK875, HB⟩ := hcut
          cases kq with
          | zero => exact absurd HA.out (by simp [laws_FnExactResidualOf.j4])
          | succ kj43 =>
           have H := HA.out
           clear HA
           simp only [laws_FnExactResidualOf.j4] at H
           replace H := Option.bind_eq_some_iff.mp H
           obtain ⟨t889, A500, H⟩ := H
           replace H : ((laws_eqIntS.f kj43 t876 t889).bind fun t892 => (if t892 = true then (laws_FnExactResidualOf.j5 kj43 l1 t867 t870 t876 t879 t882 a0_0 l0_1 t871 t872) else (some false))) = some r := H
           have A50 := Aside0.mk A500
           clear A500
           replace H := Option.bind_eq_some_iff.mp H
           obtain ⟨t892, A510, H⟩ := H
           replace H : (if t892 = true then (laws_FnExactResidualOf.j5 kj43 l1 t867 t870 t876 t879 t882 a0_0 l0_1 t871 t872) else (some false)) = some r := H
           have A51 := Aside0.mk A510
           clear A510
           have HC52 := Aside0.mk H
           clear H
           go_upto_if 61 with (first | ((with_reducible refine gate_callee (f := 36) rfl ?_); refine goesM_ (some 59) rfl rfl Try.func36 (by kernel_rfl) rfl #[.slice A1 l1.length c1] rfl ?_; (with_reducible refine (laws_toIntS.calls kj43 _ _ l1 t889 _ ?side1 ?side2 A50.out).mono ?_); (case side1 => exact Cz ((Kd.C_below HR1.out HB.out))); (case side2 => exact HC1.out); rintro e w53 ⟨v890, rfl, ho0, hb⟩; refine ⟨_, rfl, ?_⟩; replace HO_876001 := Aside0.mk (Kd.R_below (Rz HO_876001) hb); have HO891 := Aside0.mk (Kd.R_lower (Kd.R_new' (Kd.R_new' (Kd.R_new' ho0 (Kd.R_lt (Rz HO_6))) (Kd.R_lt (Rz HO_9))) (Kd.R_lt (Rz HO_10))) (below_size (by exact Lz2 HB GE858 GE875))); replace HO_6 := Aside0.mk (Kd.R_elder' (Rz HO_6) (Kd.R_base ho0) hb); replace HO_9 := Aside0.mk (Kd.R_elder' (Rz HO_9) (Kd.R_base ho0) hb); replace HO_10 := Aside0.mk (Kd.R_elder' (Rz HO_10) (Kd.R_base ho0) hb); replace BK858 := Aside0.mk (blk_below (g := gb858) (o := .cells #[.int .i64 a0_0, .slice A0_1 l0_1.length c0_1] 33 (0, 0)) (Bz BK858) hb); replace BK875 := Aside0.mk (blk_below (g := gb875) (o := .cells #[.int .i64 t871, .slice Ao29 t872.length co29] 37 (0, 0)) (Bz BK875) hb); replace HB := Aside0.mk (below_step (by exact Lz2 HB GE858 GE875) hb); (try clear hb); (try clear ho0); obtain ⟨Ao54, co54, eo54⟩ := Kd.R_slice HO891.out; subst eo54) | ((with_reducible refine gate_callee (f := 19) rfl ?_); refine goesM_ (some 60) rfl rfl Try.func19 (by kernel_rfl) rfl #[.slice Ao32 t876.length co32, .slice Ao54 t889.length co54] rfl ?_; (with_reducible refine (laws_eqIntS.calls kj43 _ _ t876 _ _ t889 t892 _ ?side1 ?side2 ?side3 ?side4 A51.out).mono ?_); (case side1 => exact Cz ((Kd.R_reads' HO_9.out).2.2)); (case side2 => exact (Kd.R_reads' HO_9.out).2.1); (case side3 => exact Cz ((Kd.R_reads' HO891.out).2.2)); (case side4 => exact (Kd.R_reads' HO891.out).2.1); rintro e w' ⟨rfl, ⟨nd, rfl⟩⟩; refine ⟨_, rfl, ?_⟩))
           (try simp only [Act.put, List.setIfInBounds_toArray, List.set_cons_zero, List.set_cons_succ])
           go_cut [] (fun wc => ∃ (kq : Nat), Aside0 (laws_FnExactResidualOf.j5 kq l1 t867 t870 t876 t879 t882 a0_0 l0_1 t871 t872 = some r) ∧ Aside0 (kq ≤ kj43) ∧ Aside0 (Kd.R (Kd.int .i64) 3 wc w.heap.size (fun k_ => some k_ ≠ ((.slice Ao32 t876.length co32) : Value).ownBlock ∧ some k_ ≠ (v880 : Value).ownBlock) v868 t867) ∧ Aside0 (Kd.R (Kd.int .i64) 3 wc w.heap.size (fun k_ => some k_ ≠ (v868 : Value).ownBlock ∧ some k_ ≠ (v880 : Value).ownBlock) (.slice Ao32 t876.length co32) t876) ∧ Aside0 (Kd.R (Kd.int .i64) 3 wc w.heap.size (fun k_ => some k_ ≠ (v868 : Value).ownBlock ∧ some k_ ≠ ((.slice Ao32 t876.length co32) : Value).ownBlock) v880 t879) ∧ Aside0 (Kd.R k68 68 wc w.heap.size (fun _ => True) (.slice Ao29 t872.length co29) t872) ∧ Aside0 (wc.heap[gb858]? = some (.cells #[.int .i64 a0_0, (.slice A0_1 l0_1.length c0_1)] 33 (0, 0))) ∧ Aside0 (wc.heap[gb875]? = some (.cells #[.int .i64 t871, (.slice Ao29 t872.length co29)] 37 (0, 0))) ∧ Aside0 (Below w.heap.size w wc))
           case first =>
            have H := HC52.out
            clear HC52
            by_cases c55 : t892 = true
            ·subst c55
             have H1 : (laws_FnExactResidualOf.j5 kj43 l1 t867 t870 t876 t879 t882 a0_0 l0_1 t871 t872) = some r := by rw [if_pos rfl] at H; exact H
             clear H
             have H := H1
             clear H1
             have H' := Aside0.mk H
             clear H
             go_wp2
             go_meet
             case rel => exact ⟨_, H', ⟨by have := HJ2.out; have := HJ6.out; have := HJ16.out; have := HJ39.out; have := HJ43.out; first | omega | exact Nat.le_refl _⟩, ⟨by (with_reducible repeat (first | apply Kd.R_alloc | apply Kd.R_drewN | apply Kd.R_drew)); exact Kd.R_mono HO_6.out (fun _ hk => ⟨hk.1.1, hk.1.2⟩)⟩, ⟨by (with_reducible repeat (first | apply Kd.R_alloc | apply Kd.R_drewN | apply Kd.R_drew)); exact Kd.R_mono HO_9.out (fun _ hk => ⟨hk.1.1, hk.1.2⟩)⟩, ⟨by (with_reducible repeat (first | apply Kd.R_alloc | apply Kd.R_drewN | apply Kd.R_drew)); exact Kd.R_mono HO_10.out (fun _ hk => ⟨hk.1.1, hk.1.2⟩)⟩, ⟨by exact Rz HO_876001⟩, ⟨by exact Bz BK858⟩, ⟨by exact Bz BK875⟩, ⟨by exact Lz2 HB GE858 GE875⟩⟩
            replace c55 := Bool.eq_false_iff.mpr c55
            subst c55
            have H1 : (some false) = some r := by rw [if_neg (show ¬ (false = true) by decide)] at H; exact H
            clear H
            have H := H1
            clear H1
            obtain rfl := Option.some.inj H
            go_wp2
            go_ret
            exact ⟨by first | rfl | (simp [errW_none, errW_some] <;> rfl) | (simp [*, errW_none, errW_some] <;> rfl), by exact Lz2 HB GE858 GE875⟩
           case rest =>
            clear HC52
            try clear c1
            try clear c5
            try clear c5b0
            try clear c5b1
            try clear c10
            try clear c10b0
            try clear c35
            try clear c41
            try clear c49
            try clear c55
            obtain ⟨kq, HA, HJ51, HO_6, HO_9, HO_10, HO_876001, BK858, BK875, HB⟩ := hcut
            cases kq with
            | zero => exact absurd HA.out (by simp [laws_FnExactResidualOf.j5])
            | succ kj51 =>
             have H := HA.out
             clear HA
             simp only [laws_FnExactResidualOf.j5] at H
             replace H := Option.bind_eq_some_iff.mp H
             obtain ⟨⟨t893, t894⟩, A560, H⟩ := H
             replace H : ((laws_markIntS.f kj51 t876 t893).bind fun bt895 => (if bt895.1 < 0 then (laws_FnExactResidualOf.j6 kj51 l1 t867 t870 t879 true a0_0 l0_1) else ((laws_eqIntS.f kj51 t879 t867).bind fun t897 => (if t897 = true then (laws_FnExactResidualOf.j6 kj51 l1 t867 t870 t879 (t882 != t870) a0_0 l0_1) else (laws_FnExactResidualOf.j6 kj51 l1 t867 t870 t879 true a0_0 l0_1))))) = some r := H
             have A56 := Aside0.mk A560
             clear A560
             replace H := Option.bind_eq_some_iff.mp H
             obtain ⟨⟨t895, t896⟩, A570, H⟩ := H
             replace H : (if t895 < 0 then (laws_FnExactResidualOf.j6 kj51 l1 t867 t870 t879 true a0_0 l0_1) else ((laws_eqIntS.f kj51 t879 t867).bind fun t897 => (if t897 = true then (laws_FnExactResidualOf.j6 kj51 l1 t867 t870 t879 (t882 != t870) a0_0 l0_1) else (laws_FnExactResidualOf.j6 kj51 l1 t867 t870 t879 true a0_0 l0_1)))) = some r := H
             have A57 := Aside0.mk A570
             clear A570
             have HC58 := Aside0.mk H
             clear H
             have hnb59 := NB875_858.out
             have hnc59 := NB858_875.out
             have hcz60_0 : wc.cell? ⟨gb875, 0, none⟩ = some (.int .i64 t871) := (blk_cell BK875.out 0).trans rfl
             have hcz60_1 : wc.cell? ⟨gb875, 1, none⟩ = some (.slice Ao29 t872.length co29) := (blk_cell BK875.out 1).trans rfl
             have hfz60_0 := blk_frozen BK875.out 0
             have hfz60_1 := blk_frozen BK875.out 1
             go_upto_region 20 with (first | ((with_reducible refine gate_callee (f := 29) rfl ?_); refine goesM_ (some 64) rfl rfl Try.func29 (by kernel_rfl) rfl #[.agg #[.int .i64 t871, .slice Ao29 t872.length co29], .int .i64 1] rfl ?_; (with_reducible refine (laws_markGraph.calls kj51 t871 (fun k_ => some k_ = (.slice Ao29 t872.length co29 : Value).ownBlock) (.slice Ao29 t872.length co29) t872 1 t893 t894 w _ ?side1 ?side2 A56.out).mono ?_); (case side1 => exact Lz2 HB GE858 GE875); (case side2 => exact Kd.R_tight rfl HO_876001.out); rintro e w61 ⟨rfl, hy0, hb, hkp⟩; refine ⟨_, rfl, ?_⟩; replace HO_6 := Aside0.mk (Kd.R_mono (ok' := fun k_ => some k_ ≠ (.slice Ao32 t876.length co32 : Value).ownBlock ∧ some k_ ≠ (v880 : Value).ownBlock) (Kd.R_keptB ((Kd.R_apart' HO_6.out (Kd.R_typed HO_876001.out) (by decide))) hkp (fun k_ hk_ hs_ => (hk_.2) hs_)) (fun k_ hk_ => ⟨hk_.1.1.1, hk_.1.1.2⟩)); replace HO_9 := Aside0.mk (Kd.R_mono (ok' := fun k_ => some k_ ≠ (v868 : Value).ownBlock ∧ some k_ ≠ (v880 : Value).ownBlock) (Kd.R_keptB ((Kd.R_apart' HO_9.out (Kd.R_typed HO_876001.out) (by decide))) hkp (fun k_ hk_ hs_ => (hk_.2) hs_)) (fun k_ hk_ => ⟨hk_.1.1.1, hk_.1.1.2⟩)); replace HO_10 := Aside0.mk (Kd.R_mono (ok' := fun k_ => some k_ ≠ (v868 : Value).ownBlock ∧ some k_ ≠ (.slice Ao32 t876.length co32 : Value).ownBlock) (Kd.R_keptB ((Kd.R_apart' HO_10.out (Kd.R_typed HO_876001.out) (by decide))) hkp (fun k_ hk_ hs_ => (hk_.2) hs_)) (fun k_ hk_ => ⟨hk_.1.1.1, hk_.1.1.2⟩)); replace BK858 := Aside0.mk (blk_kept (Bz BK858) hkp (fun hs_ => (fun e_ => (Kd.R_ne HO_876001.out BK858.out (by decide)) e_) hs_)); replace BK875 := Aside0.mk (blk_kept (Bz BK875) hkp (fun hs_ => (fun e_ => (Kd.R_ne HO_876001.out BK875.out (by decide)) e_) hs_)); replace HO_876001 := Aside0.mk (Kd.R_reok rfl hy0 (fun k_ e_ => HO_876001.out.1 k_ e_)); replace HB := Aside0.mk (hb); (try clear hb); (try clear hkp); (try clear hy0)) | ((with_reducible refine gate_callee (f := 22) rfl ?_); refine goesM_ (some 67) rfl rfl Try.func22 (by kernel_rfl) rfl #[.slice Ao32 t876.length co32, .int .i64 t893] rfl ?_; (with_reducible refine (laws_markIntS.calls kj51 (fun k_ => some k_ = (.slice Ao32 t876.length co32 : Value).ownBlock) (.slice Ao32 t876.length co32) t876 t893 t895 t896 w _ ?side1 ?side2 A57.out).mono ?_); (case side1 => exact Lz2 HB GE858 GE875); (case side2 => exact Kd.R_tight rfl HO_9.out); rintro e w62 ⟨rfl, hy0, hb, hkp⟩; refine ⟨_, rfl, ?_⟩; replace HO_6 := Aside0.mk (Kd.R_mono (ok' := fun k_ => some k_ ≠ (.slice Ao32 t876.length co32 : Value).ownBlock ∧ some k_ ≠ (v880 : Value).ownBlock) (Kd.R_keptB (HO_6.out) hkp (fun k_ hk_ hs_ => (hk_.1) hs_)) (fun k_ hk_ => ⟨hk_.1.1, hk_.1.2⟩)); replace HO_10 := Aside0.mk (Kd.R_mono (ok' := fun k_ => some k_ ≠ (v868 : Value).ownBlock ∧ some k_ ≠ (.slice Ao32 t876.length co32 : Value).ownBlock) (Kd.R_keptB (HO_10.out) hkp (fun k_ hk_ hs_ => (hk_.2) hs_)) (fun k_ hk_ => ⟨hk_.1.1, hk_.1.2⟩)); replace HO_876001 := Aside0.mk (Kd.R_mono (ok' := fun k_ => True) (Kd.R_keptB ((Kd.R_apart' HO_876001.out (Kd.R_typed HO_9.out) (by decide))) hkp (fun k_ hk_ hs_ => (hk_.2) hs_)) (fun k_ hk_ => trivial)); replace BK858 := Aside0.mk (blk_kept (Bz BK858) hkp (fun hs_ => (fun e_ => (Kd.R_ne HO_9.out BK858.out (by decide)) e_) hs_)); replace BK875 := Aside0.mk (blk_kept (Bz BK875) hkp (fun hs_ => (fun e_ => (Kd.R_ne HO_9.out BK875.out (by decide)) e_) hs_)); replace HO_9 := Aside0.mk (Kd.R_reok rfl hy0 (fun k_ e_ => HO_9.out.1 k_ e_)); replace HB := Aside0.mk (hb); (try clear hb); (try clear hkp); (try clear hy0)))
             (try simp only [Act.put, List.setIfInBounds_toArray, List.set_cons_zero, List.set_cons_succ])
             go_cut [80] (fun v80 wc => ∃ (kq : Nat) (x80_57 : Bool), v80 = .bool x80_57 ∧ Aside0 (laws_FnExactResidualOf.j6 kq l1 t867 t870 t879 x80_57 a0_0 l0_1 = some r) ∧ Aside0 (kq ≤ kj51) ∧ Aside0 (Kd.R (Kd.int .i64) 3 wc w.heap.size (fun k_ => some k_ ≠ (v880 : Value).ownBlock) v868 t867) ∧ Aside0 (Kd.R (Kd.int .i64) 3 wc w.heap.size (fun k_ => some k_ ≠ (v868 : Value).ownBlock) v880 t879) ∧ Aside0 (Kd.R k68 68 wc w.heap.size (fun _ => True) (.slice Ao29 t872.length co29) t894) ∧ Aside0 (wc.heap[gb858]? = some (.cells #[.int .i64 a0_0, (.slice A0_1 l0_1.length c0_1)] 33 (0, 0))) ∧ Aside0 (wc.heap[gb875]? = some (.cells #[.int .i64 t871, (.slice Ao29 t872.length co29)] 37 (0, 0))) ∧ Aside0 (Below w.heap.size w wc))
             case first =>
              have H := HC58.out
              clear HC58
              by_cases c63 : t895 < 0
              ·rw [if_pos c63] at H
               have c63b0 : decide (t895 < 0) = true := decide_eq_true c63
               clear c63
               (first | rw [c63b0] | (simp only [i64_w, i32_w]; rw [c63b0]) | skip)
               have H' := Aside0.mk H
               clear H
               go_wp2
               go_meet
               case rel => exact ⟨_, (true), (by first | rfl | (simp; done) | (simp [*]; done)), H', ⟨by have := HJ2.out; have := HJ6.out; have := HJ16.out; have := HJ39.out; have := HJ43.out; have := HJ51.out; first | omega | exact Nat.le_refl _⟩, ⟨by (with_reducible repeat (first | apply Kd.R_alloc | apply Kd.R_drewN | apply Kd.R_drew)); exact Kd.R_mono HO_6.out (fun _ hk => hk.2)⟩, ⟨by (with_reducible repeat (first | apply Kd.R_alloc | apply Kd.R_drewN | apply Kd.R_drew)); exact Kd.R_mono HO_10.out (fun _ hk => hk.1)⟩, ⟨by exact Rz HO_876001⟩, ⟨by exact Bz BK858⟩, ⟨by exact Bz BK875⟩, ⟨by exact Lz2 HB GE858 GE875⟩⟩
              rw [if_neg c63] at H
              have c63b0 : decide (t895 < 0) = false := decide_eq_false c63
              clear c63
              (first | rw [c63b0] | (simp only [i64_w, i32_w]; rw [c63b0]) | skip)
              replace H := Option.bind_eq_some_iff.mp H
              obtain ⟨t897, A640, H⟩ := H
              replace H : (if t897 = true then (laws_FnExactResidualOf.j6 kj51 l1 t867 t870 t879 (t882 != t870) a0_0 l0_1) else (laws_FnExactResidualOf.j6 kj51 l1 t867 t870 t879 true a0_0 l0_1)) = some r := H
              have A64 := Aside0.mk A640
              clear A640
              by_cases c65 : t897 = true
              ·subst c65
               have H1 : (laws_FnExactResidualOf.j6 kj51 l1 t867 t870 t879 (t882 != t870) a0_0 l0_1) = some r := by rw [if_pos rfl] at H; exact H
               clear H
               have H := H1
               clear H1
               have H' := Aside0.mk H
               clear H
               obtain ⟨Ao66, co66, eo66⟩ := Kd.R_slice HO_10.out
               subst eo66
               obtain ⟨Ao67, co67, eo67⟩ := Kd.R_slice HO_6.out
               subst eo67
               go_wp2_with (first | (go_at_call 19; (with_reducible refine (laws_eqIntS.calls kj51 _ _ t879 _ _ t867 true _ ?side1 ?side2 ?side3 ?side4 A64.out).mono ?_); (case side1 => exact Cz ((Kd.R_reads' HO_10.out).2.2)); (case side2 => exact (Kd.R_reads' HO_10.out).2.1); (case side3 => exact Cz ((Kd.R_reads' HO_6.out).2.2)); (case side4 => exact (Kd.R_reads' HO_6.out).2.1); rintro e w' ⟨rfl, ⟨nd, rfl⟩⟩))
               go_meet
               case rel => exact ⟨_, ((t882 != t870)), (by first | rfl | (simp; done) | (simp [*]; done)), H', ⟨by have := HJ2.out; have := HJ6.out; have := HJ16.out; have := HJ39.out; have := HJ43.out; have := HJ51.out; first | omega | exact Nat.le_refl _⟩, ⟨by (with_reducible repeat (first | apply Kd.R_alloc | apply Kd.R_drewN | apply Kd.R_drew)); exact Kd.R_mono HO_6.out (fun _ hk => hk.2)⟩, ⟨by (with_reducible repeat (first | apply Kd.R_alloc | apply Kd.R_drewN | apply Kd.R_drew)); exact Kd.R_mono HO_10.out (fun _ hk => hk.1)⟩, ⟨by exact Rz HO_876001⟩, ⟨by exact Bz BK858⟩, ⟨by exact Bz BK875⟩, ⟨by exact Lz2 HB GE858 GE875⟩⟩
              replace c65 := Bool.eq_false_iff.mpr c65
              subst c65
              have H1 : (laws_FnExactResidualOf.j6 kj51 l1 t867 t870 t879 true a0_0 l0_1) = some r := by rw [if_neg (show ¬ (false = true) by decide)] at H; exact H
              clear H
              have H := H1
              clear H1
              have H' := Aside0.mk H
              clear H
              obtain ⟨Ao68, co68, eo68⟩ := Kd.R_slice HO_10.out
              subst eo68
              obtain ⟨Ao69, co69, eo69⟩ := Kd.R_slice HO_6.out
              subst eo69
              go_wp2_with (first | (go_at_call 19; (with_reducible refine (laws_eqIntS.calls kj51 _ _ t879 _ _ t867 false _ ?side1 ?side2 ?side3 ?side4 A64.out).mono ?_); (case side1 => exact Cz ((Kd.R_reads' HO_10.out).2.2)); (case side2 => exact (Kd.R_reads' HO_10.out).2.1); (case side3 => exact Cz ((Kd.R_reads' HO_6.out).2.2)); (case side4 => exact (Kd.R_reads' HO_6.out).2.1); rintro e w' ⟨rfl, ⟨nd, rfl⟩⟩))
              go_meet
              case rel => exact ⟨_, (true), (by first | rfl | (simp; done) | (simp [*]; done)), H', ⟨by have := HJ2.out; have := HJ6.out; have := HJ16.out; have := HJ39.out; have := HJ43.out; have := HJ51.out; first | omega | exact Nat.le_refl _⟩, ⟨by (with_reducible repeat (first | apply Kd.R_alloc | apply Kd.R_drewN | apply Kd.R_drew)); exact Kd.R_mono HO_6.out (fun _ hk => hk.2)⟩, ⟨by (with_reducible repeat (first | apply Kd.R_alloc | apply Kd.R_drewN | apply Kd.R_drew)); exact Kd.R_mono HO_10.out (fun _ hk => hk.1)⟩, ⟨by exact Rz HO_876001⟩, ⟨by exact Bz BK858⟩, ⟨by exact Bz BK875⟩, ⟨by exact Lz2 HB GE858 GE875⟩⟩
             case rest =>
              clear HC58
              try clear c1
              try clear c5
              try clear c5b0
              try clear c5b1
              try clear c10
              try clear c10b0
              try clear c35
              try clear c41
              try clear c49
              try clear c55
              try clear c63
              try clear c63b0
              try clear c65
              obtain ⟨kq, x80_57, rfl, HA, HJ57, HO_6, HO_10, HO_876001, BK858, BK875, HB⟩ := hcut
              have hl876001_57 := (Kd.R_reads' HO_876001.out).1
              rw [hl876001_57] at HO_876001
              (try simp only [hl876001_57])
              (try simp only [hl876001_57] at BK858)
              (try simp only [hl876001_57] at BK875)
              (try simp only [hl876001_57] at HO_6)
              (try simp only [hl876001_57] at HO_10)
              cases kq with
              | zero => exact absurd HA.out (by simp [laws_FnExactResidualOf.j6])
              | succ kj57 =>
               have H := HA.out
               clear HA
               simp only [laws_FnExactResidualOf.j6] at H
               have HC70 := Aside0.mk H
               clear H
               go_upto_if 80 with (fail)
               go_cut [] (fun wc => ∃ (kq : Nat), Aside0 (laws_FnExactResidualOf.j7 kq l1 t867 t870 t879 a0_0 l0_1 = some r) ∧ Aside0 (kq ≤ kj57) ∧ Aside0 (Kd.R (Kd.int .i64) 3 wc w.heap.size (fun k_ => some k_ ≠ (v880 : Value).ownBlock) v868 t867) ∧ Aside0 (Kd.R (Kd.int .i64) 3 wc w.heap.size (fun k_ => some k_ ≠ (v868 : Value).ownBlock) v880 t879) ∧ Aside0 (Kd.R k68 68 wc w.heap.size (fun _ => True) (.slice Ao29 t894.length co29) t894) ∧ Aside0 (wc.heap[gb858]? = some (.cells #[.int .i64 a0_0, (.slice A0_1 l0_1.length c0_1)] 33 (0, 0))) ∧ Aside0 (wc.heap[gb875]? = some (.cells #[.int .i64 t871, (.slice Ao29 t894.length co29)] 37 (0, 0))) ∧ Aside0 (Below w.heap.size w wc))
               case first =>
                have H := HC70.out
                clear HC70
                by_cases c71 : x80_57 = true
                ·subst c71
                 have H1 : (some false) = some r := by rw [if_pos rfl] at H; exact H
                 clear H
                 have H := H1
                 clear H1
                 obtain rfl := Option.some.inj H
                 go_wp2
                 go_ret
                 exact ⟨by first | rfl | (simp [errW_none, errW_some] <;> rfl) | (simp [*, errW_none, errW_some] <;> rfl), by exact Lz2 HB GE858 GE875⟩
                replace c71 := Bool.eq_false_iff.mpr c71
                subst c71
                have H1 : (laws_FnExactResidualOf.j7 kj57 l1 t867 t870 t879 a0_0 l0_1) = some r := by rw [if_neg (show ¬ (false = true) by decide)] at H; exact H
                clear H
                have H := H1
                clear H1
                have H' := Aside0.mk H
                clear H
                go_wp2
                go_meet
                case rel => exact ⟨_, H', ⟨by have := HJ2.out; have := HJ6.out; have := HJ16.out; have := HJ39.out; have := HJ43.out; have := HJ51.out; have := HJ57.out; first | omega | exact Nat.le_refl _⟩, ⟨by (try simp only [hl876001_57]); exact Rz HO_6⟩, ⟨by (try simp only [hl876001_57]); exact Rz HO_10⟩, ⟨by (try simp only [hl876001_57]); exact Rz HO_876001⟩, ⟨by (try simp only [hl876001_57]); exact Bz BK858⟩, ⟨by (try simp only [hl876001_57]); exact Bz BK875⟩, ⟨by exact Lz2 HB GE858 GE875⟩⟩
               case rest =>
                clear HC70
                try clear c1
                try clear c5
                try clear c5b0
                try clear c5b1
                try clear c10
                try clear c10b0
                try clear c35
                try clear c41
                try clear c49
                try clear c55
                try clear c63
                try clear c63b0
                try clear c65
                try clear c71
                obtain ⟨kq, HA, HJ69, HO_6, HO_10, HO_876001, BK858, BK875, HB⟩ := hcut
                cases kq with
                | zero => exact absurd HA.out (by simp [laws_FnExactResidualOf.j7])
                | succ kj69 =>
                 have H := HA.out
                 clear HA
                 simp only [laws_FnExactResidualOf.j7] at H
                 replace H := Option.bind_eq_some_iff.mp H
                 obtain ⟨⟨t898, t899⟩, A720, H⟩ := H
                 replace H : ((laws_heldIntS.f kj69 t899 1).bind fun t900 => (if t900 < 0 then (some false) else (laws_FnExactResidualOf.j8 kj69 l1 t867 t870 t899 t898 t900 a0_0 l0_1))) = some r := H
                 have A72 := Aside0.mk A720
                 clear A720
                 replace H := Option.bind_eq_some_iff.mp H
                 obtain ⟨t900, A730, H⟩ := H
                 replace H : (if t900 < 0 then (some false) else (laws_FnExactResidualOf.j8 kj69 l1 t867 t870 t899 t898 t900 a0_0 l0_1)) = some r := H
                 have A73 := Aside0.mk A730
                 clear A730
                 have HC74 := Aside0.mk H
                 clear H
                 obtain ⟨Ao75, co75, eo75⟩ := Kd.R_slice HO_10.out
                 subst eo75
                 go_upto_if 88 with (first | ((with_reducible refine gate_callee (f := 22) rfl ?_); refine goesM_ (some 83) rfl rfl Try.func22 (by kernel_rfl) rfl #[.slice Ao75 t879.length co75, .int .i64 1] rfl ?_; (with_reducible refine (laws_markIntS.calls kj69 (fun k_ => some k_ = (.slice Ao75 t879.length co75 : Value).ownBlock) (.slice Ao75 t879.length co75) t879 1 t898 t899 w _ ?side1 ?side2 A72.out).mono ?_); (case side1 => exact Lz2 HB GE858 GE875); (case side2 => exact Kd.R_tight rfl HO_10.out); rintro e w76 ⟨rfl, hy0, hb, hkp⟩; refine ⟨_, rfl, ?_⟩; replace HO_6 := Aside0.mk (Kd.R_mono (ok' := fun k_ => some k_ ≠ (.slice Ao75 t879.length co75 : Value).ownBlock) (Kd.R_keptB (HO_6.out) hkp (fun k_ hk_ hs_ => (hk_) hs_)) (fun k_ hk_ => hk_.1)); replace HO_876001 := Aside0.mk (Kd.R_mono (ok' := fun k_ => True) (Kd.R_keptB ((Kd.R_apart' HO_876001.out (Kd.R_typed HO_10.out) (by decide))) hkp (fun k_ hk_ hs_ => (hk_.2) hs_)) (fun k_ hk_ => trivial)); replace BK858 := Aside0.mk (blk_kept (Bz BK858) hkp (fun hs_ => (fun e_ => (Kd.R_ne HO_10.out BK858.out (by decide)) e_) hs_)); replace BK875 := Aside0.mk (blk_kept (Bz BK875) hkp (fun hs_ => (fun e_ => (Kd.R_ne HO_10.out BK875.out (by decide)) e_) hs_)); replace HO_10 := Aside0.mk (Kd.R_reok rfl hy0 (fun k_ e_ => HO_10.out.1 k_ e_)); replace HB := Aside0.mk (hb); (try clear hb); (try clear hkp); (try clear hy0)) | ((with_reducible refine gate_callee (f := 23) rfl ?_); refine goesL_ (some 86) rfl rfl Try.func23 (by kernel_rfl) rfl #[.slice Ao75 t899.length co75, .int .i64 1] rfl (by (try simp only [List.map_toArray, List.map_cons, List.map_nil]); first | done | (rw [show t899.length = t879.length from (Kd.R_reads' HO_10.out).1.symm] <;> rfl) | rfl | (simp only [List.length_drop, List.length_take]; rfl)) ?_; (with_reducible refine (laws_heldIntS.calls kj69 _ _ t899 1 t900 _ ?side1 ?side2 A73.out).mono ?_); (case side1 => exact Cz ((Kd.R_reads' HO_10.out).2.2)); (case side2 => rw [show t899.length = t879.length from (Kd.R_reads' HO_10.out).1.symm]; exact (Kd.R_reads' HO_10.out).2.1); rintro e w' ⟨rfl, ⟨nd, rfl⟩⟩; refine ⟨_, rfl, ?_⟩))
                 (try simp only [Act.put, List.setIfInBounds_toArray, List.set_cons_zero, List.set_cons_succ])
                 go_cut [] (fun wc => ∃ (kq : Nat), Aside0 (laws_FnExactResidualOf.j8 kq l1 t867 t870 t899 t898 t900 a0_0 l0_1 = some r) ∧ Aside0 (kq ≤ kj69) ∧ Aside0 (Kd.R (Kd.int .i64) 3 wc w.heap.size (fun k_ => some k_ ≠ ((.slice Ao75 t879.length co75) : Value).ownBlock) v868 t867) ∧ Aside0 (Kd.R (Kd.int .i64) 3 wc w.heap.size (fun k_ => some k_ ≠ (v868 : Value).ownBlock) (.slice Ao75 t879.length co75) t899) ∧ Aside0 (Kd.R k68 68 wc w.heap.size (fun _ => True) (.slice Ao29 t894.length co29) t894) ∧ Aside0 (wc.heap[gb858]? = some (.cells #[.int .i64 a0_0, (.slice A0_1 l0_1.length c0_1)] 33 (0, 0))) ∧ Aside0 (wc.heap[gb875]? = some (.cells #[.int .i64 t871, (.slice Ao29 t894.length co29)] 37 (0, 0))) ∧ Aside0 (Below w.heap.size w wc))
                 case first =>
                  have H := HC74.out
                  clear HC74
                  by_cases c77 : t900 < 0
                  ·rw [if_pos c77] at H
                   have c77b0 : decide (t900 < 0) = true := decide_eq_true c77
                   clear c77
                   (first | rw [c77b0] | (simp only [i64_w, i32_w]; rw [c77b0]) | skip)
                   obtain rfl := Option.some.inj H
                   go_wp2
                   go_ret
                   exact ⟨by first | rfl | (simp [errW_none, errW_some] <;> rfl) | (simp [*, errW_none, errW_some] <;> rfl), by exact Lz2 HB GE858 GE875⟩
                  rw [if_neg c77] at H
                  have c77b0 : decide (t900 < 0) = false := decide_eq_false c77
                  clear c77
                  (first | rw [c77b0] | (simp only [i64_w, i32_w]; rw [c77b0]) | skip)
                  have H' := Aside0.mk H
                  clear H
                  go_wp2
                  go_meet
                  case rel => exact ⟨_, H', ⟨by have := HJ2.out; have := HJ6.out; have := HJ16.out; have := HJ39.out; have := HJ43.out; have := HJ51.out; have := HJ57.out; have := HJ69.out; first | omega | exact Nat.le_refl _⟩, ⟨by (try simp only [hl876001_57]); exact Rz HO_6⟩, ⟨by (try simp only [hl876001_57]); exact Rz HO_10⟩, ⟨by (try simp only [hl876001_57]); exact Rz HO_876001⟩, ⟨by (try simp only [hl876001_57]); exact Bz BK858⟩, ⟨by (try simp only [hl876001_57]); exact Bz BK875⟩, ⟨by exact Lz2 HB GE858 GE875⟩⟩
                 case rest =>
                  clear HC74
                  try clear c1
                  try clear c5
                  try clear c5b0
                  try clear c5b1
                  try clear c10
                  try clear c10b0
                  try clear c35
                  try clear c41
                  try clear c49
                  try clear c55
                  try clear c63
                  try clear c63b0
                  try clear c65
                  try clear c71
                  try clear c77
                  try clear c77b0
                  obtain ⟨kq, HA, HJ73, HO_6, HO_10, HO_876001, BK858, BK875, HB⟩ := hcut
                  have hl10_73 := (Kd.R_reads' HO_10.out).1
                  rw [hl10_73] at HO_10
                  (try simp only [hl10_73])
                  (try simp only [hl10_73] at BK858)
                  (try simp only [hl10_73] at BK875)
                  (try simp only [hl10_73] at HO_6)
                  (try simp only [hl10_73] at HO_876001)
                  cases kq with
                  | zero => exact absurd HA.out (by simp [laws_FnExactResidualOf.j8])
                  | succ kj73 =>
                   have H := HA.out
                   clear HA
                   simp only [laws_FnExactResidualOf.j8] at H
                   have HC78 := Aside0.mk H
                   clear H
                   go_upto_if 91 with (fail)
                   go_cut [] (fun wc => ∃ (kq : Nat), Aside0 (laws_FnExactResidualOf.j9 kq l1 t867 t870 t899 t898 a0_0 l0_1 = some r) ∧ Aside0 (kq ≤ kj73) ∧ Aside0 (Kd.R (Kd.int .i64) 3 wc w.heap.size (fun k_ => some k_ ≠ ((.slice Ao75 t899.length co75) : Value).ownBlock) v868 t867) ∧ Aside0 (Kd.R (Kd.int .i64) 3 wc w.heap.size (fun k_ => some k_ ≠ (v868 : Value).ownBlock) (.slice Ao75 t899.length co75) t899) ∧ Aside0 (Kd.R k68 68 wc w.heap.size (fun _ => True) (.slice Ao29 t894.length co29) t894) ∧ Aside0 (wc.heap[gb858]? = some (.cells #[.int .i64 a0_0, (.slice A0_1 l0_1.length c0_1)] 33 (0, 0))) ∧ Aside0 (wc.heap[gb875]? = some (.cells #[.int .i64 t871, (.slice Ao29 t894.length co29)] 37 (0, 0))) ∧ Aside0 (Below w.heap.size w wc))
                   case first =>
                    have H := HC78.out
                    clear HC78
                    by_cases c79 : t900 = t898
                    ·rw [if_pos c79] at H
                     have c79b0 : (t900 == t898) = true := beq_iff_eq.mpr c79
                     have c79b1 : (t900 != t898) = false := bne_eq_false_iff_eq.mpr c79
                     clear c79
                     (first | rw [c79b0] | (simp only [i64_w, i32_w]; rw [c79b0]) | skip)
                     have H' := Aside0.mk H
                     clear H
                     go_wp2
                     go_meet
                     case rel => exact ⟨_, H', ⟨by have := HJ2.out; have := HJ6.out; have := HJ16.out; have := HJ39.out; have := HJ43.out; have := HJ51.out; have := HJ57.out; have := HJ69.out; have := HJ73.out; first | omega | exact Nat.le_refl _⟩, ⟨by (try simp only [hl876001_57]); (try simp only [hl10_73]); exact Rz HO_6⟩, ⟨by (try simp only [hl876001_57]); (try simp only [hl10_73]); exact Rz HO_10⟩, ⟨by (try simp only [hl876001_57]); (try simp only [hl10_73]); exact Rz HO_876001⟩, ⟨by (try simp only [hl876001_57]); (try simp only [hl10_73]); exact Bz BK858⟩, ⟨by (try simp only [hl876001_57]); (try simp only [hl10_73]); exact Bz BK875⟩, ⟨by exact Lz2 HB GE858 GE875⟩⟩
                    rw [if_neg c79] at H
                    have c79b0 : (t900 == t898) = false := beq_eq_false_iff_ne.mpr c79
                    have c79b1 : (t900 != t898) = true := bne_iff_ne.mpr c79
                    (first | rw [c79b0] | (simp only [i64_w, i32_w]; rw [c79b0]) | skip)
                    obtain rfl := Option.some.inj H
                    go_wp2
                    go_ret
                    exact ⟨by first | rfl | (simp [errW_none, errW_some] <;> rfl) | (simp [*, errW_none, errW_some] <;> rfl), by exact Lz2 HB GE858 GE875⟩
                   case rest =>
                    clear HC78
                    try clear c1
                    try clear c5
                    try clear c5b0
                    try clear c5b1
                    try clear c10
                    try clear c10b0
                    try clear c35
                    try clear c41
                    try clear c49
                    try clear c55
                    try clear c63
                    try clear c63b0
                    try clear c65
                    try clear c71
                    try clear c77
                    try clear c77b0
                    try clear c79
                    try clear c79b0
                    try clear c79b1
                    obtain ⟨kq, HA, HJ77, HO_6, HO_10, HO_876001, BK858, BK875, HB⟩ := hcut
                    cases kq with
                    | zero => exact absurd HA.out (by simp [laws_FnExactResidualOf.j9])
                    | succ kj77 =>
                     have H := HA.out
                     clear HA
                     simp only [laws_FnExactResidualOf.j9] at H
                     replace H := Option.bind_eq_some_iff.mp H
                     obtain ⟨⟨t901, t902⟩, A800, H⟩ := H
                     replace H : ((laws_toIntS.f kj77 l1).bind fun t905 => ((impl_ResidualOf.f kj77 t901 t902 t905).bind fun bt908 => ((laws_eqIntS.f kj77 bt908.1 t867).bind fun t912 => (if t912 = true then (laws_FnExactResidualOf.j10 kj77 t899 t898 (bt908.2 != t870)) else (laws_FnExactResidualOf.j10 kj77 t899 t898 true))))) = some r := H
                     have A80 := Aside0.mk A800
                     clear A800
                     replace H := Option.bind_eq_some_iff.mp H
                     obtain ⟨t905, A810, H⟩ := H
                     replace H : ((impl_ResidualOf.f kj77 t901 t902 t905).bind fun bt908 => ((laws_eqIntS.f kj77 bt908.1 t867).bind fun t912 => (if t912 = true then (laws_FnExactResidualOf.j10 kj77 t899 t898 (bt908.2 != t870)) else (laws_FnExactResidualOf.j10 kj77 t899 t898 true)))) = some r := H
                     have A81 := Aside0.mk A810
                     clear A810
                     replace H := Option.bind_eq_some_iff.mp H
                     obtain ⟨⟨t908, t911⟩, A820, H⟩ := H
                     replace H : ((laws_eqIntS.f kj77 t908 t867).bind fun t912 => (if t912 = true then (laws_FnExactResidualOf.j10 kj77 t899 t898 (t911 != t870)) else (laws_FnExactResidualOf.j10 kj77 t899 t898 true))) = some r := H
                     have A82 := Aside0.mk A820
                     clear A820
                     have HC83 := Aside0.mk H
                     clear H
                     have hnb84 := NB858_875.out
                     have hnc84 := NB875_858.out
                     have hcz85_0 : wc.cell? ⟨gb858, 0, none⟩ = some (.int .i64 a0_0) := (blk_cell BK858.out 0).trans rfl
                     have hcz85_1 : wc.cell? ⟨gb858, 1, none⟩ = some (.slice A0_1 l0_1.length c0_1) := (blk_cell BK858.out 1).trans rfl
                     have hfz85_0 := blk_frozen BK858.out 0
                     have hfz85_1 := blk_frozen BK858.out 1
                     go_upto_region 31 with (first | ((with_reducible refine gate_callee (f := 26) rfl ?_); refine goesM_ (some 94) rfl rfl Try.func26 (by kernel_rfl) rfl #[.agg #[.int .i64 a0_0, .slice A0_1 l0_1.length c0_1]] rfl ?_; (with_reducible refine (laws_toGraph.calls kj77 a0_0 _ _ l0_1 t901 t902 _ ?side1 ?side2 A80.out).mono ?_); (case side1 => exact Cz ((Kd.C_below HR0_1.out HB.out))); (case side2 => exact HC0_1.out); rintro e w86 ⟨v903, rfl, ho0, hb⟩; refine ⟨_, rfl, ?_⟩; replace HO_6 := Aside0.mk (Kd.R_below (Rz HO_6) hb); replace HO_10 := Aside0.mk (Kd.R_below (Rz HO_10) hb); have HO904 := Aside0.mk (Kd.R_lower (Kd.R_new' ho0 (Kd.R_lt (Rz HO_876001))) (below_size (by exact Lz2 HB GE858 GE875))); replace HO_876001 := Aside0.mk (Kd.R_elder' (Rz HO_876001) (Kd.R_base ho0) hb); replace BK858 := Aside0.mk (blk_below (g := gb858) (o := .cells #[.int .i64 a0_0, .slice A0_1 l0_1.length c0_1] 33 (0, 0)) (Bz BK858) hb); replace BK875 := Aside0.mk (blk_below (g := gb875) (o := .cells #[.int .i64 t871, .slice Ao29 t894.length co29] 37 (0, 0)) (Bz BK875) hb); replace HB := Aside0.mk (below_step (by exact Lz2 HB GE858 GE875) hb); (try clear hb); (try clear ho0)) | ((with_reducible refine gate_callee (f := 36) rfl ?_); refine goesM_ (some 96) rfl rfl Try.func36 (by kernel_rfl) rfl #[.slice A1 l1.length c1] rfl ?_; (with_reducible refine (laws_toIntS.calls kj77 _ _ l1 t905 _ ?side1 ?side2 A81.out).mono ?_); (case side1 => exact Cz ((Kd.C_below HR1.out HB.out))); (case side2 => exact HC1.out); rintro e w87 ⟨v906, rfl, ho0, hb⟩; refine ⟨_, rfl, ?_⟩; replace HO_876001 := Aside0.mk (Kd.R_below (Rz HO_876001) hb); replace HO904 := Aside0.mk (Kd.R_below (Rz HO904) hb); have HO907 := Aside0.mk (Kd.R_lower (Kd.R_new' (Kd.R_new' ho0 (Kd.R_lt (Rz HO_6))) (Kd.R_lt (Rz HO_10))) (below_size (by exact Lz2 HB GE858 GE875))); replace HO_6 := Aside0.mk (Kd.R_elder' (Rz HO_6) (Kd.R_base ho0) hb); replace HO_10 := Aside0.mk (Kd.R_elder' (Rz HO_10) (Kd.R_base ho0) hb); replace BK858 := Aside0.mk (blk_below (g := gb858) (o := .cells #[.int .i64 a0_0, .slice A0_1 l0_1.length c0_1] 33 (0, 0)) (Bz BK858) hb); replace BK875 := Aside0.mk (blk_below (g := gb875) (o := .cells #[.int .i64 t871, .slice Ao29 t894.length co29] 37 (0, 0)) (Bz BK875) hb); replace HB := Aside0.mk (below_step (by exact Lz2 HB GE858 GE875) hb); (try clear hb); (try clear ho0); obtain ⟨Ao88, co88, eo88⟩ := Kd.R_slice HO904.out; subst eo88; obtain ⟨Ao89, co89, eo89⟩ := Kd.R_slice HO907.out; subst eo89) | ((with_reducible refine gate_callee (f := 46) rfl ?_); refine goesM_ (some 97) rfl rfl Try.func46 (by kernel_rfl) rfl #[.agg #[.int .i64 t901, .slice Ao88 t902.length co88], .slice Ao89 t905.length co89] rfl ?_; (with_reducible refine (impl_ResidualOf.calls kj77 t901 _ _ t902 _ _ t905 t908 t911 _ ?side1 ?side2 ?side3 ?side4 A82.out).mono ?_); (case side1 => exact Cz ((Kd.R_reads' HO904.out).2.2)); (case side2 => exact (Kd.R_reads' HO904.out).2.1); (case side3 => exact Cz ((Kd.R_reads' HO907.out).2.2)); (case side4 => exact (Kd.R_reads' HO907.out).2.1); rintro e w90 ⟨v909, rfl, ho0, hb⟩; refine ⟨_, rfl, ?_⟩; replace HO_876001 := Aside0.mk (Kd.R_below (Rz HO_876001) hb); replace HO904 := Aside0.mk (Kd.R_below (Rz HO904) hb); have HO910 := Aside0.mk (Kd.R_lower (Kd.R_new' (Kd.R_new' (Kd.R_new' ho0 (Kd.R_lt (Rz HO_6))) (Kd.R_lt (Rz HO_10))) (Kd.R_lt (Rz HO907))) (below_size (by exact Lz2 HB GE858 GE875))); replace HO_6 := Aside0.mk (Kd.R_elder' (Rz HO_6) (Kd.R_base ho0) hb); replace HO_10 := Aside0.mk (Kd.R_elder' (Rz HO_10) (Kd.R_base ho0) hb); replace HO907 := Aside0.mk (Kd.R_elder' (Rz HO907) (Kd.R_base ho0) hb); replace BK858 := Aside0.mk (blk_below (g := gb858) (o := .cells #[.int .i64 a0_0, .slice A0_1 l0_1.length c0_1] 33 (0, 0)) (Bz BK858) hb); replace BK875 := Aside0.mk (blk_below (g := gb875) (o := .cells #[.int .i64 t871, .slice Ao29 t894.length co29] 37 (0, 0)) (Bz BK875) hb); replace HB := Aside0.mk (below_step (by exact Lz2 HB GE858 GE875) hb); (try clear hb); (try clear ho0)))
                     (try simp only [Act.put, List.setIfInBounds_toArray, List.set_cons_zero, List.set_cons_succ])
                     go_cut [108] (fun v108 wc => ∃ (kq : Nat) (x108_82 : Bool), v108 = .bool x108_82 ∧ Aside0 (laws_FnExactResidualOf.j10 kq t899 t898 x108_82 = some r) ∧ Aside0 (kq ≤ kj77) ∧ Aside0 (Kd.R (Kd.int .i64) 3 wc w.heap.size (fun _ => True) (.slice Ao75 t899.length co75) t899) ∧ Aside0 (Kd.R k68 68 wc w.heap.size (fun _ => True) (.slice Ao29 t894.length co29) t894) ∧ Aside0 (wc.heap[gb858]? = some (.cells #[.int .i64 a0_0, (.slice A0_1 l0_1.length c0_1)] 33 (0, 0))) ∧ Aside0 (wc.heap[gb875]? = some (.cells #[.int .i64 t871, (.slice Ao29 t894.length co29)] 37 (0, 0))) ∧ Aside0 (Below w.heap.size w wc))
                     case first =>
                      have H := HC83.out
                      clear HC83
                      replace H := Option.bind_eq_some_iff.mp H
                      obtain ⟨t912, A910, H⟩ := H
                      replace H : (if t912 = true then (laws_FnExactResidualOf.j10 kj77 t899 t898 (t911 != t870)) else (laws_FnExactResidualOf.j10 kj77 t899 t898 true)) = some r := H
                      have A91 := Aside0.mk A910
                      clear A910
                      by_cases c92 : t912 = true
                      ·subst c92
                       have H1 : (laws_FnExactResidualOf.j10 kj77 t899 t898 (t911 != t870)) = some r := by rw [if_pos rfl] at H; exact H
                       clear H
                       have H := H1
                       clear H1
                       have H' := Aside0.mk H
                       clear H
                       obtain ⟨Ao93, co93, eo93⟩ := Kd.R_slice HO910.out
                       subst eo93
                       obtain ⟨Ao94, co94, eo94⟩ := Kd.R_slice HO_6.out
                       subst eo94
                       go_wp2_with (first | ((with_reducible refine gate_callee (f := 19) rfl ?_); refine goesM_ (some 102) rfl rfl Try.func19 (by kernel_rfl) rfl #[.slice Ao93 t908.length co93, .slice Ao94 t867.length co94] rfl ?_; (with_reducible refine (laws_eqIntS.calls kj77 _ _ t908 _ _ t867 true _ ?side1 ?side2 ?side3 ?side4 A91.out).mono ?_); (case side1 => exact Cz ((Kd.R_reads' HO910.out).2.2)); (case side2 => exact (Kd.R_reads' HO910.out).2.1); (case side3 => exact Cz ((Kd.R_reads' HO_6.out).2.2)); (case side4 => exact (Kd.R_reads' HO_6.out).2.1); rintro e w' ⟨rfl, ⟨nd, rfl⟩⟩; refine ⟨_, rfl, ?_⟩))
                       go_meet
                       case rel => exact ⟨_, ((t911 != t870)), (by first | rfl | (simp; done) | (simp [*]; done)), H', ⟨by have := HJ2.out; have := HJ6.out; have := HJ16.out; have := HJ39.out; have := HJ43.out; have := HJ51.out; have := HJ57.out; have := HJ69.out; have := HJ73.out; have := HJ77.out; first | omega | exact Nat.le_refl _⟩, ⟨by (try simp only [hl876001_57]); (try simp only [hl10_73]); (with_reducible repeat (first | apply Kd.R_alloc | apply Kd.R_drewN | apply Kd.R_drew)); exact Kd.R_mono HO_10.out (fun _ hk => trivial)⟩, ⟨by (try simp only [hl876001_57]); (try simp only [hl10_73]); (with_reducible repeat (first | apply Kd.R_alloc | apply Kd.R_drewN | apply Kd.R_drew)); exact Kd.R_mono HO_876001.out (fun _ hk => trivial)⟩, ⟨by (try simp only [hl876001_57]); (try simp only [hl10_73]); exact Bz BK858⟩, ⟨by (try simp only [hl876001_57]); (try simp only [hl10_73]); exact Bz BK875⟩, ⟨by exact Lz2 HB GE858 GE875⟩⟩
                      replace c92 := Bool.eq_false_iff.mpr c92
                      subst c92
                      have H1 : (laws_FnExactResidualOf.j10 kj77 t899 t898 true) = some r := by rw [if_neg (show ¬ (false = true) by decide)] at H; exact H
                      clear H
                      have H := H1
                      clear H1
                      have H' := Aside0.mk H
                      clear H
                      obtain ⟨Ao95, co95, eo95⟩ := Kd.R_slice HO910.out
                      subst eo95
                      obtain ⟨Ao96, co96, eo96⟩ := Kd.R_slice HO_6.out
                      subst eo96
                      go_wp2_with (first | ((with_reducible refine gate_callee (f := 19) rfl ?_); refine goesM_ (some 102) rfl rfl Try.func19 (by kernel_rfl) rfl #[.slice Ao95 t908.length co95, .slice Ao96 t867.length co96] rfl ?_; (with_reducible refine (laws_eqIntS.calls kj77 _ _ t908 _ _ t867 false _ ?side1 ?side2 ?side3 ?side4 A91.out).mono ?_); (case side1 => exact Cz ((Kd.R_reads' HO910.out).2.2)); (case side2 => exact (Kd.R_reads' HO910.out).2.1); (case side3 => exact Cz ((Kd.R_reads' HO_6.out).2.2)); (case side4 => exact (Kd.R_reads' HO_6.out).2.1); rintro e w' ⟨rfl, ⟨nd, rfl⟩⟩; refine ⟨_, rfl, ?_⟩))
                      go_meet
                      case rel => exact ⟨_, (true), (by first | rfl | (simp; done) | (simp [*]; done)), H', ⟨by have := HJ2.out; have := HJ6.out; have := HJ16.out; have := HJ39.out; have := HJ43.out; have := HJ51.out; have := HJ57.out; have := HJ69.out; have := HJ73.out; have := HJ77.out; first | omega | exact Nat.le_refl _⟩, ⟨by (try simp only [hl876001_57]); (try simp only [hl10_73]); (with_reducible repeat (first | apply Kd.R_alloc | apply Kd.R_drewN | apply Kd.R_drew)); exact Kd.R_mono HO_10.out (fun _ hk => trivial)⟩, ⟨by (try simp only [hl876001_57]); (try simp only [hl10_73]); (with_reducible repeat (first | apply Kd.R_alloc | apply Kd.R_drewN | apply Kd.R_drew)); exact Kd.R_mono HO_876001.out (fun _ hk => trivial)⟩, ⟨by (try simp only [hl876001_57]); (try simp only [hl10_73]); exact Bz BK858⟩, ⟨by (try simp only [hl876001_57]); (try simp only [hl10_73]); exact Bz BK875⟩, ⟨by exact Lz2 HB GE858 GE875⟩⟩
                     case rest =>
                      clear HC83
                      try clear c1
                      try clear c5
                      try clear c5b0
                      try clear c5b1
                      try clear c10
                      try clear c10b0
                      try clear c35
                      try clear c41
                      try clear c49
                      try clear c55
                      try clear c63
                      try clear c63b0
                      try clear c65
                      try clear c71
                      try clear c77
                      try clear c77b0
                      try clear c79
                      try clear c79b0
                      try clear c79b1
                      try clear c92
                      obtain ⟨kq, x108_82, rfl, HA, HJ82, HO_10, HO_876001, BK858, BK875, HB⟩ := hcut
                      cases kq with
                      | zero => exact absurd HA.out (by simp [laws_FnExactResidualOf.j10])
                      | succ kj82 =>
                       have H := HA.out
                       clear HA
                       simp only [laws_FnExactResidualOf.j10] at H
                       have HC97 := Aside0.mk H
                       clear H
                       go_upto_if 108 with (fail)
                       go_cut [] (fun wc => ∃ (kq : Nat), Aside0 (laws_FnExactResidualOf.j11 kq t899 t898 = some r) ∧ Aside0 (kq ≤ kj82) ∧ Aside0 (Kd.R (Kd.int .i64) 3 wc w.heap.size (fun _ => True) (.slice Ao75 t899.length co75) t899) ∧ Aside0 (Kd.R k68 68 wc w.heap.size (fun _ => True) (.slice Ao29 t894.length co29) t894) ∧ Aside0 (wc.heap[gb858]? = some (.cells #[.int .i64 a0_0, (.slice A0_1 l0_1.length c0_1)] 33 (0, 0))) ∧ Aside0 (wc.heap[gb875]? = some (.cells #[.int .i64 t871, (.slice Ao29 t894.length co29)] 37 (0, 0))) ∧ Aside0 (Below w.heap.size w wc))
                       case first =>
                        have H := HC97.out
                        clear HC97
                        by_cases c98 : x108_82 = true
                        ·subst c98
                         have H1 : (some false) = some r := by rw [if_pos rfl] at H; exact H
                         clear H
                         have H := H1
                         clear H1
                         obtain rfl := Option.some.inj H
                         go_wp2
                         go_ret
                         exact ⟨by first | rfl | (simp [errW_none, errW_some] <;> rfl) | (simp [*, errW_none, errW_some] <;> rfl), by exact Lz2 HB GE858 GE875⟩
                        replace c98 := Bool.eq_false_iff.mpr c98
                        subst c98
                        have H1 : (laws_FnExactResidualOf.j11 kj82 t899 t898) = some r := by rw [if_neg (show ¬ (false = true) by decide)] at H; exact H
                        clear H
                        have H := H1
                        clear H1
                        have H' := Aside0.mk H
                        clear H
                        go_wp2
                        go_meet
                        case rel => exact ⟨_, H', ⟨by have := HJ2.out; have := HJ6.out; have := HJ16.out; have := HJ39.out; have := HJ43.out; have := HJ51.out; have := HJ57.out; have := HJ69.out; have := HJ73.out; have := HJ77.out; have := HJ82.out; first | omega | exact Nat.le_refl _⟩, ⟨by (try simp only [hl876001_57]); (try simp only [hl10_73]); exact Rz HO_10⟩, ⟨by (try simp only [hl876001_57]); (try simp only [hl10_73]); exact Rz HO_876001⟩, ⟨by (try simp only [hl876001_57]); (try simp only [hl10_73]); exact Bz BK858⟩, ⟨by (try simp only [hl876001_57]); (try simp only [hl10_73]); exact Bz BK875⟩, ⟨by exact Lz2 HB GE858 GE875⟩⟩
                       case rest =>
                        clear HC97
                        try clear c1
                        try clear c5
                        try clear c5b0
                        try clear c5b1
                        try clear c10
                        try clear c10b0
                        try clear c35
                        try clear c41
                        try clear c49
                        try clear c55
                        try clear c63
                        try clear c63b0
                        try clear c65
                        try clear c71
                        try clear c77
                        try clear c77b0
                        try clear c79
                        try clear c79b0
                        try clear c79b1
                        try clear c92
                        try clear c98
                        obtain ⟨kq, HA, HJ96, HO_10, HO_876001, BK858, BK875, HB⟩ := hcut
                        cases kq with
                        | zero => exact absurd HA.out (by simp [laws_FnExactResidualOf.j11])
                        | succ kj96 =>
                         have H := HA.out
                         clear HA
                         simp only [laws_FnExactResidualOf.j11] at H
                         replace H := Option.bind_eq_some_iff.mp H
                         obtain ⟨t913, A990, H⟩ := H
                         replace H : (if t913 < 0 then (some false) else (laws_FnExactResidualOf.j12 kj96 t898 t913)) = some r := H
                         have A99 := Aside0.mk A990
                         clear A990
                         have HC100 := Aside0.mk H
                         clear H
                         go_upto_if 113 with (first | ((with_reducible refine gate_callee (f := 23) rfl ?_); refine goesM_ (some 111) rfl rfl Try.func23 (by kernel_rfl) rfl #[.slice Ao75 t899.length co75, .int .i64 1] rfl ?_; (with_reducible refine (laws_heldIntS.calls kj96 _ _ t899 1 t913 _ ?side1 ?side2 A99.out).mono ?_); (case side1 => exact Cz ((Kd.R_reads' HO_10.out).2.2)); (case side2 => exact (Kd.R_reads' HO_10.out).2.1); rintro e w' ⟨rfl, ⟨nd, rfl⟩⟩; refine ⟨_, rfl, ?_⟩))
                         (try simp only [Act.put, List.setIfInBounds_toArray, List.set_cons_zero, List.set_cons_succ])
                         go_cut [] (fun wc => ∃ (kq : Nat), Aside0 (laws_FnExactResidualOf.j12 kq t898 t913 = some r) ∧ Aside0 (kq ≤ kj96) ∧ Aside0 (Kd.R k68 68 wc w.heap.size (fun _ => True) (.slice Ao29 t894.length co29) t894) ∧ Aside0 (wc.heap[gb858]? = some (.cells #[.int .i64 a0_0, (.slice A0_1 l0_1.length c0_1)] 33 (0, 0))) ∧ Aside0 (wc.heap[gb875]? = some (.cells #[.int .i64 t871, (.slice Ao29 t894.length co29)] 37 (0, 0))) ∧ Aside0 (Below w.heap.size w wc))
                         case first =>
                          have H := HC100.out
                          clear HC100
                          by_cases c101 : t913 < 0
                          ·rw [if_pos c101] at H
                           have c101b0 : decide (t913 < 0) = true := decide_eq_true c101
                           clear c101
                           (first | rw [c101b0] | (simp only [i64_w, i32_w]; rw [c101b0]) | skip)
                           obtain rfl := Option.some.inj H
                           go_wp2
                           go_ret
                           exact ⟨by first | rfl | (simp [errW_none, errW_some] <;> rfl) | (simp [*, errW_none, errW_some] <;> rfl), by exact Lz2 HB GE858 GE875⟩
                          rw [if_neg c101] at H
                          have c101b0 : decide (t913 < 0) = false := decide_eq_false c101
                          clear c101
                          (first | rw [c101b0] | (simp only [i64_w, i32_w]; rw [c101b0]) | skip)
                          have H' := Aside0.mk H
                          clear H
                          go_wp2
                          go_meet
                          case rel => exact ⟨_, H', ⟨by have := HJ2.out; have := HJ6.out; have := HJ16.out; have := HJ39.out; have := HJ43.out; have := HJ51.out; have := HJ57.out; have := HJ69.out; have := HJ73.out; have := HJ77.out; have := HJ82.out; have := HJ96.out; first | omega | exact Nat.le_refl _⟩, ⟨by (try simp only [hl876001_57]); (try simp only [hl10_73]); exact Rz HO_876001⟩, ⟨by (try simp only [hl876001_57]); (try simp only [hl10_73]); exact Bz BK858⟩, ⟨by (try simp only [hl876001_57]); (try simp only [hl10_73]); exact Bz BK875⟩, ⟨by exact Lz2 HB GE858 GE875⟩⟩
                         case rest =>
                          clear HC100
                          try clear c1
                          try clear c5
                          try clear c5b0
                          try clear c5b1
                          try clear c10
                          try clear c10b0
                          try clear c35
                          try clear c41
                          try clear c49
                          try clear c55
                          try clear c63
                          try clear c63b0
                          try clear c65
                          try clear c71
                          try clear c77
                          try clear c77b0
                          try clear c79
                          try clear c79b0
                          try clear c79b1
                          try clear c92
                          try clear c98
                          try clear c101
                          try clear c101b0
                          obtain ⟨kq, HA, HJ99, HO_876001, BK858, BK875, HB⟩ := hcut
                          cases kq with
                          | zero => exact absurd HA.out (by simp [laws_FnExactResidualOf.j12])
                          | succ kj99 =>
                           have H := HA.out
                           clear HA
                           simp only [laws_FnExactResidualOf.j12] at H
                           by_cases c102 : t913 = t898
                           ·rw [if_pos c102] at H
                            have c102b0 : (t913 == t898) = true := beq_iff_eq.mpr c102
                            have c102b1 : (t913 != t898) = false := bne_eq_false_iff_eq.mpr c102
                            clear c102
                            obtain rfl := Option.some.inj H
                            go_wp2
                            go_ret
                            exact ⟨by first | rfl | (simp [errW_none, errW_some] <;> rfl) | (simp [*, errW_none, errW_some] <;> rfl), by exact Lz2 HB GE858 GE875⟩
                           rw [if_neg c102] at H
                           have c102b0 : (t913 == t898) = false := beq_eq_false_iff_ne.mpr c102
                           have c102b1 : (t913 != t898) = true := bne_iff_ne.mpr c102
                           obtain rfl := Option.some.inj H
                           go_wp2
                           go_ret
                           exact ⟨by first | rfl | (simp [errW_none, errW_some] <;> rfl) | (simp [*, errW_none, errW_some] <;> rfl), by exact Lz2 HB GE858 GE875⟩

end Go.Proofs.Ytfpcgccnhpfcnaa.P
