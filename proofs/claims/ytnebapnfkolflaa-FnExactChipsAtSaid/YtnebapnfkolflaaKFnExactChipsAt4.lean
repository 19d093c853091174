/- What the law FnExactChipsAt rests on: functions of the program as plain Lean functions and that the machine's calls answer as they do, the words of the print that these use, lemmas and the plain proof. Put together by a program of this work that leaves out what nothing uses; Lean checks it. -/
import Derived.Test.YtnebapnfkolflaaKFnExactChipsAt3
section
namespace Go.Proofs.Ytnebapnfkolflaa.P
open Go.RowKit Go.Proofs.YtnebapnfkolflaaW.PrintWords Go.Proofs.YtnebapnfkolflaaW.PrintLast Go.Proofs.YtnebapnfkolflaaW.PrintMore
attribute [local go_sem] max2_int min2_int max_two min_two max_three min_three max_four min_four
set_option linter.unusedVariables false
set_option linter.unusedSimpArgs false
mutual
def impl_reduce.l0 : Nat → Int → List Int → List Int → Int → Int → List (S70) → Option (List Int × List Int)
 | 0, _, _, _, _, _, _ => none
 | k + 1, x2, x8, x9, x10, x309000, x309001 => if x10 ≥ 0 then ((impl_Valence.f k x309000 x309001 x10).bind fun t316 => (if 0 ≤ x10 then (if x10 < (x8.length : Int) then (if t316 = 0 then (none) else ((impl_fire.f k x309000 x309001 x8 x10 (wrap64 (-(wrap64 (Int.tdiv (wrap64 ((wrap64 (t316 - 1)) - (rd x8 x10))) t316))))).bind fun t318 => (if x10 < (x9.length : Int) then ((impl_inDebt.f k t318 x2).bind fun t321 => (impl_reduce.l0 k x2 t318 (x9.set (x10 : Int).toNat (wrap64 ((rd x9 x10) - (wrap64 (Int.tdiv (wrap64 ((wrap64 (t316 - 1)) - (rd x8 x10))) t316))))) t321 x309000 x309001)) else (none)))) else (none)) else (none))) else (impl_reduce.l1 k x2 x8 x9 x309000 x309001)
def impl_reduce.l1 : Nat → Int → List Int → List Int → Int → List (S70) → Option (List Int × List Int)
 | 0, _, _, _, _, _ => none
 | k + 1, x2, x8, x9, x309000, x309001 => (impl_burn.f k x309000 x309001 x8 x2).bind fun t322 => (if (t322.length : Int) = x309000 then (some (x8, x9)) else (impl_reduce.l2 k x2 x8 x9 t322 (x9.length : Int) 0 x309000 x309001))
def impl_reduce.l2 : Nat → Int → List Int → List Int → List Int → Int → Int → Int → List (S70) → Option (List Int × List Int)
 | 0, _, _, _, _, _, _, _, _ => none
 | k + 1, x2, x8, x9, x13, x65, x66, x309000, x309001 => if x66 < x65 then ((slices_Contains_int_int.f k x13 x66).bind fun t325 => (if t325 = true then (impl_reduce.l2 k x2 x8 x9 x13 x65 (wrap64 (x66 + 1)) x309000 x309001) else ((impl_fire.f k x309000 x309001 x8 x66 1).bind fun t326 => (if 0 ≤ x66 then (if x66 < (x9.length : Int) then (impl_reduce.l2 k x2 t326 (x9.set (x66 : Int).toNat (wrap64 ((rd x9 x66) + 1))) x13 x65 (wrap64 (x66 + 1)) x309000 x309001) else (none)) else (none))))) else (impl_reduce.l1 k x2 x8 x9 x309000 x309001)
end
def impl_reduce.f (k : Nat) (a0_0 : Int) (l0_1 : List (S70)) (l1 : List Int) (a2 : Int) : Option (List Int × List Int) := (impl_copyInts.f l1).bind fun t309 => (if 0 ≤ a0_0 then (if (a0_0 : Int).toNat ≤ 35184372088832 then ((impl_inDebt.f k t309 a2).bind fun t315 => (impl_reduce.l0 k a2 t309 (List.replicate (a0_0 : Int).toNat 0) t315 a0_0 l0_1)) else (none)) else (none))
set_option maxHeartbeats 8000000 in
set_option maxRecDepth 100000 in
theorem impl_reduce.calls (k : Nat) (a0_0 : Int) (A0_1 : Option Addr) (c0_1 : Nat) (l0_1 : List (S70)) (A1 : Option Addr) (c1 : Nat) (l1 : List Int) (a2 : Int) (r1 : List Int) (r2 : List Int) (w : World) (hr0_1 : Kd.C k70 w A0_1 l0_1.length l0_1) (hc0_1 : l0_1.length ≤ c0_1) (hr1 : Kd.C (Kd.int .i64) w A1 l1.length l1) (hc1 : l1.length ≤ c1) (h : impl_reduce.f k a0_0 l0_1 l1 a2 = some (r1, r2)) :
  Calls Try.prog 82 #[.agg #[.int .i64 a0_0, .slice A0_1 l0_1.length c0_1], .slice A1 l1.length c1, .int .i64 a2] w fun e w' => ∃ v0_ v1_ : Value, e = .returned (.tuple #[v0_, v1_]) ∧ Kd.R (Kd.int .i64) 3 w' w.heap.size (fun k_ => some k_ ≠ (v1_ : Value).ownBlock) v0_ r1 ∧ Kd.R (Kd.int .i64) 3 w' w.heap.size (fun k_ => some k_ ≠ (v0_ : Value).ownBlock) v1_ r2 ∧ Below w.heap.size w w' := by
 have hu25 := Try.underlying25
 have HR0_1 := Aside0.mk hr0_1
 have HC0_1 := Aside0.mk hc0_1
 clear hr0_1 hc0_1
 have HR1 := Aside0.mk hr1
 have HC1 := Aside0.mk hc1
 clear hr1 hc1
 have HB := Aside0.mk (Below.refl w.heap.size w)
 have H : ((impl_copyInts.f l1).bind fun t309 => (if 0 ≤ a0_0 then (if (a0_0 : Int).toNat ≤ 35184372088832 then ((impl_inDebt.f k t309 a2).bind fun t315 => (impl_reduce.l0 k a2 t309 (List.replicate (a0_0 : Int).toNat 0) t315 a0_0 l0_1)) else (none)) else (none))) = some (r1, r2) := h
 clear h
 replace H := Option.bind_eq_some_iff.mp H
 obtain ⟨t309, A40, H⟩ := H
 replace H : (if 0 ≤ a0_0 then (if (a0_0 : Int).toNat ≤ 35184372088832 then ((impl_inDebt.f k t309 a2).bind fun t315 => (impl_reduce.l0 k a2 t309 (List.replicate (a0_0 : Int).toNat 0) t315 a0_0 l0_1)) else (none)) else (none)) = some (r1, r2) := H
 have A4 := Aside0.mk A40
 clear A40
 by_cases c5 : 0 ≤ a0_0
 ·rw [if_pos c5] at H
  have c5b0 := eq_true c5
  have c5b1 : decide (0 ≤ a0_0) = true := decide_eq_true c5
  clear c5
  by_cases c6 : (a0_0 : Int).toNat ≤ 35184372088832
  ·rw [if_pos c6] at H
   have c6b0 := eq_true c6
   have c6b1 : decide ((a0_0 : Int).toNat ≤ 35184372088832) = true := decide_eq_true c6
   clear c6
   obtain ⟨y312, hy312⟩ : ∃ y_ : List Int, y_ = (List.replicate (a0_0 : Int).toNat 0) := ⟨_, rfl⟩
   replace H : ((impl_inDebt.f k t309 a2).bind fun t315 => (impl_reduce.l0 k a2 t309 y312 t315 a0_0 l0_1)) = some (r1, r2) := by first | (rw [hy312]; with_reducible exact H) | (have H2_ := (Option.bind_some _ _).symm.trans H; rw [hy312]; with_reducible exact H2_) | (have H2_ := (Option.bind_some _ _).symm.trans H; with_reducible exact H2_) | with_reducible exact H | (rw [hy312]; exact H) | exact H
   have Ny312 := Aside0.mk hy312
   clear hy312
   replace H := Option.bind_eq_some_iff.mp H
   obtain ⟨t315, A70, H⟩ := H
   replace H : (impl_reduce.l0 k a2 t309 y312 t315 a0_0 l0_1) = some (r1, r2) := H
   have A7 := Aside0.mk A70
   clear A70
   have H' := Aside0.mk H
   clear H
   go_enter Try.func82, Try.ntmps82
   go_wp2_with (first | ((with_reducible refine gate_dst (N := 3) rfl ?_); refine box_event ?hg (N := 3) ?hd (cs := #[.int .i64 a0_0, .slice A0_1 l0_1.length c0_1]) (t := 25) ?hr ?_; (case hd => rfl); (case hg => rfl); (case hr => first | (go_simp; done) | (go_simp; rfl)); intro gb308 hg w8 hbox hb; have BK308 := Aside0.mk (hbox); have GW308 := Aside0.mk ((by rw [hg]; exact (below_size (Lz HB)) : w.heap.size ≤ gb308)); have GE308 := Aside0.mk ((by rw [hg]; exact (below_size (Lz HB)) : w.heap.size ≤ gb308)); replace HB := Aside0.mk (below_step (Lz HB) hb); clear hb hbox hg) | ((with_reducible refine gate_callee (f := 109) rfl ?_); refine goesM_ (some 16) rfl rfl Try.func109 (by kernel_rfl) rfl #[.slice A1 l1.length c1] rfl ?_; (with_reducible refine (impl_copyInts.calls _ _ l1 t309 _ ?side1 ?side2 A4.out).mono ?_); (case side1 => exact Cz ((Kd.C_below HR1.out HB.out))); (case side2 => exact HC1.out); rintro e w9 ⟨v310, rfl, ho0, hb⟩; refine ⟨_, rfl, ?_⟩; have HO311 := Aside0.mk (Kd.R_lower ho0 (below_size (by exact Lz1 HB GE308))); replace BK308 := Aside0.mk (blk_below (g := gb308) (o := .cells #[.int .i64 a0_0, .slice A0_1 l0_1.length c0_1] 25 (0, 0)) (Bz BK308) hb); replace HB := Aside0.mk (below_step (by exact Lz1 HB GE308) hb); (try clear hb); (try clear ho0); have hcz10_0 : w9.cell? ⟨gb308, 0, none⟩ = some (.int .i64 a0_0) := (blk_cell BK308.out 0).trans rfl; have hcz10_1 : w9.cell? ⟨gb308, 1, none⟩ = some (.slice A0_1 l0_1.length c0_1) := (blk_cell BK308.out 1).trans rfl; have hfz10_0 := blk_frozen BK308.out 0; have hfz10_1 := blk_frozen BK308.out 1) | ((with_reducible refine gate_dst (N := 19) rfl ?_); refine Kd.R_make (Kd.int .i64) _ 3 rfl (N := 19) rfl 27 _ _ rfl a0_0 rfl rfl Try.underlying27 (.int .i64 0) 8 info3 rfl (by decide) (by omega) 0 (ok := fun _ => True) (okp := fun _ => True) rfl (fun _ hk => hk) trivial (of_decide_eq_true (by first | (with_reducible assumption) | assumption)) (Nat.le_trans (Nat.mul_le_mul_right _ (of_decide_eq_true (by first | (with_reducible assumption) | assumption) : a0_0.toNat ≤ 35184372088832)) (by omega)) (Below.refl _ _) (Nat.le_refl _) ?_; intro v313 w11 ho12 hb hg_ hnew_; clear hg_ hnew_; (first | rw [← Ny312.out] at ho12 | (simp only [Int.reduceToNat] at ho12; rw [← Ny312.out] at ho12)); have HO314 := Aside0.mk (Kd.R_lower (Kd.R_new' ho12 (Kd.R_lt (Rz HO311))) (below_size (by exact Lz1 HB GE308))); replace HO311 := Aside0.mk (Kd.R_elder' (Rz HO311) (Kd.R_base ho12) hb); replace BK308 := Aside0.mk (blk_below (g := gb308) (o := .cells #[.int .i64 a0_0, .slice A0_1 l0_1.length c0_1] 25 (0, 0)) (Bz BK308) hb); replace HB := Aside0.mk (below_step (by exact Lz1 HB GE308) hb); clear hb ho12; obtain ⟨Ao13, co13, eo13⟩ := Kd.R_slice HO311.out; subst eo13) | ((with_reducible refine gate_callee (f := 72) rfl ?_); refine goesM_ (some 22) rfl rfl Try.func72 (by kernel_rfl) rfl #[.slice Ao13 t309.length co13, .int .i64 a2] rfl ?_; (with_reducible refine (impl_inDebt.calls k _ _ t309 a2 t315 _ ?side1 ?side2 A7.out).mono ?_); (case side1 => exact Cz ((Kd.R_reads' HO311.out).2.2)); (case side2 => exact (Kd.R_reads' HO311.out).2.1); rintro e w' ⟨rfl, ⟨nd, rfl⟩⟩; refine ⟨_, rfl, ?_⟩))
   go_loopg [10] k (fun kq v10 w' => ∃ (x8_1 : List Int) (x9_1 : List Int) (x10_1 : Int), v10 = .int .i64 x10_1 ∧ Aside0 (impl_reduce.l0 kq a2 x8_1 x9_1 x10_1 a0_0 l0_1 = some (r1, r2)) ∧ Aside0 (kq ≤ k) ∧ Aside0 (Kd.R (Kd.int .i64) 3 w' w.heap.size (fun k_ => some k_ ≠ (v313 : Value).ownBlock) (.slice Ao13 t309.length co13) x8_1) ∧ Aside0 (Kd.R (Kd.int .i64) 3 w' w.heap.size (fun k_ => some k_ ≠ ((.slice Ao13 t309.length co13) : Value).ownBlock) v313 x9_1) ∧ Aside0 (w'.heap[gb308]? = some (.cells #[.int .i64 a0_0, (.slice A0_1 l0_1.length c0_1)] 25 (0, 0))) ∧ Aside0 (Below w.heap.size w w'))
   case atStart => exact ⟨(t309), (y312), (t315), (by first | rfl | (simp; done) | (simp [*]; done)), H', ⟨Nat.le_refl _⟩, ⟨by (with_reducible repeat (first | apply Kd.R_alloc | apply Kd.R_drewN | apply Kd.R_drew)); exact Kd.R_mono HO311.out (fun _ hk => hk.2)⟩, ⟨by (with_reducible repeat (first | apply Kd.R_alloc | apply Kd.R_drewN | apply Kd.R_drew)); exact Kd.R_mono HO314.out (fun _ hk => hk.2)⟩, ⟨by exact Bz BK308⟩, ⟨by exact Lz1 HB GE308⟩⟩
   case round =>
    clear H'
    try clear c1
    try clear c5
    try clear c5b0
    try clear c5b1
    try clear c6
    try clear c6b0
    try clear c6b1
    obtain ⟨x8_1, x9_1, x10_1, rfl, HA, HK1, HO_8, HO_9, BK308, HB⟩ := hrel
    have hl8_1 := (Kd.R_reads' HO_8.out).1
    rw [hl8_1] at HO_8
    (try simp only [hl8_1])
    (try simp only [hl8_1] at BK308)
    (try simp only [hl8_1] at HO_9)
    cases gk with
    | zero => exact absurd HA.out (by simp [impl_reduce.l0])
    | succ k1 =>
     have H := HA.out
     clear HA
     simp only [impl_reduce.l0] at H
     by_cases c14 : x10_1 ≥ 0
     ·rw [if_pos c14] at H
      have c14b0 : decide (0 ≤ x10_1) = true := decide_eq_true c14
      clear c14
      replace H := Option.bind_eq_some_iff.mp H
      obtain ⟨t316, A150, H⟩ := H
      replace H : (if 0 ≤ x10_1 then (if x10_1 < (x8_1.length : Int) then (if t316 = 0 then (none) else ((impl_fire.f k1 a0_0 l0_1 x8_1 x10_1 (wrap64 (-(wrap64 (Int.tdiv (wrap64 ((wrap64 (t316 - 1)) - (rd x8_1 x10_1))) t316))))).bind fun t318 => (if x10_1 < (x9_1.length : Int) then ((impl_inDebt.f k1 t318 a2).bind fun t321 => (impl_reduce.l0 k1 a2 t318 (x9_1.set (x10_1 : Int).toNat (wrap64 ((rd x9_1 x10_1) - (wrap64 (Int.tdiv (wrap64 ((wrap64 (t316 - 1)) - (rd x8_1 x10_1))) t316))))) t321 a0_0 l0_1)) else (none)))) else (none)) else (none)) = some (r1, r2) := H
      have A15 := Aside0.mk A150
      clear A150
      by_cases c16 : 0 ≤ x10_1
      ·rw [if_pos c16] at H
       have c16b0 : decide (0 ≤ x10_1) = true := decide_eq_true c16
       clear c16
       by_cases c17 : x10_1 < (x8_1.length : Int)
       ·rw [if_pos c17] at H
        have c17b0 : decide (x10_1 < (x8_1.length : Int)) = true := decide_eq_true c17
        (try simp only [hl8_1, hl8_2, hl8_3, hl9_3] at c17b0)
        clear c17
        by_cases c18 : t316 = 0
        ·rw [if_pos c18] at H
         exact absurd H (by simp)
        rw [if_neg c18] at H
        have c18b0 : (t316 == 0) = false := beq_eq_false_iff_ne.mpr c18
        have c18b1 : (t316 != 0) = true := bne_iff_ne.mpr c18
        replace H := Option.bind_eq_some_iff.mp H
        obtain ⟨t318, A190, H⟩ := H
        replace H : (if x10_1 < (x9_1.length : Int) then ((impl_inDebt.f k1 t318 a2).bind fun t321 => (impl_reduce.l0 k1 a2 t318 (x9_1.set (x10_1 : Int).toNat (wrap64 ((rd x9_1 x10_1) - (wrap64 (Int.tdiv (wrap64 ((wrap64 (t316 - 1)) - (rd x8_1 x10_1))) t316))))) t321 a0_0 l0_1)) else (none)) = some (r1, r2) := H
        have A19 := Aside0.mk A190
        clear A190
        by_cases c20 : x10_1 < (x9_1.length : Int)
        ·rw [if_pos c20] at H
         have c20b0 : decide (x10_1 < (x9_1.length : Int)) = true := decide_eq_true c20
         (try simp only [hl8_1, hl8_2, hl8_3, hl9_3] at c20b0)
         clear c20
         obtain ⟨y320, hy320⟩ : ∃ y_ : List Int, y_ = (x9_1.set (x10_1 : Int).toNat (wrap64 ((rd x9_1 x10_1) - (wrap64 (Int.tdiv (wrap64 ((wrap64 (t316 - 1)) - (rd x8_1 x10_1))) t316))))) := ⟨_, rfl⟩
         replace H : ((impl_inDebt.f k1 t318 a2).bind fun t321 => (impl_reduce.l0 k1 a2 t318 y320 t321 a0_0 l0_1)) = some (r1, r2) := by first | (rw [hy320]; with_reducible exact H) | (have H2_ := (Option.bind_some _ _).symm.trans H; rw [hy320]; with_reducible exact H2_) | (have H2_ := (Option.bind_some _ _).symm.trans H; with_reducible exact H2_) | with_reducible exact H | (rw [hy320]; exact H) | exact H
         have Ny320 := Aside0.mk hy320
         clear hy320
         replace H := Option.bind_eq_some_iff.mp H
         obtain ⟨t321, A220, H⟩ := H
         replace H : (impl_reduce.l0 k1 a2 t318 y320 t321 a0_0 l0_1) = some (r1, r2) := H
         have A22 := Aside0.mk A220
         clear A220
         have H' := Aside0.mk H
         clear H
         have hcz23_0 : wr.cell? ⟨gb308, 0, none⟩ = some (.int .i64 a0_0) := (blk_cell BK308.out 0).trans rfl
         have hcz23_1 : wr.cell? ⟨gb308, 1, none⟩ = some (.slice A0_1 l0_1.length c0_1) := (blk_cell BK308.out 1).trans rfl
         have hfz23_0 := blk_frozen BK308.out 0
         have hfz23_1 := blk_frozen BK308.out 1
         go_wp2_with (first | ((with_reducible refine gate_callee (f := 59) rfl ?_); refine goesM_ (some 30) rfl rfl Try.func59 (by kernel_rfl) rfl #[.agg #[.int .i64 a0_0, .slice A0_1 l0_1.length c0_1], .int .i64 x10_1] rfl ?_; (with_reducible refine (impl_Valence.calls k1 a0_0 _ _ l0_1 x10_1 t316 _ ?side1 ?side2 A15.out).mono ?_); (case side1 => exact Cz ((Kd.C_below HR0_1.out HB.out))); (case side2 => exact HC0_1.out); rintro e w24 ⟨rfl, hb⟩; refine ⟨_, rfl, ?_⟩; replace HO_8 := Aside0.mk (Kd.R_below (Rz HO_8) hb); replace HO_9 := Aside0.mk (Kd.R_below (Rz HO_9) hb); replace BK308 := Aside0.mk (blk_below (g := gb308) (o := .cells #[.int .i64 a0_0, .slice A0_1 l0_1.length c0_1] 25 (0, 0)) (Bz BK308) hb); replace HB := Aside0.mk (below_step (by exact Lz1 HB GE308) hb); (try clear hb); (try clear hb2); (try clear hk); (try clear hi); have p317 : 0 ≤ (x10_1 : Int) := of_decide_eq_true (by first | (with_reducible assumption) | assumption); have q317 : x10_1 < (x8_1.length : Int) := of_decide_eq_true (by first | (with_reducible assumption) | assumption); obtain ⟨ad317, e317, hx317_0⟩ := Kd.at_int (Kd.R_reads' HO_8.out).2.2 x10_1 p317 q317; cases e317; replace p317 := eq_true p317; replace q317 := eq_true q317; have hcz25_0 : w24.cell? ⟨gb308, 0, none⟩ = some (.int .i64 a0_0) := (blk_cell BK308.out 0).trans rfl; have hcz25_1 : w24.cell? ⟨gb308, 1, none⟩ = some (.slice A0_1 l0_1.length c0_1) := (blk_cell BK308.out 1).trans rfl; have hfz25_0 := blk_frozen BK308.out 0; have hfz25_1 := blk_frozen BK308.out 1) | ((with_reducible refine gate_callee (f := 110) rfl ?_); refine goesM_ (some 45) rfl rfl Try.func110 (by kernel_rfl) rfl #[.agg #[.int .i64 a0_0, .slice A0_1 l0_1.length c0_1], .slice (some ad317) x8_1.length co13, .int .i64 x10_1, .int .i64 (wrap64 (-(wrap64 (Int.tdiv (wrap64 ((wrap64 (t316 - 1)) - (rd x8_1 x10_1))) t316))))] rfl ?_; (with_reducible refine (impl_fire.calls k1 a0_0 _ _ l0_1 (fun k_ => some k_ = (.slice (some ad317) x8_1.length co13 : Value).ownBlock) (.slice (some ad317) x8_1.length co13) x8_1 x10_1 (wrap64 (-(wrap64 (Int.tdiv (wrap64 ((wrap64 (t316 - 1)) - (rd x8_1 x10_1))) t316)))) t318 w _ ?side1 ?side2 ?side3 ?side4 A19.out).mono ?_); (case side1 => exact Lz1 HB GE308); (case side2 => exact Kd.C_kept_came k70_heap HR0_1.out (by exact Lz1 HB GE308) (fun k_ hs_ => (fun e_ => Kd.R_base HO_8.out k_ e_.symm) hs_)); (case side3 => exact HC0_1.out); (case side4 => exact Kd.R_tight rfl HO_8.out); rintro e w26 ⟨rfl, hy0, hb, hkp⟩; refine ⟨_, rfl, ?_⟩; replace HO_9 := Aside0.mk (Kd.R_mono (ok' := fun k_ => some k_ ≠ (.slice (some ad317) x8_1.length co13 : Value).ownBlock) (Kd.R_keptB (HO_9.out) hkp (fun k_ hk_ hs_ => (hk_) hs_)) (fun k_ hk_ => hk_.1)); replace BK308 := Aside0.mk (blk_kept (Bz BK308) hkp (fun hs_ => (fun e_ => (Kd.R_ne HO_8.out BK308.out (by decide)) e_) hs_)); replace HO_8 := Aside0.mk (Kd.R_reok rfl hy0 (fun k_ e_ => HO_8.out.1 k_ e_)); replace HB := Aside0.mk (hb); (try clear hb); (try clear hkp); (try clear hy0); obtain ⟨Ao27, co27, eo27⟩ := Kd.R_slice HO_9.out; subst eo27; have p319 : 0 ≤ (x10_1 : Int) := of_decide_eq_true (by first | (with_reducible assumption) | assumption); have q319 : x10_1 < (x9_1.length : Int) := of_decide_eq_true (by first | (with_reducible assumption) | assumption); obtain ⟨ad319, e319, hx319_0⟩ := Kd.at_int (Kd.R_reads' HO_9.out).2.2 x10_1 p319 q319; cases e319; replace p319 := eq_true p319; replace q319 := eq_true q319; have p21 : 0 ≤ (x10_1 : Int) := of_decide_eq_true (by first | (with_reducible assumption) | assumption); have q21 : (x10_1 : Int) < ((x9_1.length : Int) : Int) := of_decide_eq_true (by first | (with_reducible assumption) | assumption); obtain ⟨go21, co21, eo21, gb21, gl21, cl21, HG21⟩ := Kd.R_form HO_9.out (by omega); (first | cases eo21 | (injection eo21 with ea_ en_ ec_; (first | subst ea_ | (injection ea_ with ea_; subst ea_)); subst ec_; clear en_)); have GB21 := Aside0.mk gb21; have GG21 := Aside0.mk HG21; clear gb21 gl21 HG21; (first | simp only [add_plain] at hx319_0 | skip); obtain ⟨hx21_0, hf21_0⟩ := Kd.R_celln 0 HO_9.out (x10_1 : Int) p21 q21; replace p21 := eq_true p21; replace q21 := eq_true q21; obtain ⟨hy28_, hz28_⟩ := Kd.R_celln 0 HO_9.out (x10_1 : Int) (of_decide_eq_true (by first | (with_reducible assumption) | assumption)) (of_decide_eq_true (by first | (with_reducible assumption) | assumption)); have HP28 := Kd.R_putg HO_9.out (x10_1 : Int) (wrap64 ((rd x9_1 x10_1) - (wrap64 (Int.tdiv (wrap64 ((wrap64 (t316 - 1)) - (rd x8_1 x10_1))) t316))))) | ((with_reducible refine gate_store (t := 3) (p := 52) rfl ?_); refine store_event (t := 3) (p := 52) (v := ?vo_w29) (w1 := (w26.setCell ⟨go21, (x10_1 : Int).toNat, none⟩ (.int .i64 (wrap64 ((rd x9_1 x10_1) - (wrap64 (Int.tdiv (wrap64 ((wrap64 (t316 - 1)) - (rd x8_1 x10_1))) t316))))))) ?hg ?ho ?hn ?hr ?_; (case ho => rfl); (case hg => rfl); (case hn => rfl); (case hr => first | (go_simp; done) | (go_simp; rfl)); intro w29 hw; have hg : w26.grownBy w29 (some go21) := (by rw [hw]; exact HP28.2); have hp_ : Kd.R (Kd.int .i64) 3 w29 w.heap.size (fun k_ => some k_ ≠ (.slice (some ad317) x8_1.length co13 : Value).ownBlock) (.slice (some ⟨go21, 0, none⟩) x9_1.length co27) y320 := (by rw [hw, Ny320.out]; exact HP28.1); clear HP28; replace HO_8 := Aside0.mk (Kd.R_after (v := (.slice (some ⟨go21, 0, none⟩) x9_1.length co27)) (v1 := (.slice (some ⟨go21, 0, none⟩) x9_1.length co27)) (ok := (fun _ => True)) (by (with_reducible repeat (first | apply Kd.R_alloc | apply Kd.R_drewN | apply Kd.R_drew)); exact Kd.R_mono HO_8.out (fun _ hk => ⟨trivial, hk⟩)) hg (.inl rfl)); replace BK308 := Aside0.mk (blk_grown (g := gb308) (o := .cells #[.int .i64 a0_0, .slice A0_1 l0_1.length c0_1] 25 (0, 0)) (Bz BK308) hg (Kd.R_ne HO_9.out BK308.out (by decide))); replace HO_9 := Aside0.mk (hp_); replace HB := Aside0.mk ((by rw [hw]; exact below_set (HB.out) GB21.out : Below w.heap.size w w29)); clear hg hw hp_) | ((with_reducible refine gate_callee (f := 72) rfl ?_); refine goesL_ (some 27) rfl rfl Try.func72 (by kernel_rfl) rfl #[.slice (some ad317) t318.length co13, .int .i64 a2] rfl (by (try simp only [List.map_toArray, List.map_cons, List.map_nil]); first | done | (rw [show t318.length = x8_1.length from (Kd.R_reads' HO_8.out).1.symm] <;> rfl) | rfl | (simp only [List.length_drop, List.length_take]; rfl)) ?_; (with_reducible refine (impl_inDebt.calls k1 _ _ t318 a2 t321 _ ?side1 ?side2 A22.out).mono ?_); (case side1 => exact Cz ((Kd.R_reads' HO_8.out).2.2)); (case side2 => rw [show t318.length = x8_1.length from (Kd.R_reads' HO_8.out).1.symm]; exact (Kd.R_reads' HO_8.out).2.1); rintro e w' ⟨rfl, ⟨nd, rfl⟩⟩; refine ⟨_, rfl, ?_⟩))
         (try simp only [← hl8_1])
         go_roundg k1
         case measure => have := HK1.out; omega
         case rel => exact ⟨(t318), (y320), (t321), (by first | rfl | (simp; done) | (simp [*]; done)), H', ⟨by have := HK1.out; omega⟩, ⟨by (try simp only [hl8_1]); (with_reducible repeat (first | apply Kd.R_alloc | apply Kd.R_drewN | apply Kd.R_drew)); exact Kd.R_mono HO_8.out (fun _ hk => hk.2)⟩, ⟨by (try simp only [hl8_1]); exact Rz HO_9⟩, ⟨by (try simp only [hl8_1]); exact Bz BK308⟩, ⟨by exact Lz1 HB GE308⟩⟩
        rw [if_neg c20] at H
        exact absurd H (by simp)
       rw [if_neg c17] at H
       exact absurd H (by simp)
      rw [if_neg c16] at H
      exact absurd H (by simp)
     rw [if_neg c14] at H
     have c14b0 : decide (0 ≤ x10_1) = false := decide_eq_false c14
     clear c14
     have H' := Aside0.mk H
     clear H
     go_wp2
     go_loopg [] k1 (fun kq w' => ∃ (x8_2 : List Int) (x9_2 : List Int), Aside0 (impl_reduce.l1 kq a2 x8_2 x9_2 a0_0 l0_1 = some (r1, r2)) ∧ Aside0 (kq ≤ k1) ∧ Aside0 (Kd.R (Kd.int .i64) 3 w' w.heap.size (fun k_ => some k_ ≠ (v313 : Value).ownBlock) (.slice Ao13 x8_1.length co13) x8_2) ∧ Aside0 (Kd.R (Kd.int .i64) 3 w' w.heap.size (fun k_ => some k_ ≠ ((.slice Ao13 x8_1.length co13) : Value).ownBlock) v313 x9_2) ∧ Aside0 (w'.heap[gb308]? = some (.cells #[.int .i64 a0_0, (.slice A0_1 l0_1.length c0_1)] 25 (0, 0))) ∧ Aside0 (Below w.heap.size w w'))
     case atStart => exact ⟨(x8_1), (x9_1), H', ⟨Nat.le_refl _⟩, ⟨by (try simp only [hl8_1]); exact Rz HO_8⟩, ⟨by (try simp only [hl8_1]); exact Rz HO_9⟩, ⟨by (try simp only [hl8_1]); exact Bz BK308⟩, ⟨by exact Lz1 HB GE308⟩⟩
     case round =>
      clear H'
      try clear c1
      try clear c5
      try clear c5b0
      try clear c5b1
      try clear c6
      try clear c6b0
      try clear c6b1
      try clear c14
      try clear c14b0
      try clear c16
      try clear c16b0
      try clear c17
      try clear c17b0
      try clear c18
      try clear c18b0
      try clear c18b1
      try clear c20
      try clear c20b0
      try clear p21
      try clear q21
      try clear p21
      try clear p317
      try clear p319
      try clear q21
      try clear q317
      try clear q319
      obtain ⟨x8_2, x9_2, HA, HK2, HO_8, HO_9, BK308, HB⟩ := hrel
      have hl8_2 := (Kd.R_reads' HO_8.out).1
      rw [hl8_2] at HO_8
      (try simp only [hl8_2])
      (try simp only [hl8_2] at BK308)
      (try simp only [hl8_2] at HO_9)
      cases gk with
      | zero => exact absurd HA.out (by simp [impl_reduce.l1])
      | succ k2 =>
       have H := HA.out
       clear HA
       simp only [impl_reduce.l1] at H
       replace H := Option.bind_eq_some_iff.mp H
       obtain ⟨t322, A300, H⟩ := H
       replace H : (if (t322.length : Int) = a0_0 then (some (x8_2, x9_2)) else (impl_reduce.l2 k2 a2 x8_2 x9_2 t322 (x9_2.length : Int) 0 a0_0 l0_1)) = some (r1, r2) := H
       have A30 := Aside0.mk A300
       clear A300
       by_cases c31 : (t322.length : Int) = a0_0
       ·rw [if_pos c31] at H
        have c31b0 : ((t322.length : Int) == a0_0) = true := beq_iff_eq.mpr c31
        have c31b1 : ((t322.length : Int) != a0_0) = false := bne_eq_false_iff_eq.mpr c31
        clear c31
        simp only [Option.some.injEq, Prod.mk.injEq] at H
        obtain ⟨rfl, rfl⟩ := H
        have hcz32_0 : wr.cell? ⟨gb308, 0, none⟩ = some (.int .i64 a0_0) := (blk_cell BK308.out 0).trans rfl
        have hcz32_1 : wr.cell? ⟨gb308, 1, none⟩ = some (.slice A0_1 l0_1.length c0_1) := (blk_cell BK308.out 1).trans rfl
        have hfz32_0 := blk_frozen BK308.out 0
        have hfz32_1 := blk_frozen BK308.out 1
        go_wp2_with (first | ((with_reducible refine gate_callee (f := 99) rfl ?_); refine goesM_ (some 56) rfl rfl Try.func99 (by kernel_rfl) rfl #[.agg #[.int .i64 a0_0, .slice A0_1 l0_1.length c0_1], .slice Ao13 x8_2.length co13, .int .i64 a2] rfl ?_; (with_reducible refine (impl_burn.calls k2 a0_0 _ _ l0_1 _ _ x8_2 a2 t322 _ ?side1 ?side2 ?side3 ?side4 A30.out).mono ?_); (case side1 => exact Cz ((Kd.C_below HR0_1.out HB.out))); (case side2 => exact HC0_1.out); (case side3 => exact Cz ((Kd.R_reads' HO_8.out).2.2)); (case side4 => exact (Kd.R_reads' HO_8.out).2.1); rintro e w33 ⟨v323, rfl, ho0, hb⟩; refine ⟨_, rfl, ?_⟩; have HO324 := Aside0.mk (Kd.R_lower (Kd.R_new' (Kd.R_new' ho0 (Kd.R_lt (Rz HO_8))) (Kd.R_lt (Rz HO_9))) (below_size (by exact Lz1 HB GE308))); replace HO_8 := Aside0.mk (Kd.R_elder' (Rz HO_8) (Kd.R_base ho0) hb); replace HO_9 := Aside0.mk (Kd.R_elder' (Rz HO_9) (Kd.R_base ho0) hb); replace BK308 := Aside0.mk (blk_below (g := gb308) (o := .cells #[.int .i64 a0_0, .slice A0_1 l0_1.length c0_1] 25 (0, 0)) (Bz BK308) hb); replace HB := Aside0.mk (below_step (by exact Lz1 HB GE308) hb); (try clear hb); (try clear ho0); obtain ⟨Ao34, co34, eo34⟩ := Kd.R_slice HO324.out; subst eo34; have hcz35_0 : w33.cell? ⟨gb308, 0, none⟩ = some (.int .i64 a0_0) := (blk_cell BK308.out 0).trans rfl; have hcz35_1 : w33.cell? ⟨gb308, 1, none⟩ = some (.slice A0_1 l0_1.length c0_1) := (blk_cell BK308.out 1).trans rfl; have hfz35_0 := blk_frozen BK308.out 0; have hfz35_1 := blk_frozen BK308.out 1))
        go_ret2
        exact ⟨_, _, by first | rfl | (simp [errW_none, errW_some] <;> rfl) | (simp [*, errW_none, errW_some] <;> rfl), by (with_reducible repeat (first | apply Kd.R_alloc | apply Kd.R_drewN | apply Kd.R_drew)); exact Kd.R_mono HO_8.out (fun _ hk => hk.1), by (with_reducible repeat (first | apply Kd.R_alloc | apply Kd.R_drewN | apply Kd.R_drew)); exact Kd.R_mono HO_9.out (fun _ hk => hk.1), by exact Lz1 HB GE308⟩
       rw [if_neg c31] at H
       have c31b0 : ((t322.length : Int) == a0_0) = false := beq_eq_false_iff_ne.mpr c31
       have c31b1 : ((t322.length : Int) != a0_0) = true := bne_iff_ne.mpr c31
       have H' := Aside0.mk H
       clear H
       have hcz36_0 : wr.cell? ⟨gb308, 0, none⟩ = some (.int .i64 a0_0) := (blk_cell BK308.out 0).trans rfl
       have hcz36_1 : wr.cell? ⟨gb308, 1, none⟩ = some (.slice A0_1 l0_1.length c0_1) := (blk_cell BK308.out 1).trans rfl
       have hfz36_0 := blk_frozen BK308.out 0
       have hfz36_1 := blk_frozen BK308.out 1
       go_wp2_with (first | ((with_reducible refine gate_callee (f := 99) rfl ?_); refine goesM_ (some 56) rfl rfl Try.func99 (by kernel_rfl) rfl #[.agg #[.int .i64 a0_0, .slice A0_1 l0_1.length c0_1], .slice Ao13 x8_2.length co13, .int .i64 a2] rfl ?_; (with_reducible refine (impl_burn.calls k2 a0_0 _ _ l0_1 _ _ x8_2 a2 t322 _ ?side1 ?side2 ?side3 ?side4 A30.out).mono ?_); (case side1 => exact Cz ((Kd.C_below HR0_1.out HB.out))); (case side2 => exact HC0_1.out); (case side3 => exact Cz ((Kd.R_reads' HO_8.out).2.2)); (case side4 => exact (Kd.R_reads' HO_8.out).2.1); rintro e w37 ⟨v323, rfl, ho0, hb⟩; refine ⟨_, rfl, ?_⟩; have HO324 := Aside0.mk (Kd.R_lower (Kd.R_new' (Kd.R_new' ho0 (Kd.R_lt (Rz HO_8))) (Kd.R_lt (Rz HO_9))) (below_size (by exact Lz1 HB GE308))); replace HO_8 := Aside0.mk (Kd.R_elder' (Rz HO_8) (Kd.R_base ho0) hb); replace HO_9 := Aside0.mk (Kd.R_elder' (Rz HO_9) (Kd.R_base ho0) hb); replace BK308 := Aside0.mk (blk_below (g := gb308) (o := .cells #[.int .i64 a0_0, .slice A0_1 l0_1.length c0_1] 25 (0, 0)) (Bz BK308) hb); replace HB := Aside0.mk (below_step (by exact Lz1 HB GE308) hb); (try clear hb); (try clear ho0); obtain ⟨Ao38, co38, eo38⟩ := Kd.R_slice HO324.out; subst eo38; have hcz39_0 : w37.cell? ⟨gb308, 0, none⟩ = some (.int .i64 a0_0) := (blk_cell BK308.out 0).trans rfl; have hcz39_1 : w37.cell? ⟨gb308, 1, none⟩ = some (.slice A0_1 l0_1.length c0_1) := (blk_cell BK308.out 1).trans rfl; have hfz39_0 := blk_frozen BK308.out 0; have hfz39_1 := blk_frozen BK308.out 1; obtain ⟨Ao40, co40, eo40⟩ := Kd.R_slice HO_9.out; subst eo40))
       go_loopg [66] k2 (fun kq v66 w' => ∃ (x8_3 : List Int) (x9_3 : List Int) (x66_3 : Int), v66 = .int .i64 x66_3 ∧ Aside0 (impl_reduce.l2 kq a2 x8_3 x9_3 t322 (x9_2.length : Int) x66_3 a0_0 l0_1 = some (r1, r2)) ∧ Aside0 (kq ≤ k2) ∧ Aside0 (Kd.R (Kd.int .i64) 3 w' w.heap.size (fun k_ => some k_ ≠ ((.slice Ao40 x9_2.length co40) : Value).ownBlock ∧ some k_ ≠ ((.slice Ao38 t322.length co38) : Value).ownBlock) (.slice Ao13 x8_2.length co13) x8_3) ∧ Aside0 (Kd.R (Kd.int .i64) 3 w' w.heap.size (fun k_ => some k_ ≠ ((.slice Ao13 x8_2.length co13) : Value).ownBlock ∧ some k_ ≠ ((.slice Ao38 t322.length co38) : Value).ownBlock) (.slice Ao40 x9_2.length co40) x9_3) ∧ Aside0 (Kd.R (Kd.int .i64) 3 w' w.heap.size (fun k_ => some k_ ≠ ((.slice Ao13 x8_2.length co13) : Value).ownBlock ∧ some k_ ≠ ((.slice Ao40 x9_2.length co40) : Value).ownBlock) (.slice Ao38 t322.length co38) t322) ∧ Aside0 (w'.heap[gb308]? = some (.cells #[.int .i64 a0_0, (.slice A0_1 l0_1.length c0_1)] 25 (0, 0))) ∧ Aside0 (Below w.heap.size w w'))
       case atStart => exact ⟨(x8_2), (x9_2), (0), (by first | rfl | (simp; done) | (simp [*]; done)), H', ⟨Nat.le_refl _⟩, ⟨by (try simp only [hl8_1]); (try simp only [hl8_2]); exact Rz HO_8⟩, ⟨by (try simp only [hl8_1]); (try simp only [hl8_2]); exact Rz HO_9⟩, ⟨by (try simp only [hl8_1]); (try simp only [hl8_2]); (with_reducible repeat (first | apply Kd.R_alloc | apply Kd.R_drewN | apply Kd.R_drew)); exact Kd.R_mono HO324.out (fun _ hk => ⟨hk.1.2, hk.2⟩)⟩, ⟨by (try simp only [hl8_1]); (try simp only [hl8_2]); exact Bz BK308⟩, ⟨by exact Lz1 HB GE308⟩⟩
       case round =>
        clear H'
        try clear c1
        try clear c5
        try clear c5b0
        try clear c5b1
        try clear c6
        try clear c6b0
        try clear c6b1
        try clear c14
        try clear c14b0
        try clear c16
        try clear c16b0
        try clear c17
        try clear c17b0
        try clear c18
        try clear c18b0
        try clear c18b1
        try clear c20
        try clear c20b0
        try clear p21
        try clear q21
        try clear c31
        try clear c31b0
        try clear c31b1
        try clear p21
        try clear p317
        try clear p319
        try clear q21
        try clear q317
        try clear q319
        obtain ⟨x8_3, x9_3, x66_3, rfl, HA, HK3, HO_8, HO_9, HO_13, BK308, HB⟩ := hrel
        have hl8_3 := (Kd.R_reads' HO_8.out).1
        rw [hl8_3] at HO_8
        (try simp only [hl8_3])
        (try simp only [hl8_3] at BK308)
        (try simp only [hl8_3] at HO_9)
        (try simp only [hl8_3] at HO_13)
        have hl9_3 := (Kd.R_reads' HO_9.out).1
        rw [hl9_3] at HO_9
        (try simp only [hl9_3])
        (try simp only [hl9_3] at BK308)
        (try simp only [hl9_3] at HO_8)
        (try simp only [hl9_3] at HO_13)
        cases gk with
        | zero => exact absurd HA.out (by simp [impl_reduce.l2])
        | succ k3 =>
         have H := HA.out
         clear HA
         simp only [impl_reduce.l2] at H
         by_cases c41 : x66_3 < (x9_2.length : Int)
         ·rw [if_pos c41] at H
          have c41b0 : decide (x66_3 < (x9_2.length : Int)) = true := decide_eq_true c41
          (try simp only [hl8_1, hl8_2, hl8_3, hl9_3] at c41b0)
          clear c41
          replace H := Option.bind_eq_some_iff.mp H
          obtain ⟨t325, A420, H⟩ := H
          replace H : (if t325 = true then (impl_reduce.l2 k3 a2 x8_3 x9_3 t322 (x9_2.length : Int) (wrap64 (x66_3 + 1)) a0_0 l0_1) else ((impl_fire.f k3 a0_0 l0_1 x8_3 x66_3 1).bind fun t326 => (if 0 ≤ x66_3 then (if x66_3 < (x9_3.length : Int) then (impl_reduce.l2 k3 a2 t326 (x9_3.set (x66_3 : Int).toNat (wrap64 ((rd x9_3 x66_3) + 1))) t322 (x9_2.length : Int) (wrap64 (x66_3 + 1)) a0_0 l0_1) else (none)) else (none)))) = some (r1, r2) := H
          have A42 := Aside0.mk A420
          clear A420
          by_cases c43 : t325 = true
          ·subst c43
           have H1 : (impl_reduce.l2 k3 a2 x8_3 x9_3 t322 (x9_2.length : Int) (wrap64 (x66_3 + 1)) a0_0 l0_1) = some (r1, r2) := by rw [if_pos rfl] at H; exact H
           clear H
           have H := H1
           clear H1
           have H' := Aside0.mk H
           clear H
           go_wp2_with (first | ((with_reducible refine gate_callee (f := 73) rfl ?_); refine goesM_ (some 71) rfl rfl Try.func73 (by kernel_rfl) rfl #[.slice Ao38 t322.length co38, .int .i64 x66_3] rfl ?_; (with_reducible refine (slices_Contains_int_int.calls k3 _ _ t322 x66_3 true _ ?side1 ?side2 A42.out).mono ?_); (case side1 => exact Cz ((Kd.R_reads' HO_13.out).2.2)); (case side2 => exact (Kd.R_reads' HO_13.out).2.1); rintro e w' ⟨rfl, ⟨nd, rfl⟩⟩; refine ⟨_, rfl, ?_⟩))
           (try simp only [← hl8_3, ← hl9_3])
           go_roundg k3
           case measure => have := HK1.out; have := HK2.out; have := HK3.out; omega
           case rel => exact ⟨(x8_3), (x9_3), (wrap64 (x66_3 + 1)), (by first | rfl | (simp; done) | (simp [*]; done)), H', ⟨by have := HK1.out; have := HK2.out; have := HK3.out; omega⟩, ⟨by (try simp only [hl8_1]); (try simp only [hl8_2]); (try simp only [hl8_3]); (try simp only [hl9_3]); exact Rz HO_8⟩, ⟨by (try simp only [hl8_1]); (try simp only [hl8_2]); (try simp only [hl8_3]); (try simp only [hl9_3]); exact Rz HO_9⟩, ⟨by (try simp only [hl8_1]); (try simp only [hl8_2]); (try simp only [hl8_3]); (try simp only [hl9_3]); exact Rz HO_13⟩, ⟨by (try simp only [hl8_1]); (try simp only [hl8_2]); (try simp only [hl8_3]); (try simp only [hl9_3]); exact Bz BK308⟩, ⟨by exact Lz1 HB GE308⟩⟩
          replace c43 := Bool.eq_false_iff.mpr c43
          subst c43
          have H1 : ((impl_fire.f k3 a0_0 l0_1 x8_3 x66_3 1).bind fun t326 => (if 0 ≤ x66_3 then (if x66_3 < (x9_3.length : Int) then (impl_reduce.l2 k3 a2 t326 (x9_3.set (x66_3 : Int).toNat (wrap64 ((rd x9_3 x66_3) + 1))) t322 (x9_2.length : Int) (wrap64 (x66_3 + 1)) a0_0 l0_1) else (none)) else (none))) = some (r1, r2) := by rw [if_neg (show ¬ (false = true) by decide)] at H; exact H
          clear H
          have H := H1
          clear H1
          replace H := Option.bind_eq_some_iff.mp H
          obtain ⟨t326, A440, H⟩ := H
          replace H : (if 0 ≤ x66_3 then (if x66_3 < (x9_3.length : Int) then (impl_reduce.l2 k3 a2 t326 (x9_3.set (x66_3 : Int).toNat (wrap64 ((rd x9_3 x66_3) + 1))) t322 (x9_2.length : Int) (wrap64 (x66_3 + 1)) a0_0 l0_1) else (none)) else (none)) = some (r1, r2) := H
          have A44 := Aside0.mk A440
          clear A440
          by_cases c45 : 0 ≤ x66_3
          ·rw [if_pos c45] at H
           have c45b0 : decide (0 ≤ x66_3) = true := decide_eq_true c45
           clear c45
           by_cases c46 : x66_3 < (x9_3.length : Int)
           ·rw [if_pos c46] at H
            have c46b0 : decide (x66_3 < (x9_3.length : Int)) = true := decide_eq_true c46
            (try simp only [hl8_1, hl8_2, hl8_3, hl9_3] at c46b0)
            clear c46
            obtain ⟨y328, hy328⟩ : ∃ y_ : List Int, y_ = (x9_3.set (x66_3 : Int).toNat (wrap64 ((rd x9_3 x66_3) + 1))) := ⟨_, rfl⟩
            replace H : (impl_reduce.l2 k3 a2 t326 y328 t322 (x9_2.length : Int) (wrap64 (x66_3 + 1)) a0_0 l0_1) = some (r1, r2) := by first | (rw [hy328]; with_reducible exact H) | (have H2_ := (Option.bind_some _ _).symm.trans H; rw [hy328]; with_reducible exact H2_) | (have H2_ := (Option.bind_some _ _).symm.trans H; with_reducible exact H2_) | with_reducible exact H | (rw [hy328]; exact H) | exact H
            have Ny328 := Aside0.mk hy328
            clear hy328
            have H' := Aside0.mk H
            clear H
            go_wp2_with (first | ((with_reducible refine gate_callee (f := 73) rfl ?_); refine goesM_ (some 71) rfl rfl Try.func73 (by kernel_rfl) rfl #[.slice Ao38 t322.length co38, .int .i64 x66_3] rfl ?_; (with_reducible refine (slices_Contains_int_int.calls k3 _ _ t322 x66_3 false _ ?side1 ?side2 A42.out).mono ?_); (case side1 => exact Cz ((Kd.R_reads' HO_13.out).2.2)); (case side2 => exact (Kd.R_reads' HO_13.out).2.1); rintro e w' ⟨rfl, ⟨nd, rfl⟩⟩; refine ⟨_, rfl, ?_⟩; (try (rw [drewN_self wr]; generalize hq_ : World.drewN wr _ = wr; have n0_ : Aside0 (Kd.R (Kd.int .i64) 3 wr w.heap.size (fun k_ => some k_ ≠ (.slice Ao13 x8_3.length co13 : Value).ownBlock ∧ some k_ ≠ (.slice Ao40 x9_3.length co40 : Value).ownBlock) (.slice Ao38 t322.length co38) t322) := ⟨by rw [← hq_]; exact (Rz HO_13)⟩; have n1_ : Aside0 (Kd.R (Kd.int .i64) 3 wr w.heap.size (fun k_ => some k_ ≠ (.slice Ao38 t322.length co38 : Value).ownBlock ∧ some k_ ≠ (.slice Ao40 x9_3.length co40 : Value).ownBlock) (.slice Ao13 x8_3.length co13) x8_3) := ⟨by rw [← hq_]; exact (by (with_reducible repeat (first | apply Kd.R_alloc | apply Kd.R_drewN | apply Kd.R_drew)); exact Kd.R_mono HO_8.out (fun _ hk => by first | exact hk | exact ⟨hk.2, hk.1⟩))⟩; have n2_ : Aside0 (Kd.R (Kd.int .i64) 3 wr w.heap.size (fun k_ => some k_ ≠ (.slice Ao38 t322.length co38 : Value).ownBlock ∧ some k_ ≠ (.slice Ao13 x8_3.length co13 : Value).ownBlock) (.slice Ao40 x9_3.length co40) x9_3) := ⟨by rw [← hq_]; exact (by (with_reducible repeat (first | apply Kd.R_alloc | apply Kd.R_drewN | apply Kd.R_drew)); exact Kd.R_mono HO_9.out (fun _ hk => by first | exact hk | exact ⟨hk.2, hk.1⟩))⟩; have n3_ : Aside0 (wr.heap[gb308]? = some (.cells #[.int .i64 a0_0, .slice A0_1 l0_1.length c0_1] 25 (0, 0))) := ⟨by rw [← hq_]; exact (Bz BK308)⟩; have n4_ : Aside0 (Below w.heap.size w wr) := ⟨by rw [← hq_]; exact (by exact Lz1 HB GE308)⟩; clear HO_13 HO_8 HO_9 BK308 HB hq_; have HO_13 := n0_; have HO_8 := n1_; have HO_9 := n2_; have BK308 := n3_; have HB := n4_; clear n0_ n1_ n2_ n3_ n4_)); have hcz48_0 : wr.cell? ⟨gb308, 0, none⟩ = some (.int .i64 a0_0) := (blk_cell BK308.out 0).trans rfl; have hcz48_1 : wr.cell? ⟨gb308, 1, none⟩ = some (.slice A0_1 l0_1.length c0_1) := (blk_cell BK308.out 1).trans rfl; have hfz48_0 := blk_frozen BK308.out 0; have hfz48_1 := blk_frozen BK308.out 1) | ((with_reducible refine gate_callee (f := 110) rfl ?_); refine goesM_ (some 76) rfl rfl Try.func110 (by kernel_rfl) rfl #[.agg #[.int .i64 a0_0, .slice A0_1 l0_1.length c0_1], .slice Ao13 x8_3.length co13, .int .i64 x66_3, .int .i64 1] rfl ?_; (with_reducible refine (impl_fire.calls k3 a0_0 _ _ l0_1 (fun k_ => some k_ = (.slice Ao13 x8_3.length co13 : Value).ownBlock) (.slice Ao13 x8_3.length co13) x8_3 x66_3 1 t326 w _ ?side1 ?side2 ?side3 ?side4 A44.out).mono ?_); (case side1 => exact Lz1 HB GE308); (case side2 => exact Kd.C_kept_came k70_heap HR0_1.out (by exact Lz1 HB GE308) (fun k_ hs_ => (fun e_ => Kd.R_base HO_8.out k_ e_.symm) hs_)); (case side3 => exact HC0_1.out); (case side4 => exact Kd.R_tight rfl HO_8.out); rintro e w49 ⟨rfl, hy0, hb, hkp⟩; refine ⟨_, rfl, ?_⟩; replace HO_9 := Aside0.mk (Kd.R_mono (ok' := fun k_ => some k_ ≠ (.slice Ao13 x8_3.length co13 : Value).ownBlock ∧ some k_ ≠ (.slice Ao38 t322.length co38 : Value).ownBlock) (Kd.R_keptB (HO_9.out) hkp (fun k_ hk_ hs_ => by first | exact (hk_.1) hs_ | exact (hk_.2) hs_)) (fun k_ hk_ => by first | exact ⟨hk_.1.1, hk_.1.2⟩ | exact ⟨hk_.1.2, hk_.1.1⟩)); replace HO_13 := Aside0.mk (Kd.R_mono (ok' := fun k_ => some k_ ≠ (.slice Ao13 x8_3.length co13 : Value).ownBlock ∧ some k_ ≠ (.slice Ao40 x9_3.length co40 : Value).ownBlock) (Kd.R_keptB (HO_13.out) hkp (fun k_ hk_ hs_ => by first | exact (hk_.1) hs_ | exact (hk_.2) hs_)) (fun k_ hk_ => by first | exact ⟨hk_.1.1, hk_.1.2⟩ | exact ⟨hk_.1.2, hk_.1.1⟩)); replace BK308 := Aside0.mk (blk_kept (Bz BK308) hkp (fun hs_ => (fun e_ => (Kd.R_ne HO_8.out BK308.out (by decide)) e_) hs_)); replace HO_8 := Aside0.mk (Kd.R_reok rfl hy0 (fun k_ e_ => HO_8.out.1 k_ e_)); replace HB := Aside0.mk (hb); (try clear hb); (try clear hkp); (try clear hy0); have p327 : 0 ≤ (x66_3 : Int) := of_decide_eq_true (by first | (with_reducible assumption) | assumption); have q327 : x66_3 < (x9_3.length : Int) := of_decide_eq_true (by first | (with_reducible assumption) | assumption); obtain ⟨ad327, e327, hx327_0⟩ := Kd.at_int (Kd.R_reads' HO_9.out).2.2 x66_3 p327 q327; cases e327; replace p327 := eq_true p327; replace q327 := eq_true q327; have p47 : 0 ≤ (x66_3 : Int) := of_decide_eq_true (by first | (with_reducible assumption) | assumption); have q47 : (x66_3 : Int) < ((x9_3.length : Int) : Int) := of_decide_eq_true (by first | (with_reducible assumption) | assumption); obtain ⟨go47, co47, eo47, gb47, gl47, cl47, HG47⟩ := Kd.R_form HO_9.out (by omega); (first | cases eo47 | (injection eo47 with ea_ en_ ec_; (first | subst ea_ | (injection ea_ with ea_; subst ea_)); subst ec_; clear en_)); have GB47 := Aside0.mk gb47; have GG47 := Aside0.mk HG47; clear gb47 gl47 HG47; (first | simp only [add_plain] at hx327_0 | skip); obtain ⟨hx47_0, hf47_0⟩ := Kd.R_celln 0 HO_9.out (x66_3 : Int) p47 q47; replace p47 := eq_true p47; replace q47 := eq_true q47; obtain ⟨hy50_, hz50_⟩ := Kd.R_celln 0 HO_9.out (x66_3 : Int) (of_decide_eq_true (by first | (with_reducible assumption) | assumption)) (of_decide_eq_true (by first | (with_reducible assumption) | assumption)); have HP50 := Kd.R_putg HO_9.out (x66_3 : Int) (wrap64 ((rd x9_3 x66_3) + 1))) | ((with_reducible refine gate_store (t := 3) (p := 82) rfl ?_); refine store_event (t := 3) (p := 82) (v := ?vo_w51) (w1 := (w49.setCell ⟨go47, (x66_3 : Int).toNat, none⟩ (.int .i64 (wrap64 ((rd x9_3 x66_3) + 1))))) ?hg ?ho ?hn ?hr ?_; (case ho => rfl); (case hg => rfl); (case hn => rfl); (case hr => first | (go_simp; done) | (go_simp; rfl)); intro w51 hw; have hg : w49.grownBy w51 (some go47) := (by rw [hw]; exact HP50.2); have hp_ : Kd.R (Kd.int .i64) 3 w51 w.heap.size (fun k_ => some k_ ≠ (.slice Ao13 x8_3.length co13 : Value).ownBlock ∧ some k_ ≠ (.slice Ao38 t322.length co38 : Value).ownBlock) (.slice (some ⟨go47, 0, none⟩) x9_3.length co40) y328 := (by rw [hw, Ny328.out]; exact HP50.1); clear HP50; replace HO_8 := Aside0.mk (Kd.R_after (v := (.slice (some ⟨go47, 0, none⟩) x9_3.length co40)) (v1 := (.slice (some ⟨go47, 0, none⟩) x9_3.length co40)) (ok := (fun k_ => some k_ ≠ (.slice Ao38 t322.length co38 : Value).ownBlock)) (by (with_reducible repeat (first | apply Kd.R_alloc | apply Kd.R_drewN | apply Kd.R_drew)); exact Kd.R_mono HO_8.out (fun _ hk => by first | exact hk | exact ⟨hk.2, hk.1⟩)) hg (.inl rfl)); replace HO_13 := Aside0.mk (Kd.R_after (v := (.slice (some ⟨go47, 0, none⟩) x9_3.length co40)) (v1 := (.slice (some ⟨go47, 0, none⟩) x9_3.length co40)) (ok := (fun k_ => some k_ ≠ (.slice Ao13 x8_3.length co13 : Value).ownBlock)) (Rz HO_13) hg (.inl rfl)); replace BK308 := Aside0.mk (blk_grown (g := gb308) (o := .cells #[.int .i64 a0_0, .slice A0_1 l0_1.length c0_1] 25 (0, 0)) (Bz BK308) hg (Kd.R_ne HO_9.out BK308.out (by decide))); replace HO_9 := Aside0.mk (hp_); replace HB := Aside0.mk ((by rw [hw]; exact below_set (HB.out) GB47.out : Below w.heap.size w w51)); clear hg hw hp_))
            (try simp only [← hl8_3, ← hl9_3])
            go_roundg k3
            case measure => have := HK1.out; have := HK2.out; have := HK3.out; omega
            case rel => exact ⟨(t326), (y328), (wrap64 (x66_3 + 1)), (by first | rfl | (simp; done) | (simp [*]; done)), H', ⟨by have := HK1.out; have := HK2.out; have := HK3.out; omega⟩, ⟨by (try simp only [hl8_1]); (try simp only [hl8_2]); (try simp only [hl8_3]); (try simp only [hl9_3]); (with_reducible repeat (first | apply Kd.R_alloc | apply Kd.R_drewN | apply Kd.R_drew)); exact Kd.R_mono HO_8.out (fun _ hk => by first | exact hk | exact ⟨hk.2, hk.1⟩)⟩, ⟨by (try simp only [hl8_1]); (try simp only [hl8_2]); (try simp only [hl8_3]); (try simp only [hl9_3]); exact Rz HO_9⟩, ⟨by (try simp only [hl8_1]); (try simp only [hl8_2]); (try simp only [hl8_3]); (try simp only [hl9_3]); exact Rz HO_13⟩, ⟨by (try simp only [hl8_1]); (try simp only [hl8_2]); (try simp only [hl8_3]); (try simp only [hl9_3]); exact Bz BK308⟩, ⟨by exact Lz1 HB GE308⟩⟩
           rw [if_neg c46] at H
           exact absurd H (by simp)
          rw [if_neg c45] at H
          exact absurd H (by simp)
         rw [if_neg c41] at H
         have c41b0 : decide (x66_3 < (x9_2.length : Int)) = false := decide_eq_false c41
         (try simp only [hl8_1, hl8_2, hl8_3, hl9_3] at c41b0)
         clear c41
         have H' := Aside0.mk H
         clear H
         go_wp2
         (try simp only [← hl8_2, ← hl8_3, ← hl9_3])
         go_roundg k3
         case measure => have := HK1.out; have := HK2.out; have := HK3.out; omega
         case rel => exact ⟨(x8_3), (x9_3), H', ⟨by have := HK1.out; have := HK2.out; have := HK3.out; omega⟩, ⟨by (try simp only [hl8_1]); (try simp only [hl8_2]); (try simp only [hl8_3]); (try simp only [hl9_3]); (with_reducible repeat (first | apply Kd.R_alloc | apply Kd.R_drewN | apply Kd.R_drew)); exact Kd.R_mono HO_8.out (fun _ hk => hk.1)⟩, ⟨by (try simp only [hl8_1]); (try simp only [hl8_2]); (try simp only [hl8_3]); (try simp only [hl9_3]); (with_reducible repeat (first | apply Kd.R_alloc | apply Kd.R_drewN | apply Kd.R_drew)); exact Kd.R_mono HO_9.out (fun _ hk => hk.1)⟩, ⟨by (try simp only [hl8_1]); (try simp only [hl8_2]); (try simp only [hl8_3]); (try simp only [hl9_3]); exact Bz BK308⟩, ⟨by exact Lz1 HB GE308⟩⟩
  rw [if_neg c6] at H
  exact absurd H (by simp)
 rw [if_neg c5] at H
 exact absurd H (by simp)
end Go.Proofs.Ytnebapnfkolflaa.P
end
section
namespace Go.Proofs.Ytnebapnfkolflaa.P
open Go.RowKit Go.Proofs.YtnebapnfkolflaaW.PrintWords Go.Proofs.YtnebapnfkolflaaW.PrintLast Go.Proofs.YtnebapnfkolflaaW.PrintMore
attribute [local go_sem] max2_int min2_int max_two min_two max_three min_three max_four min_four
set_option linter.unusedVariables false
set_option linter.unusedSimpArgs false
def impl_allWithin.l0 : Nat → Int → Int → List Int → Int → Int → Option (Bool)
 | 0, _, _, _, _, _ => none
 | k + 1, x1, x2, x9, x10, x11 => if x11 < x10 then (if 0 ≤ x11 then (if x11 < (x9.length : Int) then ((impl_within.f (rd x9 x11) x1 x2).bind fun t426 => (if t426 = true then (impl_allWithin.l0 k x1 x2 x9 x10 (wrap64 (x11 + 1))) else (some false))) else (none)) else (none)) else (some true)
def impl_allWithin.f (k : Nat) (l0 : List Int) (a1 : Int) (a2 : Int) : Option (Bool) := impl_allWithin.l0 k a1 a2 l0 (l0.length : Int) 0
set_option maxHeartbeats 8000000 in
set_option maxRecDepth 100000 in
theorem impl_allWithin.calls (k : Nat) (A0 : Option Addr) (c0 : Nat) (l0 : List Int) (a1 : Int) (a2 : Int) (r : Bool) (w : World) (hr0 : Kd.C (Kd.int .i64) w A0 l0.length l0) (hc0 : l0.length ≤ c0) (h : impl_allWithin.f k l0 a1 a2 = some r) :
  Calls Try.prog 93 #[.slice A0 l0.length c0, .int .i64 a1, .int .i64 a2] w fun e w' => e = .returned (.bool r) ∧ Drawn0 w w' := by
 have HR0 := Aside0.mk hr0
 have HC0 := Aside0.mk hc0
 clear hr0 hc0
 have H : (impl_allWithin.l0 k a1 a2 l0 (l0.length : Int) 0) = some r := h
 clear h
 have H' := Aside0.mk H
 clear H
 go_enter Try.func93, Try.ntmps93
 go_wp2
 go_loopg [11] k (fun kq v11 w' => ∃ (x11_1 : Int), v11 = .int .i64 x11_1 ∧ Aside0 (impl_allWithin.l0 kq a1 a2 l0 (l0.length : Int) x11_1 = some r) ∧ Aside0 (kq ≤ k) ∧ Drawn0 w w')
 case atStart => exact ⟨(0), (by first | rfl | (simp; done) | (simp [*]; done)), H', ⟨Nat.le_refl _⟩, by repeat (first | exact Drawn0.refl _ | apply Drawn0.step)⟩
 case round =>
  clear H'
  obtain ⟨x11_1, rfl, HA, HK1, ⟨m1, rfl⟩⟩ := hrel
  cases gk with
  | zero => exact absurd HA.out (by simp [impl_allWithin.l0])
  | succ k1 =>
   have H := HA.out
   clear HA
   simp only [impl_allWithin.l0] at H
   by_cases c4 : x11_1 < (l0.length : Int)
   ·rw [if_pos c4] at H
    have c4b0 : decide (x11_1 < (l0.length : Int)) = true := decide_eq_true c4
    clear c4
    by_cases c5 : 0 ≤ x11_1
    ·rw [if_pos c5] at H
     have c5b0 : decide (0 ≤ x11_1) = true := decide_eq_true c5
     clear c5
     by_cases c6 : x11_1 < (l0.length : Int)
     ·rw [if_pos c6] at H
      have c6b0 : decide (x11_1 < (l0.length : Int)) = true := decide_eq_true c6
      clear c6
      replace H := Option.bind_eq_some_iff.mp H
      obtain ⟨t426, A70, H⟩ := H
      replace H : (if t426 = true then (impl_allWithin.l0 k1 a1 a2 l0 (l0.length : Int) (wrap64 (x11_1 + 1))) else (some false)) = some r := H
      have A7 := Aside0.mk A70
      clear A70
      by_cases c8 : t426 = true
      ·subst c8
       have H1 : (impl_allWithin.l0 k1 a1 a2 l0 (l0.length : Int) (wrap64 (x11_1 + 1))) = some r := by rw [if_pos rfl] at H; exact H
       clear H
       have H := H1
       clear H1
       have H' := Aside0.mk H
       clear H
       have p425 : 0 ≤ (x11_1 : Int) := of_decide_eq_true (by first | (with_reducible assumption) | assumption)
       have q425 : x11_1 < (l0.length : Int) := of_decide_eq_true (by first | (with_reducible assumption) | assumption)
       obtain ⟨ad425, e425, hx425_0⟩ := Kd.at_int HR0.out x11_1 p425 q425
       cases e425
       replace p425 := eq_true p425
       replace q425 := eq_true q425
       go_wp2_with (first | ((with_reducible refine gate_callee (f := 95) rfl ?_); refine goesM_ (some 18) rfl rfl Try.func95 (by kernel_rfl) rfl #[.int .i64 (rd l0 x11_1), .int .i64 a1, .int .i64 a2] rfl ?_; (with_reducible refine (impl_within.calls (rd l0 x11_1) a1 a2 true _ A7.out).mono ?_); rintro e w' ⟨rfl, ⟨nd, rfl⟩⟩; refine ⟨_, rfl, ?_⟩))
       go_roundg k1
       case measure => have := HK1.out; omega
       case rel => exact ⟨(wrap64 (x11_1 + 1)), (by first | rfl | (simp; done) | (simp [*]; done)), H', ⟨by have := HK1.out; omega⟩, by repeat (first | exact Drawn0.refl _ | apply Drawn0.step)⟩
      replace c8 := Bool.eq_false_iff.mpr c8
      subst c8
      have H1 : (some false) = some r := by rw [if_neg (show ¬ (false = true) by decide)] at H; exact H
      clear H
      have H := H1
      clear H1
      obtain rfl := Option.some.inj H
      have p425 : 0 ≤ (x11_1 : Int) := of_decide_eq_true (by first | (with_reducible assumption) | assumption)
      have q425 : x11_1 < (l0.length : Int) := of_decide_eq_true (by first | (with_reducible assumption) | assumption)
      obtain ⟨ad425, e425, hx425_0⟩ := Kd.at_int HR0.out x11_1 p425 q425
      cases e425
      replace p425 := eq_true p425
      replace q425 := eq_true q425
      go_wp2_with (first | ((with_reducible refine gate_callee (f := 95) rfl ?_); refine goesM_ (some 18) rfl rfl Try.func95 (by kernel_rfl) rfl #[.int .i64 (rd l0 x11_1), .int .i64 a1, .int .i64 a2] rfl ?_; (with_reducible refine (impl_within.calls (rd l0 x11_1) a1 a2 false _ A7.out).mono ?_); rintro e w' ⟨rfl, ⟨nd, rfl⟩⟩; refine ⟨_, rfl, ?_⟩))
      go_ret
      exact ⟨by first | rfl | (simp; done) | (simp [*]; done), by repeat (first | exact Drawn0.refl _ | apply Drawn0.step)⟩
     rw [if_neg c6] at H
     exact absurd H (by simp)
    rw [if_neg c5] at H
    exact absurd H (by simp)
   rw [if_neg c4] at H
   have c4b0 : decide (x11_1 < (l0.length : Int)) = false := decide_eq_false c4
   clear c4
   obtain rfl := Option.some.inj H
   go_wp2
   go_ret
   exact ⟨by first | rfl | (simp; done) | (simp [*]; done), by repeat (first | exact Drawn0.refl _ | apply Drawn0.step)⟩
end Go.Proofs.Ytnebapnfkolflaa.P
end
section
namespace Go.Proofs.Ytnebapnfkolflaa.P
open Go.RowKit Go.Proofs.YtnebapnfkolflaaW.PrintWords Go.Proofs.YtnebapnfkolflaaW.PrintLast Go.Proofs.YtnebapnfkolflaaW.PrintMore
attribute [local go_sem] max2_int min2_int max_two min_two max_three min_three max_four min_four
set_option linter.unusedVariables false
set_option linter.unusedSimpArgs false
def impl_DivisorOk.f (k : Nat) (a0_0 : Int) (l0_1 : List (S70)) (l1 : List Int) : Option (Bool) := (impl_GraphOk.f k a0_0 l0_1).bind fun t428 => (if t428 = true then (if (l1.length : Int) = a0_0 then ((impl_allWithin.f k l1 (-60) 60).bind fun t429 => (some t429)) else (some false)) else (some false))
set_option maxHeartbeats 8000000 in
set_option maxRecDepth 100000 in
theorem impl_DivisorOk.calls (k : Nat) (a0_0 : Int) (A0_1 : Option Addr) (c0_1 : Nat) (l0_1 : List (S70)) (A1 : Option Addr) (c1 : Nat) (l1 : List Int) (r : Bool) (w : World) (hr0_1 : Kd.C k70 w A0_1 l0_1.length l0_1) (hc0_1 : l0_1.length ≤ c0_1) (hr1 : Kd.C (Kd.int .i64) w A1 l1.length l1) (hc1 : l1.length ≤ c1) (h : impl_DivisorOk.f k a0_0 l0_1 l1 = some r) :
  Calls Try.prog 85 #[.agg #[.int .i64 a0_0, .slice A0_1 l0_1.length c0_1], .slice A1 l1.length c1] w fun e w' => e = .returned (.bool r) ∧ Below w.heap.size w w' := by
 have hu25 := Try.underlying25
 have HR0_1 := Aside0.mk hr0_1
 have HC0_1 := Aside0.mk hc0_1
 clear hr0_1 hc0_1
 have HR1 := Aside0.mk hr1
 have HC1 := Aside0.mk hc1
 clear hr1 hc1
 have HB := Aside0.mk (Below.refl w.heap.size w)
 have H : ((impl_GraphOk.f k a0_0 l0_1).bind fun t428 => (if t428 = true then (if (l1.length : Int) = a0_0 then ((impl_allWithin.f k l1 (-60) 60).bind fun t429 => (some t429)) else (some false)) else (some false))) = some r := h
 clear h
 replace H := Option.bind_eq_some_iff.mp H
 obtain ⟨t428, A30, H⟩ := H
 replace H : (if t428 = true then (if (l1.length : Int) = a0_0 then ((impl_allWithin.f k l1 (-60) 60).bind fun t429 => (some t429)) else (some false)) else (some false)) = some r := H
 have A3 := Aside0.mk A30
 clear A30
 by_cases c4 : t428 = true
 ·subst c4
  have H1 : (if (l1.length : Int) = a0_0 then ((impl_allWithin.f k l1 (-60) 60).bind fun t429 => (some t429)) else (some false)) = some r := by rw [if_pos rfl] at H; exact H
  clear H
  have H := H1
  clear H1
  by_cases c5 : (l1.length : Int) = a0_0
  ·rw [if_pos c5] at H
   have c5b0 : ((l1.length : Int) == a0_0) = true := beq_iff_eq.mpr c5
   have c5b1 : ((l1.length : Int) != a0_0) = false := bne_eq_false_iff_eq.mpr c5
   clear c5
   replace H := Option.bind_eq_some_iff.mp H
   obtain ⟨t429, A60, H⟩ := H
   replace H : (some t429) = some r := H
   have A6 := Aside0.mk A60
   clear A60
   obtain rfl := Option.some.inj H
   go_enter Try.func85, Try.ntmps85
   go_wp2_with (first | ((with_reducible refine gate_dst (N := 2) rfl ?_); (try (refine gate_guard (by rfl) ?_; dsimp only)); refine box_event ?hg (N := 2) ?hd (cs := #[.int .i64 a0_0, .slice A0_1 l0_1.length c0_1]) (t := 25) ?hr ?_; (case hd => rfl); (case hg => rfl); (case hr => first | (go_simp; done) | (go_simp; rfl)); intro gb427 hg w7 hbox hb; have BK427 := Aside0.mk (hbox); have GW427 := Aside0.mk ((by rw [hg]; exact (below_size (Lz HB)) : w.heap.size ≤ gb427)); have GE427 := Aside0.mk ((by rw [hg]; exact (below_size (Lz HB)) : w.heap.size ≤ gb427)); replace HB := Aside0.mk (below_step (Lz HB) hb); clear hb hbox hg; have hcz8_0 : w7.cell? ⟨gb427, 0, none⟩ = some (.int .i64 a0_0) := (blk_cell BK427.out 0).trans rfl; have hcz8_1 : w7.cell? ⟨gb427, 1, none⟩ = some (.slice A0_1 l0_1.length c0_1) := (blk_cell BK427.out 1).trans rfl; have hfz8_0 := blk_frozen BK427.out 0; have hfz8_1 := blk_frozen BK427.out 1) | ((with_reducible refine gate_callee (f := 19) rfl ?_); refine goesM_ (some 6) rfl rfl Try.func19 (by kernel_rfl) rfl #[.agg #[.int .i64 a0_0, .slice A0_1 l0_1.length c0_1]] rfl ?_; (with_reducible refine (impl_GraphOk.calls k a0_0 _ _ l0_1 true _ ?side1 ?side2 A3.out).mono ?_); (case side1 => exact Cz ((Kd.C_below HR0_1.out HB.out))); (case side2 => exact HC0_1.out); rintro e w9 ⟨rfl, hb⟩; refine ⟨_, rfl, ?_⟩; replace BK427 := Aside0.mk (blk_below (g := gb427) (o := .cells #[.int .i64 a0_0, .slice A0_1 l0_1.length c0_1] 25 (0, 0)) (Bz BK427) hb); replace HB := Aside0.mk (below_step (by exact Lz1 HB GE427) hb); (try clear hb); (try clear hb2); (try clear hk); (try clear hi); have hcz10_0 : w9.cell? ⟨gb427, 0, none⟩ = some (.int .i64 a0_0) := (blk_cell BK427.out 0).trans rfl; have hcz10_1 : w9.cell? ⟨gb427, 1, none⟩ = some (.slice A0_1 l0_1.length c0_1) := (blk_cell BK427.out 1).trans rfl; have hfz10_0 := blk_frozen BK427.out 0; have hfz10_1 := blk_frozen BK427.out 1) | (go_at_call 93; (with_reducible refine (impl_allWithin.calls k _ _ l1 (-60) 60 t429 _ ?side1 ?side2 A6.out).mono ?_); (case side1 => exact Cz ((Kd.C_below HR1.out HB.out))); (case side2 => exact HC1.out); rintro e w' ⟨rfl, ⟨nd, rfl⟩⟩))
   go_ret
   exact ⟨by first | rfl | (simp [errW_none, errW_some] <;> rfl) | (simp [*, errW_none, errW_some] <;> rfl), by exact Lz1 HB GE427⟩
  rw [if_neg c5] at H
  have c5b0 : ((l1.length : Int) == a0_0) = false := beq_eq_false_iff_ne.mpr c5
  have c5b1 : ((l1.length : Int) != a0_0) = true := bne_iff_ne.mpr c5
  obtain rfl := Option.some.inj H
  go_enter Try.func85, Try.ntmps85
  go_wp2_with (first | ((with_reducible refine gate_dst (N := 2) rfl ?_); (try (refine gate_guard (by rfl) ?_; dsimp only)); refine box_event ?hg (N := 2) ?hd (cs := #[.int .i64 a0_0, .slice A0_1 l0_1.length c0_1]) (t := 25) ?hr ?_; (case hd => rfl); (case hg => rfl); (case hr => first | (go_simp; done) | (go_simp; rfl)); intro gb427 hg w11 hbox hb; have BK427 := Aside0.mk (hbox); have GW427 := Aside0.mk ((by rw [hg]; exact (below_size (Lz HB)) : w.heap.size ≤ gb427)); have GE427 := Aside0.mk ((by rw [hg]; exact (below_size (Lz HB)) : w.heap.size ≤ gb427)); replace HB := Aside0.mk (below_step (Lz HB) hb); clear hb hbox hg; have hcz12_0 : w11.cell? ⟨gb427, 0, none⟩ = some (.int .i64 a0_0) := (blk_cell BK427.out 0).trans rfl; have hcz12_1 : w11.cell? ⟨gb427, 1, none⟩ = some (.slice A0_1 l0_1.length c0_1) := (blk_cell BK427.out 1).trans rfl; have hfz12_0 := blk_frozen BK427.out 0; have hfz12_1 := blk_frozen BK427.out 1) | ((with_reducible refine gate_callee (f := 19) rfl ?_); refine goesM_ (some 6) rfl rfl Try.func19 (by kernel_rfl) rfl #[.agg #[.int .i64 a0_0, .slice A0_1 l0_1.length c0_1]] rfl ?_; (with_reducible refine (impl_GraphOk.calls k a0_0 _ _ l0_1 true _ ?side1 ?side2 A3.out).mono ?_); (case side1 => exact Cz ((Kd.C_below HR0_1.out HB.out))); (case side2 => exact HC0_1.out); rintro e w13 ⟨rfl, hb⟩; refine ⟨_, rfl, ?_⟩; replace BK427 := Aside0.mk (blk_below (g := gb427) (o := .cells #[.int .i64 a0_0, .slice A0_1 l0_1.length c0_1] 25 (0, 0)) (Bz BK427) hb); replace HB := Aside0.mk (below_step (by exact Lz1 HB GE427) hb); (try clear hb); (try clear hb2); (try clear hk); (try clear hi); have hcz14_0 : w13.cell? ⟨gb427, 0, none⟩ = some (.int .i64 a0_0) := (blk_cell BK427.out 0).trans rfl; have hcz14_1 : w13.cell? ⟨gb427, 1, none⟩ = some (.slice A0_1 l0_1.length c0_1) := (blk_cell BK427.out 1).trans rfl; have hfz14_0 := blk_frozen BK427.out 0; have hfz14_1 := blk_frozen BK427.out 1))
  go_ret
  exact ⟨by first | rfl | (simp [errW_none, errW_some] <;> rfl) | (simp [*, errW_none, errW_some] <;> rfl), by exact Lz1 HB GE427⟩
 replace c4 := Bool.eq_false_iff.mpr c4
 subst c4
 have H1 : (some false) = some r := by rw [if_neg (show ¬ (false = true) by decide)] at H; exact H
 clear H
 have H := H1
 clear H1
 obtain rfl := Option.some.inj H
 go_enter Try.func85, Try.ntmps85
 go_wp2_with (first | ((with_reducible refine gate_dst (N := 2) rfl ?_); (try (refine gate_guard (by rfl) ?_; dsimp only)); refine box_event ?hg (N := 2) ?hd (cs := #[.int .i64 a0_0, .slice A0_1 l0_1.length c0_1]) (t := 25) ?hr ?_; (case hd => rfl); (case hg => rfl); (case hr => first | (go_simp; done) | (go_simp; rfl)); intro gb427 hg w15 hbox hb; have BK427 := Aside0.mk (hbox); have GW427 := Aside0.mk ((by rw [hg]; exact (below_size (Lz HB)) : w.heap.size ≤ gb427)); have GE427 := Aside0.mk ((by rw [hg]; exact (below_size (Lz HB)) : w.heap.size ≤ gb427)); replace HB := Aside0.mk (below_step (Lz HB) hb); clear hb hbox hg; have hcz16_0 : w15.cell? ⟨gb427, 0, none⟩ = some (.int .i64 a0_0) := (blk_cell BK427.out 0).trans rfl; have hcz16_1 : w15.cell? ⟨gb427, 1, none⟩ = some (.slice A0_1 l0_1.length c0_1) := (blk_cell BK427.out 1).trans rfl; have hfz16_0 := blk_frozen BK427.out 0; have hfz16_1 := blk_frozen BK427.out 1) | ((with_reducible refine gate_callee (f := 19) rfl ?_); refine goesM_ (some 6) rfl rfl Try.func19 (by kernel_rfl) rfl #[.agg #[.int .i64 a0_0, .slice A0_1 l0_1.length c0_1]] rfl ?_; (with_reducible refine (impl_GraphOk.calls k a0_0 _ _ l0_1 false _ ?side1 ?side2 A3.out).mono ?_); (case side1 => exact Cz ((Kd.C_below HR0_1.out HB.out))); (case side2 => exact HC0_1.out); rintro e w17 ⟨rfl, hb⟩; refine ⟨_, rfl, ?_⟩; replace BK427 := Aside0.mk (blk_below (g := gb427) (o := .cells #[.int .i64 a0_0, .slice A0_1 l0_1.length c0_1] 25 (0, 0)) (Bz BK427) hb); replace HB := Aside0.mk (below_step (by exact Lz1 HB GE427) hb); (try clear hb); (try clear hb2); (try clear hk); (try clear hi)))
 go_ret
 exact ⟨by first | rfl | (simp [errW_none, errW_some] <;> rfl) | (simp [*, errW_none, errW_some] <;> rfl), by exact Lz1 HB GE427⟩
end Go.Proofs.Ytnebapnfkolflaa.P
end
section
namespace Go.Proofs.Ytnebapnfkolflaa.P
open Go.RowKit Go.Proofs.YtnebapnfkolflaaW.PrintWords Go.Proofs.YtnebapnfkolflaaW.PrintLast Go.Proofs.YtnebapnfkolflaaW.PrintMore
attribute [local go_sem] max2_int min2_int max_two min_two max_three min_three max_four min_four
set_option linter.unusedVariables false
set_option linter.unusedSimpArgs false
def impl_ReducedOf.f (k : Nat) (a0_0 : Int) (l0_1 : List (S70)) (l1 : List Int) (a2 : Int) : Option (List Int × Bool) := (impl_DivisorOk.f k a0_0 l0_1 l1).bind fun t431 => (if t431 = true then ((impl_isVertex.f k a0_0 l0_1 a2).bind fun t432 => (if t432 = true then ((impl_reduce.f k a0_0 l0_1 l1 a2).bind fun bt433 => (some (bt433.1, true))) else (some (([] : List Int), false)))) else (some (([] : List Int), false)))
set_option maxHeartbeats 8000000 in
set_option maxRecDepth 100000 in
theorem impl_ReducedOf.calls (k : Nat) (a0_0 : Int) (A0_1 : Option Addr) (c0_1 : Nat) (l0_1 : List (S70)) (A1 : Option Addr) (c1 : Nat) (l1 : List Int) (a2 : Int) (r1 : List Int) (r2 : Bool) (w : World) (hr0_1 : Kd.C k70 w A0_1 l0_1.length l0_1) (hc0_1 : l0_1.length ≤ c0_1) (hr1 : Kd.C (Kd.int .i64) w A1 l1.length l1) (hc1 : l1.length ≤ c1) (h : impl_ReducedOf.f k a0_0 l0_1 l1 a2 = some (r1, r2)) :
  Calls Try.prog 42 #[.agg #[.int .i64 a0_0, .slice A0_1 l0_1.length c0_1], .slice A1 l1.length c1, .int .i64 a2] w fun e w' => ∃ v0_ : Value, e = .returned (.tuple #[v0_, .bool r2]) ∧ Kd.R (Kd.int .i64) 3 w' w.heap.size (fun _ => True) v0_ r1 ∧ Below w.heap.size w w' := by
 have hu25 := Try.underlying25
 have HR0_1 := Aside0.mk hr0_1
 have HC0_1 := Aside0.mk hc0_1
 clear hr0_1 hc0_1
 have HR1 := Aside0.mk hr1
 have HC1 := Aside0.mk hc1
 clear hr1 hc1
 have HB := Aside0.mk (Below.refl w.heap.size w)
 have H : ((impl_DivisorOk.f k a0_0 l0_1 l1).bind fun t431 => (if t431 = true then ((impl_isVertex.f k a0_0 l0_1 a2).bind fun t432 => (if t432 = true then ((impl_reduce.f k a0_0 l0_1 l1 a2).bind fun bt433 => (some (bt433.1, true))) else (some (([] : List Int), false)))) else (some (([] : List Int), false)))) = some (r1, r2) := h
 clear h
 replace H := Option.bind_eq_some_iff.mp H
 obtain ⟨t431, A40, H⟩ := H
 replace H : (if t431 = true then ((impl_isVertex.f k a0_0 l0_1 a2).bind fun t432 => (if t432 = true then ((impl_reduce.f k a0_0 l0_1 l1 a2).bind fun bt433 => (some (bt433.1, true))) else (some (([] : List Int), false)))) else (some (([] : List Int), false))) = some (r1, r2) := H
 have A4 := Aside0.mk A40
 clear A40
 by_cases c5 : t431 = true
 ·subst c5
  have H1 : ((impl_isVertex.f k a0_0 l0_1 a2).bind fun t432 => (if t432 = true then ((impl_reduce.f k a0_0 l0_1 l1 a2).bind fun bt433 => (some (bt433.1, true))) else (some (([] : List Int), false)))) = some (r1, r2) := by rw [if_pos rfl] at H; exact H
  clear H
  have H := H1
  clear H1
  replace H := Option.bind_eq_some_iff.mp H
  obtain ⟨t432, A60, H⟩ := H
  replace H : (if t432 = true then ((impl_reduce.f k a0_0 l0_1 l1 a2).bind fun bt433 => (some (bt433.1, true))) else (some (([] : List Int), false))) = some (r1, r2) := H
  have A6 := Aside0.mk A60
  clear A60
  by_cases c7 : t432 = true
  ·subst c7
   have H1 : ((impl_reduce.f k a0_0 l0_1 l1 a2).bind fun bt433 => (some (bt433.1, true))) = some (r1, r2) := by rw [if_pos rfl] at H; exact H
   clear H
   have H := H1
   clear H1
   replace H := Option.bind_eq_some_iff.mp H
   obtain ⟨⟨t433, t436⟩, A80, H⟩ := H
   replace H : (some (t433, true)) = some (r1, r2) := H
   have A8 := Aside0.mk A80
   clear A80
   simp only [Option.some.injEq, Prod.mk.injEq] at H
   obtain ⟨rfl, rfl⟩ := H
   go_enter Try.func42, Try.ntmps42
   go_wp2_with (first | ((with_reducible refine gate_dst (N := 3) rfl ?_); refine box_event ?hg (N := 3) ?hd (cs := #[.int .i64 a0_0, .slice A0_1 l0_1.length c0_1]) (t := 25) ?hr ?_; (case hd => rfl); (case hg => rfl); (case hr => first | (go_simp; done) | (go_simp; rfl)); intro gb430 hg w9 hbox hb; have BK430 := Aside0.mk (hbox); have GW430 := Aside0.mk ((by rw [hg]; exact (below_size (Lz HB)) : w.heap.size ≤ gb430)); have GE430 := Aside0.mk ((by rw [hg]; exact (below_size (Lz HB)) : w.heap.size ≤ gb430)); replace HB := Aside0.mk (below_step (Lz HB) hb); clear hb hbox hg; have hcz10_0 : w9.cell? ⟨gb430, 0, none⟩ = some (.int .i64 a0_0) := (blk_cell BK430.out 0).trans rfl; have hcz10_1 : w9.cell? ⟨gb430, 1, none⟩ = some (.slice A0_1 l0_1.length c0_1) := (blk_cell BK430.out 1).trans rfl; have hfz10_0 := blk_frozen BK430.out 0; have hfz10_1 := blk_frozen BK430.out 1) | ((with_reducible refine gate_callee (f := 85) rfl ?_); refine goesM_ (some 12) rfl rfl Try.func85 (by kernel_rfl) rfl #[.agg #[.int .i64 a0_0, .slice A0_1 l0_1.length c0_1], .slice A1 l1.length c1] rfl ?_; (with_reducible refine (impl_DivisorOk.calls k a0_0 _ _ l0_1 _ _ l1 true _ ?side1 ?side2 ?side3 ?side4 A4.out).mono ?_); (case side1 => exact Cz ((Kd.C_below HR0_1.out HB.out))); (case side2 => exact HC0_1.out); (case side3 => exact Cz ((Kd.C_below HR1.out HB.out))); (case side4 => exact HC1.out); rintro e w11 ⟨rfl, hb⟩; refine ⟨_, rfl, ?_⟩; replace BK430 := Aside0.mk (blk_below (g := gb430) (o := .cells #[.int .i64 a0_0, .slice A0_1 l0_1.length c0_1] 25 (0, 0)) (Bz BK430) hb); replace HB := Aside0.mk (below_step (by exact Lz1 HB GE430) hb); (try clear hb); (try clear hb2); (try clear hk); (try clear hi); have hcz12_0 : w11.cell? ⟨gb430, 0, none⟩ = some (.int .i64 a0_0) := (blk_cell BK430.out 0).trans rfl; have hcz12_1 : w11.cell? ⟨gb430, 1, none⟩ = some (.slice A0_1 l0_1.length c0_1) := (blk_cell BK430.out 1).trans rfl; have hfz12_0 := blk_frozen BK430.out 0; have hfz12_1 := blk_frozen BK430.out 1) | (go_at_call 81; (with_reducible refine (impl_isVertex.calls k a0_0 _ _ l0_1 a2 true _ ?side1 ?side2 A6.out).mono ?_); (case side1 => exact Cz ((Kd.C_below HR0_1.out HB.out))); (case side2 => exact HC0_1.out); rintro e w13 ⟨rfl, hb⟩; replace BK430 := Aside0.mk (blk_below (g := gb430) (o := .cells #[.int .i64 a0_0, .slice A0_1 l0_1.length c0_1] 25 (0, 0)) (Bz BK430) hb); replace HB := Aside0.mk (below_step (by exact Lz1 HB GE430) hb); (try clear hb); (try clear hb2); (try clear hk); (try clear hi); have hcz14_0 : w13.cell? ⟨gb430, 0, none⟩ = some (.int .i64 a0_0) := (blk_cell BK430.out 0).trans rfl; have hcz14_1 : w13.cell? ⟨gb430, 1, none⟩ = some (.slice A0_1 l0_1.length c0_1) := (blk_cell BK430.out 1).trans rfl; have hfz14_0 := blk_frozen BK430.out 0; have hfz14_1 := blk_frozen BK430.out 1) | ((with_reducible refine gate_callee (f := 82) rfl ?_); refine goesM_ (some 24) rfl rfl Try.func82 (by kernel_rfl) rfl #[.agg #[.int .i64 a0_0, .slice A0_1 l0_1.length c0_1], .slice A1 l1.length c1, .int .i64 a2] rfl ?_; (with_reducible refine (impl_reduce.calls k a0_0 _ _ l0_1 _ _ l1 a2 t433 t436 _ ?side1 ?side2 ?side3 ?side4 A8.out).mono ?_); (case side1 => exact Cz ((Kd.C_below HR0_1.out HB.out))); (case side2 => exact HC0_1.out); (case side3 => exact Cz ((Kd.C_below HR1.out HB.out))); (case side4 => exact HC1.out); rintro e w15 ⟨v434, v437, rfl, ho0, ho1, hb⟩; refine ⟨_, rfl, ?_⟩; have HO435 := Aside0.mk (Kd.R_lower ho0 (below_size (by exact Lz1 HB GE430))); have HO438 := Aside0.mk (Kd.R_lower ho1 (below_size (by exact Lz1 HB GE430))); replace BK430 := Aside0.mk (blk_below (g := gb430) (o := .cells #[.int .i64 a0_0, .slice A0_1 l0_1.length c0_1] 25 (0, 0)) (Bz BK430) hb); replace HB := Aside0.mk (below_step (by exact Lz1 HB GE430) hb); (try clear hb); (try clear ho0); (try clear ho1)))
   go_ret2
   exact ⟨_, by first | rfl | (simp [errW_none, errW_some] <;> rfl) | (simp [*, errW_none, errW_some] <;> rfl), by (with_reducible repeat (first | apply Kd.R_alloc | apply Kd.R_drewN | apply Kd.R_drew)); exact Kd.R_mono HO435.out (fun _ hk => trivial), by exact Lz1 HB GE430⟩
  replace c7 := Bool.eq_false_iff.mpr c7
  subst c7
  have H1 : (some (([] : List Int), false)) = some (r1, r2) := by rw [if_neg (show ¬ (false = true) by decide)] at H; exact H
  clear H
  have H := H1
  clear H1
  simp only [Option.some.injEq, Prod.mk.injEq] at H
  obtain ⟨rfl, rfl⟩ := H
  go_enter Try.func42, Try.ntmps42
  go_wp2_with (first | ((with_reducible refine gate_dst (N := 3) rfl ?_); refine box_event ?hg (N := 3) ?hd (cs := #[.int .i64 a0_0, .slice A0_1 l0_1.length c0_1]) (t := 25) ?hr ?_; (case hd => rfl); (case hg => rfl); (case hr => first | (go_simp; done) | (go_simp; rfl)); intro gb430 hg w16 hbox hb; have BK430 := Aside0.mk (hbox); have GW430 := Aside0.mk ((by rw [hg]; exact (below_size (Lz HB)) : w.heap.size ≤ gb430)); have GE430 := Aside0.mk ((by rw [hg]; exact (below_size (Lz HB)) : w.heap.size ≤ gb430)); replace HB := Aside0.mk (below_step (Lz HB) hb); clear hb hbox hg; have hcz17_0 : w16.cell? ⟨gb430, 0, none⟩ = some (.int .i64 a0_0) := (blk_cell BK430.out 0).trans rfl; have hcz17_1 : w16.cell? ⟨gb430, 1, none⟩ = some (.slice A0_1 l0_1.length c0_1) := (blk_cell BK430.out 1).trans rfl; have hfz17_0 := blk_frozen BK430.out 0; have hfz17_1 := blk_frozen BK430.out 1) | ((with_reducible refine gate_callee (f := 85) rfl ?_); refine goesM_ (some 12) rfl rfl Try.func85 (by kernel_rfl) rfl #[.agg #[.int .i64 a0_0, .slice A0_1 l0_1.length c0_1], .slice A1 l1.length c1] rfl ?_; (with_reducible refine (impl_DivisorOk.calls k a0_0 _ _ l0_1 _ _ l1 true _ ?side1 ?side2 ?side3 ?side4 A4.out).mono ?_); (case side1 => exact Cz ((Kd.C_below HR0_1.out HB.out))); (case side2 => exact HC0_1.out); (case side3 => exact Cz ((Kd.C_below HR1.out HB.out))); (case side4 => exact HC1.out); rintro e w18 ⟨rfl, hb⟩; refine ⟨_, rfl, ?_⟩; replace BK430 := Aside0.mk (blk_below (g := gb430) (o := .cells #[.int .i64 a0_0, .slice A0_1 l0_1.length c0_1] 25 (0, 0)) (Bz BK430) hb); replace HB := Aside0.mk (below_step (by exact Lz1 HB GE430) hb); (try clear hb); (try clear hb2); (try clear hk); (try clear hi); have hcz19_0 : w18.cell? ⟨gb430, 0, none⟩ = some (.int .i64 a0_0) := (blk_cell BK430.out 0).trans rfl; have hcz19_1 : w18.cell? ⟨gb430, 1, none⟩ = some (.slice A0_1 l0_1.length c0_1) := (blk_cell BK430.out 1).trans rfl; have hfz19_0 := blk_frozen BK430.out 0; have hfz19_1 := blk_frozen BK430.out 1) | (go_at_call 81; (with_reducible refine (impl_isVertex.calls k a0_0 _ _ l0_1 a2 false _ ?side1 ?side2 A6.out).mono ?_); (case side1 => exact Cz ((Kd.C_below HR0_1.out HB.out))); (case side2 => exact HC0_1.out); rintro e w20 ⟨rfl, hb⟩; replace BK430 := Aside0.mk (blk_below (g := gb430) (o := .cells #[.int .i64 a0_0, .slice A0_1 l0_1.length c0_1] 25 (0, 0)) (Bz BK430) hb); replace HB := Aside0.mk (below_step (by exact Lz1 HB GE430) hb); (try clear hb); (try clear hb2); (try clear hk); (try clear hi)))
  go_ret2
  exact ⟨_, by first | rfl | (simp [errW_none, errW_some] <;> rfl) | (simp [*, errW_none, errW_some] <;> rfl), by first | exact Kd.R_nil _ _ _ _ _ | exact Kd.N_nil _ _ _ _ _ | exact Kd.V_nil _ _ _ _ _ | exact Kd.Q_nil _ _ _ _ _ | exact Kd.S_nil _ _ _ _ _, by exact Lz1 HB GE430⟩
 replace c5 := Bool.eq_false_iff.mpr c5
 subst c5
 have H1 : (some (([] : List Int), false)) = some (r1, r2) := by rw [if_neg (show ¬ (false = true) by decide)] at H; exact H
 clear H
 have H := H1
 clear H1
 simp only [Option.some.injEq, Prod.mk.injEq] at H
 obtain ⟨rfl, rfl⟩ := H
 go_enter Try.func42, Try.ntmps42
 go_wp2_with (first | ((with_reducible refine gate_dst (N := 3) rfl ?_); refine box_event ?hg (N := 3) ?hd (cs := #[.int .i64 a0_0, .slice A0_1 l0_1.length c0_1]) (t := 25) ?hr ?_; (case hd => rfl); (case hg => rfl); (case hr => first | (go_simp; done) | (go_simp; rfl)); intro gb430 hg w21 hbox hb; have BK430 := Aside0.mk (hbox); have GW430 := Aside0.mk ((by rw [hg]; exact (below_size (Lz HB)) : w.heap.size ≤ gb430)); have GE430 := Aside0.mk ((by rw [hg]; exact (below_size (Lz HB)) : w.heap.size ≤ gb430)); replace HB := Aside0.mk (below_step (Lz HB) hb); clear hb hbox hg; have hcz22_0 : w21.cell? ⟨gb430, 0, none⟩ = some (.int .i64 a0_0) := (blk_cell BK430.out 0).trans rfl; have hcz22_1 : w21.cell? ⟨gb430, 1, none⟩ = some (.slice A0_1 l0_1.length c0_1) := (blk_cell BK430.out 1).trans rfl; have hfz22_0 := blk_frozen BK430.out 0; have hfz22_1 := blk_frozen BK430.out 1) | ((with_reducible refine gate_callee (f := 85) rfl ?_); refine goesM_ (some 12) rfl rfl Try.func85 (by kernel_rfl) rfl #[.agg #[.int .i64 a0_0, .slice A0_1 l0_1.length c0_1], .slice A1 l1.length c1] rfl ?_; (with_reducible refine (impl_DivisorOk.calls k a0_0 _ _ l0_1 _ _ l1 false _ ?side1 ?side2 ?side3 ?side4 A4.out).mono ?_); (case side1 => exact Cz ((Kd.C_below HR0_1.out HB.out))); (case side2 => exact HC0_1.out); (case side3 => exact Cz ((Kd.C_below HR1.out HB.out))); (case side4 => exact HC1.out); rintro e w23 ⟨rfl, hb⟩; refine ⟨_, rfl, ?_⟩; replace BK430 := Aside0.mk (blk_below (g := gb430) (o := .cells #[.int .i64 a0_0, .slice A0_1 l0_1.length c0_1] 25 (0, 0)) (Bz BK430) hb); replace HB := Aside0.mk (below_step (by exact Lz1 HB GE430) hb); (try clear hb); (try clear hb2); (try clear hk); (try clear hi)))
 go_ret2
 exact ⟨_, by first | rfl | (simp [errW_none, errW_some] <;> rfl) | (simp [*, errW_none, errW_some] <;> rfl), by first | exact Kd.R_nil _ _ _ _ _ | exact Kd.N_nil _ _ _ _ _ | exact Kd.V_nil _ _ _ _ _ | exact Kd.Q_nil _ _ _ _ _ | exact Kd.S_nil _ _ _ _ _, by exact Lz1 HB GE430⟩
end Go.Proofs.Ytnebapnfkolflaa.P
end
section
namespace Go.Proofs.Ytnebapnfkolflaa.P
open Go.RowKit Go.Proofs.YtnebapnfkolflaaW.PrintWords Go.Proofs.YtnebapnfkolflaaW.PrintLast Go.Proofs.YtnebapnfkolflaaW.PrintMore
attribute [local go_sem] max2_int min2_int max_two min_two max_three min_three max_four min_four
set_option linter.unusedVariables false
set_option linter.unusedSimpArgs false
def impl_ChipsAt.f (k : Nat) (a0_0 : Int) (l0_1 : List (S70)) (l1 : List Int) (a2 : Int) : Option (Int × Bool) := (impl_ReducedOf.f k a0_0 l0_1 l1 a2).bind fun bt440 => (if bt440.2 = true then (if 0 ≤ a2 then (if a2 < (bt440.1.length : Int) then (some (rd bt440.1 a2, true)) else (none)) else (none)) else (some (0, false)))
set_option maxHeartbeats 8000000 in
set_option maxRecDepth 100000 in
theorem impl_ChipsAt.calls (k : Nat) (a0_0 : Int) (A0_1 : Option Addr) (c0_1 : Nat) (l0_1 : List (S70)) (A1 : Option Addr) (c1 : Nat) (l1 : List Int) (a2 : Int) (r1 : Int) (r2 : Bool) (w : World) (hr0_1 : Kd.C k70 w A0_1 l0_1.length l0_1) (hc0_1 : l0_1.length ≤ c0_1) (hr1 : Kd.C (Kd.int .i64) w A1 l1.length l1) (hc1 : l1.length ≤ c1) (h : impl_ChipsAt.f k a0_0 l0_1 l1 a2 = some (r1, r2)) :
  Calls Try.prog 38 #[.agg #[.int .i64 a0_0, .slice A0_1 l0_1.length c0_1], .slice A1 l1.length c1, .int .i64 a2] w fun e w' => e = .returned (.tuple #[.int .i64 r1, .bool r2]) ∧ Below w.heap.size w w' := by
 have hu25 := Try.underlying25
 have HR0_1 := Aside0.mk hr0_1
 have HC0_1 := Aside0.mk hc0_1
 clear hr0_1 hc0_1
 have HR1 := Aside0.mk hr1
 have HC1 := Aside0.mk hc1
 clear hr1 hc1
 have HB := Aside0.mk (Below.refl w.heap.size w)
 have H : ((impl_ReducedOf.f k a0_0 l0_1 l1 a2).bind fun bt440 => (if bt440.2 = true then (if 0 ≤ a2 then (if a2 < (bt440.1.length : Int) then (some (rd bt440.1 a2, true)) else (none)) else (none)) else (some (0, false)))) = some (r1, r2) := h
 clear h
 replace H := Option.bind_eq_some_iff.mp H
 obtain ⟨⟨t440, t443⟩, A40, H⟩ := H
 replace H : (if t443 = true then (if 0 ≤ a2 then (if a2 < (t440.length : Int) then (some (rd t440 a2, true)) else (none)) else (none)) else (some (0, false))) = some (r1, r2) := H
 have A4 := Aside0.mk A40
 clear A40
 by_cases c5 : t443 = true
 ·subst c5
  have H1 : (if 0 ≤ a2 then (if a2 < (t440.length : Int) then (some (rd t440 a2, true)) else (none)) else (none)) = some (r1, r2) := by rw [if_pos rfl] at H; exact H
  clear H
  have H := H1
  clear H1
  by_cases c6 : 0 ≤ a2
  ·rw [if_pos c6] at H
   have c6b0 : decide (0 ≤ a2) = true := decide_eq_true c6
   clear c6
   by_cases c7 : a2 < (t440.length : Int)
   ·rw [if_pos c7] at H
    have c7b0 : decide (a2 < (t440.length : Int)) = true := decide_eq_true c7
    clear c7
    simp only [Option.some.injEq, Prod.mk.injEq] at H
    obtain ⟨rfl, rfl⟩ := H
    go_enter Try.func38, Try.ntmps38
    go_wp2_with (first | ((with_reducible refine gate_dst (N := 3) rfl ?_); refine box_event ?hg (N := 3) ?hd (cs := #[.int .i64 a0_0, .slice A0_1 l0_1.length c0_1]) (t := 25) ?hr ?_; (case hd => rfl); (case hg => rfl); (case hr => first | (go_simp; done) | (go_simp; rfl)); intro gb439 hg w8 hbox hb; have BK439 := Aside0.mk (hbox); have GW439 := Aside0.mk ((by rw [hg]; exact (below_size (Lz HB)) : w.heap.size ≤ gb439)); have GE439 := Aside0.mk ((by rw [hg]; exact (below_size (Lz HB)) : w.heap.size ≤ gb439)); replace HB := Aside0.mk (below_step (Lz HB) hb); clear hb hbox hg; have hcz9_0 : w8.cell? ⟨gb439, 0, none⟩ = some (.int .i64 a0_0) := (blk_cell BK439.out 0).trans rfl; have hcz9_1 : w8.cell? ⟨gb439, 1, none⟩ = some (.slice A0_1 l0_1.length c0_1) := (blk_cell BK439.out 1).trans rfl; have hfz9_0 := blk_frozen BK439.out 0; have hfz9_1 := blk_frozen BK439.out 1) | ((with_reducible refine gate_callee (f := 42) rfl ?_); refine goesM_ (some 14) rfl rfl Try.func42 (by kernel_rfl) rfl #[.agg #[.int .i64 a0_0, .slice A0_1 l0_1.length c0_1], .slice A1 l1.length c1, .int .i64 a2] rfl ?_; (with_reducible refine (impl_ReducedOf.calls k a0_0 _ _ l0_1 _ _ l1 a2 t440 true _ ?side1 ?side2 ?side3 ?side4 A4.out).mono ?_); (case side1 => exact Cz ((Kd.C_below HR0_1.out HB.out))); (case side2 => exact HC0_1.out); (case side3 => exact Cz ((Kd.C_below HR1.out HB.out))); (case side4 => exact HC1.out); rintro e w10 ⟨v441, rfl, ho0, hb⟩; refine ⟨_, rfl, ?_⟩; have HO442 := Aside0.mk (Kd.R_lower ho0 (below_size (by exact Lz1 HB GE439))); replace BK439 := Aside0.mk (blk_below (g := gb439) (o := .cells #[.int .i64 a0_0, .slice A0_1 l0_1.length c0_1] 25 (0, 0)) (Bz BK439) hb); replace HB := Aside0.mk (below_step (by exact Lz1 HB GE439) hb); (try clear hb); (try clear ho0); obtain ⟨Ao11, co11, eo11⟩ := Kd.R_slice HO442.out; subst eo11; have p444 : 0 ≤ (a2 : Int) := of_decide_eq_true (by first | (with_reducible assumption) | assumption); have q444 : a2 < (t440.length : Int) := of_decide_eq_true (by first | (with_reducible assumption) | assumption); obtain ⟨ad444, e444, hx444_0⟩ := Kd.at_int (Kd.R_reads' HO442.out).2.2 a2 p444 q444; cases e444; replace p444 := eq_true p444; replace q444 := eq_true q444))
    go_ret2
    exact ⟨by first | rfl | (simp [errW_none, errW_some] <;> rfl) | (simp [*, errW_none, errW_some] <;> rfl), by exact Lz1 HB GE439⟩
   rw [if_neg c7] at H
   exact absurd H (by simp)
  rw [if_neg c6] at H
  exact absurd H (by simp)
 replace c5 := Bool.eq_false_iff.mpr c5
 subst c5
 have H1 : (some (0, false)) = some (r1, r2) := by rw [if_neg (show ¬ (false = true) by decide)] at H; exact H
 clear H
 have H := H1
 clear H1
 simp only [Option.some.injEq, Prod.mk.injEq] at H
 obtain ⟨rfl, rfl⟩ := H
 go_enter Try.func38, Try.ntmps38
 go_wp2_with (first | ((with_reducible refine gate_dst (N := 3) rfl ?_); refine box_event ?hg (N := 3) ?hd (cs := #[.int .i64 a0_0, .slice A0_1 l0_1.length c0_1]) (t := 25) ?hr ?_; (case hd => rfl); (case hg => rfl); (case hr => first | (go_simp; done) | (go_simp; rfl)); intro gb439 hg w12 hbox hb; have BK439 := Aside0.mk (hbox); have GW439 := Aside0.mk ((by rw [hg]; exact (below_size (Lz HB)) : w.heap.size ≤ gb439)); have GE439 := Aside0.mk ((by rw [hg]; exact (below_size (Lz HB)) : w.heap.size ≤ gb439)); replace HB := Aside0.mk (below_step (Lz HB) hb); clear hb hbox hg; have hcz13_0 : w12.cell? ⟨gb439, 0, none⟩ = some (.int .i64 a0_0) := (blk_cell BK439.out 0).trans rfl; have hcz13_1 : w12.cell? ⟨gb439, 1, none⟩ = some (.slice A0_1 l0_1.length c0_1) := (blk_cell BK439.out 1).trans rfl; have hfz13_0 := blk_frozen BK439.out 0; have hfz13_1 := blk_frozen BK439.out 1) | ((with_reducible refine gate_callee (f := 42) rfl ?_); refine goesM_ (some 14) rfl rfl Try.func42 (by kernel_rfl) rfl #[.agg #[.int .i64 a0_0, .slice A0_1 l0_1.length c0_1], .slice A1 l1.length c1, .int .i64 a2] rfl ?_; (with_reducible refine (impl_ReducedOf.calls k a0_0 _ _ l0_1 _ _ l1 a2 t440 false _ ?side1 ?side2 ?side3 ?side4 A4.out).mono ?_); (case side1 => exact Cz ((Kd.C_below HR0_1.out HB.out))); (case side2 => exact HC0_1.out); (case side3 => exact Cz ((Kd.C_below HR1.out HB.out))); (case side4 => exact HC1.out); rintro e w14 ⟨v441, rfl, ho0, hb⟩; refine ⟨_, rfl, ?_⟩; have HO442 := Aside0.mk (Kd.R_lower ho0 (below_size (by exact Lz1 HB GE439))); replace BK439 := Aside0.mk (blk_below (g := gb439) (o := .cells #[.int .i64 a0_0, .slice A0_1 l0_1.length c0_1] 25 (0, 0)) (Bz BK439) hb); replace HB := Aside0.mk (below_step (by exact Lz1 HB GE439) hb); (try clear hb); (try clear ho0)))
 go_ret2
 exact ⟨by first | rfl | (simp [errW_none, errW_some] <;> rfl) | (simp [*, errW_none, errW_some] <;> rfl), by exact Lz1 HB GE439⟩
end Go.Proofs.Ytnebapnfkolflaa.P
end
section
namespace Go.Proofs.Ytnebapnfkolflaa.P
open Go.RowKit Go.Proofs.YtnebapnfkolflaaW.PrintWords Go.Proofs.YtnebapnfkolflaaW.PrintLast Go.Proofs.YtnebapnfkolflaaW.PrintMore
attribute [local go_sem] max2_int min2_int max_two min_two max_three min_three max_four min_four
set_option linter.unusedVariables false
set_option linter.unusedSimpArgs false
mutual
def laws_FnExactChipsAt.j0 : Nat → List Int → Int → Int → List (S95) → Option (Bool)
 | 0, _, _, _, _ => none
 | k + 1, x1, x2, x446000, x446001 => (laws_szGraph.f x446000 x446001 1048576).bind fun t446 => (if t446 < 0 then (some true) else (laws_FnExactChipsAt.j1 k x1 x2 x446000 x446001))
def laws_FnExactChipsAt.j1 : Nat → List Int → Int → Int → List (S95) → Option (Bool)
 | 0, _, _, _, _ => none
 | k + 1, x1, x2, x446000, x446001 => (laws_toGraph.f k x446000 x446001).bind fun bt447 => ((laws_toIntS.f k x1).bind fun t451 => ((spec_ChipsAt.f k bt447.1 bt447.2 t451 x2).bind fun bt454 => ((laws_toGraph.f k x446000 x446001).bind fun bt456 => ((laws_toIntS.f k x1).bind fun t461 => ((impl_ChipsAt.f k bt456.1 bt456.2 t461 x2).bind fun bt464 => (if bt464.1 = bt454.1 then (laws_FnExactChipsAt.j2 k x1 t461 (bt464.2 != bt454.2) x446000 x446001 bt456.1 bt456.2) else (laws_FnExactChipsAt.j2 k x1 t461 true x446000 x446001 bt456.1 bt456.2)))))))
def laws_FnExactChipsAt.j2 : Nat → List Int → List Int → Bool → Int → List (S95) → Int → List (S70) → Option (Bool)
 | 0, _, _, _, _, _, _, _ => none
 | k + 1, x1, x11, x49, x446000, x446001, x461000, x461001 => if x49 = true then (some false) else (laws_FnExactChipsAt.j3 k x1 x11 x446000 x446001 x461000 x461001)
def laws_FnExactChipsAt.j3 : Nat → List Int → List Int → Int → List (S95) → Int → List (S70) → Option (Bool)
 | 0, _, _, _, _, _, _ => none
 | k + 1, x1, x11, x446000, x446001, x461000, x461001 => (laws_toGraph.f k x446000 x446001).bind fun bt466 => ((laws_eqGraph.f k x461000 x461001 bt466.1 bt466.2).bind fun t470 => (if t470 = true then (laws_FnExactChipsAt.j4 k x1 x11) else (some false)))
def laws_FnExactChipsAt.j4 : Nat → List Int → List Int → Option (Bool)
 | 0, _, _ => none
 | k + 1, x1, x11 => (laws_toIntS.f k x1).bind fun t471 => ((laws_eqIntS.f k x11 t471).bind fun t474 => (if t474 = true then (some true) else (some false)))
end
def laws_FnExactChipsAt.f (k : Nat) (a0_0 : Int) (l0_1 : List (S95)) (l1 : List Int) (a2 : Int) : Option (Bool) := if (l1.length : Int) > 1048576 then (some true) else (laws_FnExactChipsAt.j0 k l1 a2 a0_0 l0_1)
set_option maxHeartbeats 8000000 in
set_option maxRecDepth 100000 in
theorem laws_FnExactChipsAt.calls (k : Nat) (a0_0 : Int) (A0_1 : Option Addr) (c0_1 : Nat) (l0_1 : List (S95)) (A1 : Option Addr) (c1 : Nat) (l1 : List Int) (a2 : Int) (r : Bool) (w : World) (hr0_1 : Kd.C k95 w A0_1 l0_1.length l0_1) (hc0_1 : l0_1.length ≤ c0_1) (hr1 : Kd.C (Kd.int .i64) w A1 l1.length l1) (hc1 : l1.length ≤ c1) (h : laws_FnExactChipsAt.f k a0_0 l0_1 l1 a2 = some r) :
  Calls Try.prog 8 #[.agg #[.int .i64 a0_0, .slice A0_1 l0_1.length c0_1], .slice A1 l1.length c1, .int .i64 a2] w fun e w' => e = .returned (.bool r) ∧ Below w.heap.size w w' := by
 have hu37 := Try.underlying37
 have hu25 := Try.underlying25
 have HR0_1 := Aside0.mk hr0_1
 have HC0_1 := Aside0.mk hc0_1
 clear hr0_1 hc0_1
 have HR1 := Aside0.mk hr1
 have HC1 := Aside0.mk hc1
 clear hr1 hc1
 have HB := Aside0.mk (Below.refl w.heap.size w)
 have H : (if (l1.length : Int) > 1048576 then (some true) else (laws_FnExactChipsAt.j0 k l1 a2 a0_0 l0_1)) = some r := h
 clear h
 have HC4 := Aside0.mk H
 clear H
 go_enter Try.func8, Try.ntmps8
 go_upto_if 16 with (first | ((with_reducible refine gate_dst (N := 3) rfl ?_); refine box_event ?hg (N := 3) ?hd (cs := #[.int .i64 a0_0, .slice A0_1 l0_1.length c0_1]) (t := 37) ?hr ?_; (case hd => rfl); (case hg => rfl); (case hr => first | (go_simp; done) | (go_simp; rfl)); intro gb445 hg w5 hbox hb; have BK445 := Aside0.mk (hbox); have GW445 := Aside0.mk ((by rw [hg]; exact (below_size (Lz HB)) : w.heap.size ≤ gb445)); have GE445 := Aside0.mk ((by rw [hg]; exact (below_size (Lz HB)) : w.heap.size ≤ gb445)); replace HB := Aside0.mk (below_step (Lz HB) hb); clear hb hbox hg))
 (try simp only [Act.put, List.setIfInBounds_toArray, List.set_cons_zero, List.set_cons_succ])
 go_cut [] (fun wc => ∃ (kq : Nat), Aside0 (laws_FnExactChipsAt.j0 kq l1 a2 a0_0 l0_1 = some r) ∧ Aside0 (kq ≤ k) ∧ Aside0 (wc.heap[gb445]? = some (.cells #[.int .i64 a0_0, (.slice A0_1 l0_1.length c0_1)] 37 (0, 0))) ∧ Aside0 (Below w.heap.size w wc))
 case first =>
  have H := HC4.out
  clear HC4
  by_cases c6 : (l1.length : Int) > 1048576
  ·rw [if_pos c6] at H
   have c6b0 : decide (1048576 < (l1.length : Int)) = true := decide_eq_true c6
   have c6b1 : decide (1048576 < l1.length) = true := decide_eq_true (by omega)
   clear c6
   (first | rw [c6b0] | (simp only [i64_w, i32_w]; rw [c6b0]) | skip)
   obtain rfl := Option.some.inj H
   go_wp2
   go_ret
   exact ⟨by first | rfl | (simp [errW_none, errW_some] <;> rfl) | (simp [*, errW_none, errW_some] <;> rfl), by exact Lz1 HB GE445⟩
  rw [if_neg c6] at H
  have c6b0 : decide (1048576 < (l1.length : Int)) = false := decide_eq_false c6
  have c6b1 : decide (1048576 < l1.length) = false := decide_eq_false (by omega)
  clear c6
  (first | rw [c6b0] | (simp only [i64_w, i32_w]; rw [c6b0]) | skip)
  have H' := Aside0.mk H
  clear H
  go_wp2
  go_meet
  case rel => exact ⟨_, H', ⟨by first | omega | exact Nat.le_refl _⟩, ⟨by exact Bz BK445⟩, ⟨by exact Lz1 HB GE445⟩⟩
 case rest =>
  clear HC4
  try clear c1
  try clear c6
  try clear c6b0
  try clear c6b1
  obtain ⟨kq, HA, HJ3, BK445, HB⟩ := hcut
  cases kq with
  | zero => exact absurd HA.out (by simp [laws_FnExactChipsAt.j0])
  | succ kj3 =>
   have H := HA.out
   clear HA
   simp only [laws_FnExactChipsAt.j0] at H
   replace H := Option.bind_eq_some_iff.mp H
   obtain ⟨t446, A70, H⟩ := H
   replace H : (if t446 < 0 then (some true) else (laws_FnExactChipsAt.j1 kj3 l1 a2 a0_0 l0_1)) = some r := H
   have A7 := Aside0.mk A70
   clear A70
   have HC8 := Aside0.mk H
   clear H
   have hcz9_0 : wc.cell? ⟨gb445, 0, none⟩ = some (.int .i64 a0_0) := (blk_cell BK445.out 0).trans rfl
   have hcz9_1 : wc.cell? ⟨gb445, 1, none⟩ = some (.slice A0_1 l0_1.length c0_1) := (blk_cell BK445.out 1).trans rfl
   have hfz9_0 := blk_frozen BK445.out 0
   have hfz9_1 := blk_frozen BK445.out 1
   go_upto_if 21 with (first | ((with_reducible refine gate_callee (f := 23) rfl ?_); refine goesM_ (some 19) rfl rfl Try.func23 (by kernel_rfl) rfl #[.agg #[.int .i64 a0_0, .slice A0_1 l0_1.length c0_1], .int .i64 1048576] rfl ?_; (with_reducible refine (laws_szGraph.calls a0_0 _ _ l0_1 1048576 t446 _ ?side1 ?side2 A7.out).mono ?_); (case side1 => exact Cz ((Kd.C_below HR0_1.out HB.out))); (case side2 => exact HC0_1.out); rintro e w10 ⟨rfl, hb⟩; refine ⟨_, rfl, ?_⟩; replace BK445 := Aside0.mk (blk_below (g := gb445) (o := .cells #[.int .i64 a0_0, .slice A0_1 l0_1.length c0_1] 37 (0, 0)) (Bz BK445) hb); replace HB := Aside0.mk (below_step (by exact Lz1 HB GE445) hb); (try clear hb); (try clear hb2); (try clear hk); (try clear hi)))
   (try simp only [Act.put, List.setIfInBounds_toArray, List.set_cons_zero, List.set_cons_succ])
   go_cut [] (fun wc => ∃ (kq : Nat), Aside0 (laws_FnExactChipsAt.j1 kq l1 a2 a0_0 l0_1 = some r) ∧ Aside0 (kq ≤ kj3) ∧ Aside0 (wc.heap[gb445]? = some (.cells #[.int .i64 a0_0, (.slice A0_1 l0_1.length c0_1)] 37 (0, 0))) ∧ Aside0 (Below w.heap.size w wc))
   case first =>
    have H := HC8.out
    clear HC8
    by_cases c11 : t446 < 0
    ·rw [if_pos c11] at H
     have c11b0 : decide (t446 < 0) = true := decide_eq_true c11
     clear c11
     (first | rw [c11b0] | (simp only [i64_w, i32_w]; rw [c11b0]) | skip)
     obtain rfl := Option.some.inj H
     go_wp2
     go_ret
     exact ⟨by first | rfl | (simp [errW_none, errW_some] <;> rfl) | (simp [*, errW_none, errW_some] <;> rfl), by exact Lz1 HB GE445⟩
    rw [if_neg c11] at H
    have c11b0 : decide (t446 < 0) = false := decide_eq_false c11
    clear c11
    (first | rw [c11b0] | (simp only [i64_w, i32_w]; rw [c11b0]) | skip)
    have H' := Aside0.mk H
    clear H
    go_wp2
    go_meet
    case rel => exact ⟨_, H', ⟨by have := HJ3.out; first | omega | exact Nat.le_refl _⟩, ⟨by exact Bz BK445⟩, ⟨by exact Lz1 HB GE445⟩⟩
   case rest =>
    clear HC8
    try clear c1
    try clear c6
    try clear c6b0
    try clear c6b1
    try clear c11
    try clear c11b0
    obtain ⟨kq, HA, HJ7, BK445, HB⟩ := hcut
    cases kq with
    | zero => exact absurd HA.out (by simp [laws_FnExactChipsAt.j1])
    | succ kj7 =>
     have H := HA.out
     clear HA
     simp only [laws_FnExactChipsAt.j1] at H
     replace H := Option.bind_eq_some_iff.mp H
     obtain ⟨⟨t447, t448⟩, A120, H⟩ := H
     replace H : ((laws_toIntS.f kj7 l1).bind fun t451 => ((spec_ChipsAt.f kj7 t447 t448 t451 a2).bind fun bt454 => ((laws_toGraph.f kj7 a0_0 l0_1).bind fun bt456 => ((laws_toIntS.f kj7 l1).bind fun t461 => ((impl_ChipsAt.f kj7 bt456.1 bt456.2 t461 a2).bind fun bt464 => (if bt464.1 = bt454.1 then (laws_FnExactChipsAt.j2 kj7 l1 t461 (bt464.2 != bt454.2) a0_0 l0_1 bt456.1 bt456.2) else (laws_FnExactChipsAt.j2 kj7 l1 t461 true a0_0 l0_1 bt456.1 bt456.2))))))) = some r := H
     have A12 := Aside0.mk A120
     clear A120
     replace H := Option.bind_eq_some_iff.mp H
     obtain ⟨t451, A130, H⟩ := H
     replace H : ((spec_ChipsAt.f kj7 t447 t448 t451 a2).bind fun bt454 => ((laws_toGraph.f kj7 a0_0 l0_1).bind fun bt456 => ((laws_toIntS.f kj7 l1).bind fun t461 => ((impl_ChipsAt.f kj7 bt456.1 bt456.2 t461 a2).bind fun bt464 => (if bt464.1 = bt454.1 then (laws_FnExactChipsAt.j2 kj7 l1 t461 (bt464.2 != bt454.2) a0_0 l0_1 bt456.1 bt456.2) else (laws_FnExactChipsAt.j2 kj7 l1 t461 true a0_0 l0_1 bt456.1 bt456.2)))))) = some r := H
     have A13 := Aside0.mk A130
     clear A130
     replace H := Option.bind_eq_some_iff.mp H
     obtain ⟨⟨t454, t455⟩, A140, H⟩ := H
     replace H : ((laws_toGraph.f kj7 a0_0 l0_1).bind fun bt456 => ((laws_toIntS.f kj7 l1).bind fun t461 => ((impl_ChipsAt.f kj7 bt456.1 bt456.2 t461 a2).bind fun bt464 => (if bt464.1 = t454 then (laws_FnExactChipsAt.j2 kj7 l1 t461 (bt464.2 != t455) a0_0 l0_1 bt456.1 bt456.2) else (laws_FnExactChipsAt.j2 kj7 l1 t461 true a0_0 l0_1 bt456.1 bt456.2))))) = some r := H
     have A14 := Aside0.mk A140
     clear A140
     replace H := Option.bind_eq_some_iff.mp H
     obtain ⟨⟨t456, t457⟩, A150, H⟩ := H
     replace H : ((laws_toIntS.f kj7 l1).bind fun t461 => ((impl_ChipsAt.f kj7 t456 t457 t461 a2).bind fun bt464 => (if bt464.1 = t454 then (laws_FnExactChipsAt.j2 kj7 l1 t461 (bt464.2 != t455) a0_0 l0_1 t456 t457) else (laws_FnExactChipsAt.j2 kj7 l1 t461 true a0_0 l0_1 t456 t457)))) = some r := H
     have A15 := Aside0.mk A150
     clear A150
     replace H := Option.bind_eq_some_iff.mp H
     obtain ⟨t461, A160, H⟩ := H
     replace H : ((impl_ChipsAt.f kj7 t456 t457 t461 a2).bind fun bt464 => (if bt464.1 = t454 then (laws_FnExactChipsAt.j2 kj7 l1 t461 (bt464.2 != t455) a0_0 l0_1 t456 t457) else (laws_FnExactChipsAt.j2 kj7 l1 t461 true a0_0 l0_1 t456 t457))) = some r := H
     have A16 := Aside0.mk A160
     clear A160
     replace H := Option.bind_eq_some_iff.mp H
     obtain ⟨⟨t464, t465⟩, A170, H⟩ := H
     replace H : (if t464 = t454 then (laws_FnExactChipsAt.j2 kj7 l1 t461 (t465 != t455) a0_0 l0_1 t456 t457) else (laws_FnExactChipsAt.j2 kj7 l1 t461 true a0_0 l0_1 t456 t457)) = some r := H
     have A17 := Aside0.mk A170
     clear A170
     have HC18 := Aside0.mk H
     clear H
     have hcz19_0 : wc.cell? ⟨gb445, 0, none⟩ = some (.int .i64 a0_0) := (blk_cell BK445.out 0).trans rfl
     have hcz19_1 : wc.cell? ⟨gb445, 1, none⟩ = some (.slice A0_1 l0_1.length c0_1) := (blk_cell BK445.out 1).trans rfl
     have hfz19_0 := blk_frozen BK445.out 0
     have hfz19_1 := blk_frozen BK445.out 1
     go_upto_region 11 with (first | ((with_reducible refine gate_callee (f := 25) rfl ?_); refine goesM_ (some 24) rfl rfl Try.func25 (by kernel_rfl) rfl #[.agg #[.int .i64 a0_0, .slice A0_1 l0_1.length c0_1]] rfl ?_; (with_reducible refine (laws_toGraph.calls kj7 a0_0 _ _ l0_1 t447 t448 _ ?side1 ?side2 A12.out).mono ?_); (case side1 => exact Cz ((Kd.C_below HR0_1.out HB.out))); (case side2 => exact HC0_1.out); rintro e w20 ⟨v449, rfl, ho0, hb⟩; refine ⟨_, rfl, ?_⟩; have HO450 := Aside0.mk (Kd.R_lower ho0 (below_size (by exact Lz1 HB GE445))); replace BK445 := Aside0.mk (blk_below (g := gb445) (o := .cells #[.int .i64 a0_0, .slice A0_1 l0_1.length c0_1] 37 (0, 0)) (Bz BK445) hb); replace HB := Aside0.mk (below_step (by exact Lz1 HB GE445) hb); (try clear hb); (try clear ho0)) | ((with_reducible refine gate_callee (f := 26) rfl ?_); refine goesM_ (some 26) rfl rfl Try.func26 (by kernel_rfl) rfl #[.slice A1 l1.length c1] rfl ?_; (with_reducible refine (laws_toIntS.calls kj7 _ _ l1 t451 _ ?side1 ?side2 A13.out).mono ?_); (case side1 => exact Cz ((Kd.C_below HR1.out HB.out))); (case side2 => exact HC1.out); rintro e w21 ⟨v452, rfl, ho0, hb⟩; refine ⟨_, rfl, ?_⟩; replace HO450 := Aside0.mk (Kd.R_below (Rz HO450) hb); have HO453 := Aside0.mk (Kd.R_lower ho0 (below_size (by exact Lz1 HB GE445))); replace BK445 := Aside0.mk (blk_below (g := gb445) (o := .cells #[.int .i64 a0_0, .slice A0_1 l0_1.length c0_1] 37 (0, 0)) (Bz BK445) hb); replace HB := Aside0.mk (below_step (by exact Lz1 HB GE445) hb); (try clear hb); (try clear ho0); obtain ⟨Ao22, co22, eo22⟩ := Kd.R_slice HO450.out; subst eo22; obtain ⟨Ao23, co23, eo23⟩ := Kd.R_slice HO453.out; subst eo23) | ((with_reducible refine gate_callee (f := 37) rfl ?_); refine goesM_ (some 28) rfl rfl Try.func37 (by kernel_rfl) rfl #[.agg #[.int .i64 t447, .slice Ao22 t448.length co22], .slice Ao23 t451.length co23, .int .i64 a2] rfl ?_; (with_reducible refine (spec_ChipsAt.calls kj7 t447 _ _ t448 _ _ t451 a2 t454 t455 _ ?side1 ?side2 ?side3 ?side4 A14.out).mono ?_); (case side1 => exact Cz ((Kd.R_reads' HO450.out).2.2)); (case side2 => exact (Kd.R_reads' HO450.out).2.1); (case side3 => exact Cz ((Kd.R_reads' HO453.out).2.2)); (case side4 => exact (Kd.R_reads' HO453.out).2.1); rintro e w24 ⟨rfl, hb⟩; refine ⟨_, rfl, ?_⟩; replace HO450 := Aside0.mk (Kd.R_below (Rz HO450) hb); replace HO453 := Aside0.mk (Kd.R_below (Rz HO453) hb); replace BK445 := Aside0.mk (blk_below (g := gb445) (o := .cells #[.int .i64 a0_0, .slice A0_1 l0_1.length c0_1] 37 (0, 0)) (Bz BK445) hb); replace HB := Aside0.mk (below_step (by exact Lz1 HB GE445) hb); (try clear hb); (try clear hb2); (try clear hk); (try clear hi); have hcz25_0 : w24.cell? ⟨gb445, 0, none⟩ = some (.int .i64 a0_0) := (blk_cell BK445.out 0).trans rfl; have hcz25_1 : w24.cell? ⟨gb445, 1, none⟩ = some (.slice A0_1 l0_1.length c0_1) := (blk_cell BK445.out 1).trans rfl; have hfz25_0 := blk_frozen BK445.out 0; have hfz25_1 := blk_frozen BK445.out 1) | ((with_reducible refine gate_callee (f := 25) rfl ?_); refine goesM_ (some 32) rfl rfl Try.func25 (by kernel_rfl) rfl #[.agg #[.int .i64 a0_0, .slice A0_1 l0_1.length c0_1]] rfl ?_; (with_reducible refine (laws_toGraph.calls kj7 a0_0 _ _ l0_1 t456 t457 _ ?side1 ?side2 A15.out).mono ?_); (case side1 => exact Cz ((Kd.C_below HR0_1.out HB.out))); (case side2 => exact HC0_1.out); rintro e w26 ⟨v458, rfl, ho0, hb⟩; refine ⟨_, rfl, ?_⟩; replace HO453 := Aside0.mk (Kd.R_below (Rz HO453) hb); have HO459 := Aside0.mk (Kd.R_lower (Kd.R_new' ho0 (Kd.R_lt (Rz HO450))) (below_size (by exact Lz1 HB GE445))); replace HO450 := Aside0.mk (Kd.R_elder' (Rz HO450) (Kd.R_base ho0) hb); replace BK445 := Aside0.mk (blk_below (g := gb445) (o := .cells #[.int .i64 a0_0, .slice A0_1 l0_1.length c0_1] 37 (0, 0)) (Bz BK445) hb); replace HB := Aside0.mk (below_step (by exact Lz1 HB GE445) hb); (try clear hb); (try clear ho0)) | ((with_reducible refine gate_dst (N := 10) rfl ?_); refine box_event ?hg (N := 10) ?hd (cs := #[.int .i64 0, .slice none 0 0]) (t := 25) ?hr ?_; (case hd => rfl); (case hg => rfl); (case hr => first | (go_simp; done) | (go_simp; rfl)); intro gb460 hg w27 hbox hb; replace HO450 := Aside0.mk (Kd.R_below (Rz HO450) hb); replace HO453 := Aside0.mk (Kd.R_below (Rz HO453) hb); replace HO459 := Aside0.mk (Kd.R_below (Rz HO459) hb); have BK460 := Aside0.mk (hbox); have GW460 := Aside0.mk ((by rw [hg]; exact (below_size (by exact Lz1 HB GE445)) : w.heap.size ≤ gb460)); have GE460 := Aside0.mk ((by rw [hg]; exact (below_size (by exact Lz1 HB GE445)) : w.heap.size ≤ gb460)); replace HB := Aside0.mk (below_step (by exact Lz1 HB GE445) hb); have NB445_460 := Aside0.mk ((by rw [hg]; exact Nat.ne_of_lt (blk_lt (g := gb445) (o := .cells #[.int .i64 a0_0, .slice A0_1 l0_1.length c0_1] 37 (0, 0)) (Bz BK445)) : gb445 ≠ gb460)); have NB460_445 := Aside0.mk ((by rw [hg]; exact Nat.ne_of_gt (blk_lt (g := gb445) (o := .cells #[.int .i64 a0_0, .slice A0_1 l0_1.length c0_1] 37 (0, 0)) (Bz BK445)) : gb460 ≠ gb445)); replace BK445 := Aside0.mk (blk_below (g := gb445) (o := .cells #[.int .i64 a0_0, .slice A0_1 l0_1.length c0_1] 37 (0, 0)) (Bz BK445) hb); clear hb hbox hg; have hnb28 := NB460_445.out; have hnc28 := NB445_460.out; have hcz29_0 : w27.cell? ⟨gb460, 0, none⟩ = some (.int .i64 0) := (blk_cell BK460.out 0).trans rfl; have hcz29_1 : w27.cell? ⟨gb460, 1, none⟩ = some (.slice none 0 0) := (blk_cell BK460.out 1).trans rfl; have hfz29_0 := blk_frozen BK460.out 0; have hfz29_1 := blk_frozen BK460.out 1; obtain ⟨Ao30, co30, eo30⟩ := Kd.R_slice HO459.out; subst eo30) | ((with_reducible refine gate_callee (f := 26) rfl ?_); refine goesM_ (some 34) rfl rfl Try.func26 (by kernel_rfl) rfl #[.slice A1 l1.length c1] rfl ?_; (with_reducible refine (laws_toIntS.calls kj7 _ _ l1 t461 _ ?side1 ?side2 A16.out).mono ?_); (case side1 => exact Kd.C_below HR1.out (by exact Lz2 HB GE445 GE460)); (case side2 => exact HC1.out); rintro e w31 ⟨v462, rfl, ho0, hb⟩; refine ⟨_, rfl, ?_⟩; replace HO450 := Aside0.mk (Kd.R_below (by (with_reducible repeat (first | apply Kd.R_alloc | apply Kd.R_drewN | apply Kd.R_drew)); exact (Kd.R_mono (Kd.R_far (p := ⟨gb460, 1, none⟩) (Kd.R_far (p := ⟨gb460, 0, none⟩) (Kd.R_types HO450.out BK460.out (by decide)) (fun _ hk => hk.2) (.int .i64 t456)) (fun _ hk => hk.2) (.slice Ao30 t457.length co30)) (fun _ h_ => h_.1))) hb); replace HO459 := Aside0.mk (Kd.R_below (by (with_reducible repeat (first | apply Kd.R_alloc | apply Kd.R_drewN | apply Kd.R_drew)); exact (Kd.R_mono (Kd.R_far (p := ⟨gb460, 1, none⟩) (Kd.R_far (p := ⟨gb460, 0, none⟩) (Kd.R_types HO459.out BK460.out (by decide)) (fun _ hk => hk.2) (.int .i64 t456)) (fun _ hk => hk.2) (.slice Ao30 t457.length co30)) (fun _ h_ => h_.1))) hb); have HO463 := Aside0.mk (Kd.R_lower (Kd.R_new' ho0 (Kd.R_lt (by (with_reducible repeat (first | apply Kd.R_alloc | apply Kd.R_drewN | apply Kd.R_drew)); exact (Kd.R_mono (Kd.R_far (p := ⟨gb460, 1, none⟩) (Kd.R_far (p := ⟨gb460, 0, none⟩) (Kd.R_types HO453.out BK460.out (by decide)) (fun _ hk => hk.2) (.int .i64 t456)) (fun _ hk => hk.2) (.slice Ao30 t457.length co30)) (fun _ h_ => h_.1))))) (below_size (by exact Lz2 HB GE445 GE460))); replace HO453 := Aside0.mk (Kd.R_elder' (by (with_reducible repeat (first | apply Kd.R_alloc | apply Kd.R_drewN | apply Kd.R_drew)); exact (Kd.R_mono (Kd.R_far (p := ⟨gb460, 1, none⟩) (Kd.R_far (p := ⟨gb460, 0, none⟩) (Kd.R_types HO453.out BK460.out (by decide)) (fun _ hk => hk.2) (.int .i64 t456)) (fun _ hk => hk.2) (.slice Ao30 t457.length co30)) (fun _ h_ => h_.1))) (Kd.R_base ho0) hb); replace BK445 := Aside0.mk (blk_below (g := gb445) (o := .cells #[.int .i64 a0_0, .slice A0_1 l0_1.length c0_1] 37 (0, 0)) (by (with_reducible repeat (first | refine blk_drewN ?_ _ | refine blk_drew ?_ | refine blk_alloc ?_ _)); refine blk_far ?_ NB445_460.out _; (with_reducible repeat (first | refine blk_drewN ?_ _ | refine blk_drew ?_ | refine blk_alloc ?_ _)); refine blk_far ?_ NB445_460.out _; exact Bz BK445) hb); replace BK460 := Aside0.mk (blk_below (g := gb460) (o := .cells #[.int .i64 t456, .slice Ao30 t457.length co30] 25 (0, 0)) (by (with_reducible repeat (first | refine blk_drewN ?_ _ | refine blk_drew ?_ | refine blk_alloc ?_ _)); refine blk_put (cs := #[.int .i64 t456, .slice none 0 0]) ?_ 1 _ rfl; (with_reducible repeat (first | refine blk_drewN ?_ _ | refine blk_drew ?_ | refine blk_alloc ?_ _)); refine blk_put (cs := #[.int .i64 0, .slice none 0 0]) ?_ 0 _ rfl; exact Bz BK460) hb); replace HB := Aside0.mk (below_step (by exact Lz2 HB GE445 GE460) hb); (try clear hb); (try clear ho0); have hcz32_0 : w31.cell? ⟨gb460, 0, none⟩ = some (.int .i64 t456) := (blk_cell BK460.out 0).trans rfl; have hcz32_1 : w31.cell? ⟨gb460, 1, none⟩ = some (.slice Ao30 t457.length co30) := (blk_cell BK460.out 1).trans rfl; have hfz32_0 := blk_frozen BK460.out 0; have hfz32_1 := blk_frozen BK460.out 1; obtain ⟨Ao33, co33, eo33⟩ := Kd.R_slice HO463.out; subst eo33) | ((with_reducible refine gate_callee (f := 38) rfl ?_); refine goesM_ (some 39) rfl rfl Try.func38 (by kernel_rfl) rfl #[.agg #[.int .i64 t456, .slice Ao30 t457.length co30], .slice Ao33 t461.length co33, .int .i64 a2] rfl ?_; (with_reducible refine (impl_ChipsAt.calls kj7 t456 _ _ t457 _ _ t461 a2 t464 t465 _ ?side1 ?side2 ?side3 ?side4 A17.out).mono ?_); (case side1 => exact Cz ((Kd.R_reads' HO459.out).2.2)); (case side2 => exact (Kd.R_reads' HO459.out).2.1); (case side3 => exact Cz ((Kd.R_reads' HO463.out).2.2)); (case side4 => exact (Kd.R_reads' HO463.out).2.1); rintro e w34 ⟨rfl, hb⟩; refine ⟨_, rfl, ?_⟩; replace HO450 := Aside0.mk (Kd.R_below (Rz HO450) hb); replace HO453 := Aside0.mk (Kd.R_below (Rz HO453) hb); replace HO459 := Aside0.mk (Kd.R_below (Rz HO459) hb); replace HO463 := Aside0.mk (Kd.R_below (Rz HO463) hb); replace BK445 := Aside0.mk (blk_below (g := gb445) (o := .cells #[.int .i64 a0_0, .slice A0_1 l0_1.length c0_1] 37 (0, 0)) (Bz BK445) hb); replace BK460 := Aside0.mk (blk_below (g := gb460) (o := .cells #[.int .i64 t456, .slice Ao30 t457.length co30] 25 (0, 0)) (Bz BK460) hb); replace HB := Aside0.mk (below_step (by exact Lz2 HB GE445 GE460) hb); (try clear hb); (try clear hb2); (try clear hk); (try clear hi)))
     (try simp only [Act.put, List.setIfInBounds_toArray, List.set_cons_zero, List.set_cons_succ])
     go_cut [49] (fun v49 wc => ∃ (kq : Nat) (x49_17 : Bool), v49 = .bool x49_17 ∧ Aside0 (laws_FnExactChipsAt.j2 kq l1 t461 x49_17 a0_0 l0_1 t456 t457 = some r) ∧ Aside0 (kq ≤ kj7) ∧ Aside0 (Kd.R (Kd.int .i64) 3 wc w.heap.size (fun _ => True) (.slice Ao33 t461.length co33) t461) ∧ Aside0 (Kd.R k70 70 wc w.heap.size (fun _ => True) (.slice Ao30 t457.length co30) t457) ∧ Aside0 (wc.heap[gb445]? = some (.cells #[.int .i64 a0_0, (.slice A0_1 l0_1.length c0_1)] 37 (0, 0))) ∧ Aside0 (wc.heap[gb460]? = some (.cells #[.int .i64 t456, (.slice Ao30 t457.length co30)] 25 (0, 0))) ∧ Aside0 (Below w.heap.size w wc))
     case first =>
      have H := HC18.out
      clear HC18
      by_cases c35 : t464 = t454
      ·rw [if_pos c35] at H
       have c35b0 : (t464 == t454) = true := beq_iff_eq.mpr c35
       have c35b1 : (t464 != t454) = false := bne_eq_false_iff_eq.mpr c35
       clear c35
       (first | rw [c35b0] | (simp only [i64_w, i32_w]; rw [c35b0]) | skip)
       have H' := Aside0.mk H
       clear H
       go_wp2
       go_meet
       case rel => exact ⟨_, ((t465 != t455)), (by first | rfl | (simp; done) | (simp [*]; done)), H', ⟨by have := HJ3.out; have := HJ7.out; first | omega | exact Nat.le_refl _⟩, ⟨by (with_reducible repeat (first | apply Kd.R_alloc | apply Kd.R_drewN | apply Kd.R_drew)); exact Kd.R_mono HO463.out (fun _ hk => trivial)⟩, ⟨by (with_reducible repeat (first | apply Kd.R_alloc | apply Kd.R_drewN | apply Kd.R_drew)); exact Kd.R_mono HO459.out (fun _ hk => trivial)⟩, ⟨by exact Bz BK445⟩, ⟨by exact Bz BK460⟩, ⟨by exact Lz2 HB GE445 GE460⟩⟩
      rw [if_neg c35] at H
      have c35b0 : (t464 == t454) = false := beq_eq_false_iff_ne.mpr c35
      have c35b1 : (t464 != t454) = true := bne_iff_ne.mpr c35
      (first | rw [c35b0] | (simp only [i64_w, i32_w]; rw [c35b0]) | skip)
      have H' := Aside0.mk H
      clear H
      go_wp2
      go_meet
      case rel => exact ⟨_, (true), (by first | rfl | (simp; done) | (simp [*]; done)), H', ⟨by have := HJ3.out; have := HJ7.out; first | omega | exact Nat.le_refl _⟩, ⟨by (with_reducible repeat (first | apply Kd.R_alloc | apply Kd.R_drewN | apply Kd.R_drew)); exact Kd.R_mono HO463.out (fun _ hk => trivial)⟩, ⟨by (with_reducible repeat (first | apply Kd.R_alloc | apply Kd.R_drewN | apply Kd.R_drew)); exact Kd.R_mono HO459.out (fun _ hk => trivial)⟩, ⟨by exact Bz BK445⟩, ⟨by exact Bz BK460⟩, ⟨by exact Lz2 HB GE445 GE460⟩⟩
     case rest =>
      clear HC18
      try clear c1
      try clear c6
      try clear c6b0
      try clear c6b1
      try clear c11
      try clear c11b0
      try clear c35
      try clear c35b0
      try clear c35b1
      obtain ⟨kq, x49_17, rfl, HA, HJ17, HO_11, HO_461001, BK445, BK460, HB⟩ := hcut
      cases kq with
      | zero => exact absurd HA.out (by simp [laws_FnExactChipsAt.j2])
      | succ kj17 =>
       have H := HA.out
       clear HA
       simp only [laws_FnExactChipsAt.j2] at H
       have HC36 := Aside0.mk H
       clear H
       go_upto_if 49 with (fail)
       go_cut [] (fun wc => ∃ (kq : Nat), Aside0 (laws_FnExactChipsAt.j3 kq l1 t461 a0_0 l0_1 t456 t457 = some r) ∧ Aside0 (kq ≤ kj17) ∧ Aside0 (Kd.R (Kd.int .i64) 3 wc w.heap.size (fun _ => True) (.slice Ao33 t461.length co33) t461) ∧ Aside0 (Kd.R k70 70 wc w.heap.size (fun _ => True) (.slice Ao30 t457.length co30) t457) ∧ Aside0 (wc.heap[gb445]? = some (.cells #[.int .i64 a0_0, (.slice A0_1 l0_1.length c0_1)] 37 (0, 0))) ∧ Aside0 (wc.heap[gb460]? = some (.cells #[.int .i64 t456, (.slice Ao30 t457.length co30)] 25 (0, 0))) ∧ Aside0 (Below w.heap.size w wc))
       case first =>
        have H := HC36.out
        clear HC36
        by_cases c37 : x49_17 = true
        ·subst c37
         have H1 : (some false) = some r := by rw [if_pos rfl] at H; exact H
         clear H
         have H := H1
         clear H1
         obtain rfl := Option.some.inj H
         go_wp2
         go_ret
         exact ⟨by first | rfl | (simp [errW_none, errW_some] <;> rfl) | (simp [*, errW_none, errW_some] <;> rfl), by exact Lz2 HB GE445 GE460⟩
        replace c37 := Bool.eq_false_iff.mpr c37
        subst c37
        have H1 : (laws_FnExactChipsAt.j3 kj17 l1 t461 a0_0 l0_1 t456 t457) = some r := by rw [if_neg (show ¬ (false = true) by decide)] at H; exact H
        clear H
        have H := H1
        clear H1
        have H' := Aside0.mk H
        clear H
        go_wp2
        go_meet
        case rel => exact ⟨_, H', ⟨by have := HJ3.out; have := HJ7.out; have := HJ17.out; first | omega | exact Nat.le_refl _⟩, ⟨by exact Rz HO_11⟩, ⟨by exact Rz HO_461001⟩, ⟨by exact Bz BK445⟩, ⟨by exact Bz BK460⟩, ⟨by exact Lz2 HB GE445 GE460⟩⟩
       case rest =>
        clear HC36
        try clear c1
        try clear c6
        try clear c6b0
        try clear c6b1
        try clear c11
        try clear c11b0
        try clear c35
        try clear c35b0
        try clear c35b1
        try clear c37
        obtain ⟨kq, HA, HJ35, HO_11, HO_461001, BK445, BK460, HB⟩ := hcut
        cases kq with
        | zero => exact absurd HA.out (by simp [laws_FnExactChipsAt.j3])
        | succ kj35 =>
         have H := HA.out
         clear HA
         simp only [laws_FnExactChipsAt.j3] at H
         replace H := Option.bind_eq_some_iff.mp H
         obtain ⟨⟨t466, t467⟩, A380, H⟩ := H
         replace H : ((laws_eqGraph.f kj35 t456 t457 t466 t467).bind fun t470 => (if t470 = true then (laws_FnExactChipsAt.j4 kj35 l1 t461) else (some false))) = some r := H
         have A38 := Aside0.mk A380
         clear A380
         replace H := Option.bind_eq_some_iff.mp H
         obtain ⟨t470, A390, H⟩ := H
         replace H : (if t470 = true then (laws_FnExactChipsAt.j4 kj35 l1 t461) else (some false)) = some r := H
         have A39 := Aside0.mk A390
         clear A390
         have HC40 := Aside0.mk H
         clear H
         try go_wp2
         replace HO_11 := Aside0.mk (Kd.R_drew HO_11.out)
         replace HO_461001 := Aside0.mk (Kd.R_drew HO_461001.out)
         replace BK445 := Aside0.mk (blk_drew BK445.out)
         replace BK460 := Aside0.mk (blk_drew BK460.out)
         replace HB := Aside0.mk (below_drew1 HB.out)
         refine start_ (n := 5) (S := fun w' => w'.cell? ⟨gb460, 0, none⟩ = some (.int .i64 t456) ∧ w'.cell? ⟨gb460, 1, none⟩ = some (.slice Ao30 t457.length co30) ∧ w'.cell? ⟨gb445, 0, none⟩ = some (.int .i64 a0_0) ∧ w'.cell? ⟨gb445, 1, none⟩ = some (.slice A0_1 l0_1.length c0_1)) (ds := []) #[false, false, false, false, false] (by kernel_rfl) rfl rfl ⟨(blk_cell BK460.out 0).trans rfl, (blk_cell BK460.out 1).trans rfl, (blk_cell BK445.out 0).trans rfl, (blk_cell BK445.out 1).trans rfl⟩ (fun hHeld => ?_)
         generalize wc.drew = w41 at HO_11 HO_461001 BK445 BK460 HB hHeld ⊢
         refine take_ (i := 0) (N := some 50) (v := ?_) (a' := ?_) #[true, false, false, false, false] rfl rfl (by kernel_rfl) (fun _ _ _ h => h) (Or.inl ⟨by rfl, ?_⟩) hHeld ?_ ?_
         rotate_left
         ·rintro w' ⟨s0, s1, s2, s3⟩
          go_simp
          with_reducible rfl
         rotate_left
         ·simp only [Act.put, List.setIfInBounds_toArray, List.set_cons_zero, List.set_cons_succ, i64_w, i32_w]
          rfl
         refine take_ (i := 1) (N := some 51) (v := ?_) (a' := ?_) #[true, true, false, false, false] rfl rfl (by kernel_rfl) (fun _ _ _ h => h) (Or.inl ⟨by rfl, ?_⟩) hHeld ?_ ?_
         rotate_left
         ·rintro w' ⟨s0, s1, s2, s3⟩
          go_simp
          with_reducible rfl
         rotate_left
         ·simp only [Act.put, List.setIfInBounds_toArray, List.set_cons_zero, List.set_cons_succ, i64_w, i32_w]
          rfl
         refine one_ (i := 2) (N := some 52) #[true, true, true, false, false] rfl rfl (by kernel_rfl) (by decide) (fun K hK => ?_)
         refine goes_ Try.func25 (by kernel_rfl) rfl #[.agg #[.int .i64 a0_0, .slice A0_1 l0_1.length c0_1]] (by rfl) rfl rfl (by (try simp only [List.map_toArray, List.map_cons, List.map_nil]); first | done | rfl | (simp only [List.length_drop, List.length_take]; rfl)) ?_
         with_reducible refine (laws_toGraph.calls kj35 a0_0 _ _ l0_1 t466 t467 _ ?side1 ?side2 A38.out).mono ?_
         (case side1 => exact Cz ((Kd.C_below HR0_1.out HB.out)))
         (case side2 => exact HC0_1.out)
         rintro e w42 ⟨v468, rfl, ho0, hb⟩
         refine ⟨_, rfl, ?_⟩
         replace HO_11 := Aside0.mk (Kd.R_below (Rz HO_11) hb)
         have HO469 := Aside0.mk (Kd.R_lower (Kd.R_new' ho0 (Kd.R_lt (Rz HO_461001))) (below_size (by exact Lz2 HB GE445 GE460)))
         replace HO_461001 := Aside0.mk (Kd.R_elder' (Rz HO_461001) (Kd.R_base ho0) hb)
         replace BK445 := Aside0.mk (blk_below (g := gb445) (o := .cells #[.int .i64 a0_0, .slice A0_1 l0_1.length c0_1] 37 (0, 0)) (Bz BK445) hb)
         replace BK460 := Aside0.mk (blk_below (g := gb460) (o := .cells #[.int .i64 t456, .slice Ao30 t457.length co30] 25 (0, 0)) (Bz BK460) hb)
         replace HB := Aside0.mk (below_step (by exact Lz2 HB GE445 GE460) hb)
         (try clear hb)
         (try clear hb2)
         (try clear hk)
         (try clear hi)
         (try clear ho0)
         obtain ⟨Ao43, co43, eo43⟩ := Kd.R_slice HO469.out
         (first | subst eo43 | (injection eo43 with f1_ f2_ f3_; have f4_ := f1_.symm; have f5_ := f3_.symm; clear f1_ f2_ f3_; subst f4_; subst f5_))
         refine hK.out _ _ ⟨(blk_cell BK460.out 0).trans rfl, (blk_cell BK460.out 1).trans rfl, (blk_cell BK445.out 0).trans rfl, (blk_cell BK445.out 1).trans rfl⟩ (fun hHeld => ?_)
         clear hK K
         refine norm_ (a' := ?_) ?_ ?_
         rotate_left
         ·show Act.put _ (some 52) _ = _
          simp only [Act.put, List.setIfInBounds_toArray, List.set_cons_zero, List.set_cons_succ, i64_w, i32_w]
          rfl
         refine one_ (i := 3) (N := some 53) #[true, true, true, true, false] rfl rfl (by kernel_rfl) (by decide) (fun K hK => ?_)
         refine goes_ Try.func29 (by kernel_rfl) rfl #[.agg #[.int .i64 t456, .slice Ao30 t457.length co30], .agg #[.int .i64 t466, .slice Ao43 t467.length co43]] (by rfl) rfl rfl (by (try simp only [List.map_toArray, List.map_cons, List.map_nil]); first | done | rfl | (simp only [List.length_drop, List.length_take]; rfl)) ?_
         with_reducible refine (laws_eqGraph.calls kj35 t456 _ _ t457 t466 _ _ t467 t470 _ ?side1 ?side2 ?side3 ?side4 A39.out).mono ?_
         (case side1 => exact Cz ((Kd.R_reads' HO_461001.out).2.2))
         (case side2 => exact (Kd.R_reads' HO_461001.out).2.1)
         (case side3 => exact Cz ((Kd.R_reads' HO469.out).2.2))
         (case side4 => exact (Kd.R_reads' HO469.out).2.1)
         rintro e w44 ⟨rfl, hb⟩
         refine ⟨_, rfl, ?_⟩
         replace HO_11 := Aside0.mk (Kd.R_below (Rz HO_11) hb)
         replace HO_461001 := Aside0.mk (Kd.R_below (Rz HO_461001) hb)
         replace HO469 := Aside0.mk (Kd.R_below (Rz HO469) hb)
         replace BK445 := Aside0.mk (blk_below (g := gb445) (o := .cells #[.int .i64 a0_0, .slice A0_1 l0_1.length c0_1] 37 (0, 0)) (Bz BK445) hb)
         replace BK460 := Aside0.mk (blk_below (g := gb460) (o := .cells #[.int .i64 t456, .slice Ao30 t457.length co30] 25 (0, 0)) (Bz BK460) hb)
         replace HB := Aside0.mk (below_step (by exact Lz2 HB GE445 GE460) hb)
         (try clear hb)
         (try clear hb2)
         (try clear hk)
         (try clear hi)
         refine hK.out _ _ ⟨(blk_cell BK460.out 0).trans rfl, (blk_cell BK460.out 1).trans rfl, (blk_cell BK445.out 0).trans rfl, (blk_cell BK445.out 1).trans rfl⟩ (fun hHeld => ?_)
         clear hK K
         refine norm_ (a' := ?_) ?_ ?_
         rotate_left
         ·show Act.put _ (some 53) _ = _
          simp only [Act.put, List.setIfInBounds_toArray, List.set_cons_zero, List.set_cons_succ, i64_w, i32_w]
          rfl
         refine pure_ (i := 4) (N := some 54) (v := ?_) (a' := ?_) #[true, true, true, true, true] rfl rfl (by kernel_rfl) (fun _ _ _ h => h) (Or.inl ⟨by rfl, ?_⟩) ?_ ?_
         rotate_left
         ·intro w'
          go_simp
          with_reducible rfl
         rotate_left
         ·simp only [Act.put, List.setIfInBounds_toArray, List.set_cons_zero, List.set_cons_succ, i64_w, i32_w]
          rfl
         refine done_ (by kernel_rfl) ?_
         go_upto_if 54 with (fail)
         go_cut [] (fun wc => ∃ (kq : Nat), Aside0 (laws_FnExactChipsAt.j4 kq l1 t461 = some r) ∧ Aside0 (kq ≤ kj35) ∧ Aside0 (Kd.R (Kd.int .i64) 3 wc w.heap.size (fun _ => True) (.slice Ao33 t461.length co33) t461) ∧ Aside0 (Kd.R k70 70 wc w.heap.size (fun _ => True) (.slice Ao30 t457.length co30) t457) ∧ Aside0 (wc.heap[gb445]? = some (.cells #[.int .i64 a0_0, (.slice A0_1 l0_1.length c0_1)] 37 (0, 0))) ∧ Aside0 (wc.heap[gb460]? = some (.cells #[.int .i64 t456, (.slice Ao30 t457.length co30)] 25 (0, 0))) ∧ Aside0 (Below w.heap.size w wc))
         case first =>
          have H := HC40.out
          clear HC40
          by_cases c45 : t470 = true
          ·subst c45
           have H1 : (laws_FnExactChipsAt.j4 kj35 l1 t461) = some r := by rw [if_pos rfl] at H; exact H
           clear H
           have H := H1
           clear H1
           have H' := Aside0.mk H
           clear H
           go_wp2
           go_meet
           case rel => exact ⟨_, H', ⟨by have := HJ3.out; have := HJ7.out; have := HJ17.out; have := HJ35.out; first | omega | exact Nat.le_refl _⟩, ⟨by exact Rz HO_11⟩, ⟨by (with_reducible repeat (first | apply Kd.R_alloc | apply Kd.R_drewN | apply Kd.R_drew)); exact Kd.R_mono HO_461001.out (fun _ hk => trivial)⟩, ⟨by exact Bz BK445⟩, ⟨by exact Bz BK460⟩, ⟨by exact Lz2 HB GE445 GE460⟩⟩
          replace c45 := Bool.eq_false_iff.mpr c45
          subst c45
          have H1 : (some false) = some r := by rw [if_neg (show ¬ (false = true) by decide)] at H; exact H
          clear H
          have H := H1
          clear H1
          obtain rfl := Option.some.inj H
          go_wp2
          go_ret
          exact ⟨by first | rfl | (simp [errW_none, errW_some] <;> rfl) | (simp [*, errW_none, errW_some] <;> rfl), by exact Lz2 HB GE445 GE460⟩
         case rest =>
          clear HC40
          try clear c1
          try clear c6
          try clear c6b0
          try clear c6b1
          try clear c11
          try clear c11b0
          try clear c35
          try clear c35b0
          try clear c35b1
          try clear c37
          try clear c45
          obtain ⟨kq, HA, HJ39, HO_11, HO_461001, BK445, BK460, HB⟩ := hcut
          cases kq with
          | zero => exact absurd HA.out (by simp [laws_FnExactChipsAt.j4])
          | succ kj39 =>
           have H := HA.out
           clear HA
           simp only [laws_FnExactChipsAt.j4] at H
           replace H := Option.bind_eq_some_iff.mp H
           obtain ⟨t471, A460, H⟩ := H
           replace H : ((laws_eqIntS.f kj39 t461 t471).bind fun t474 => (if t474 = true then (some true) else (some false))) = some r := H
           have A46 := Aside0.mk A460
           clear A460
           replace H := Option.bind_eq_some_iff.mp H
           obtain ⟨t474, A470, H⟩ := H
           replace H : (if t474 = true then (some true) else (some false)) = some r := H
           have A47 := Aside0.mk A470
           clear A470
           by_cases c48 : t474 = true
           ·subst c48
            have H1 : (some true) = some r := by rw [if_pos rfl] at H; exact H
            clear H
            have H := H1
            clear H1
            obtain rfl := Option.some.inj H
            go_wp2_with (first | ((with_reducible refine gate_callee (f := 26) rfl ?_); refine goesM_ (some 57) rfl rfl Try.func26 (by kernel_rfl) rfl #[.slice A1 l1.length c1] rfl ?_; (with_reducible refine (laws_toIntS.calls kj39 _ _ l1 t471 _ ?side1 ?side2 A46.out).mono ?_); (case side1 => exact Cz ((Kd.C_below HR1.out HB.out))); (case side2 => exact HC1.out); rintro e w49 ⟨v472, rfl, ho0, hb⟩; refine ⟨_, rfl, ?_⟩; replace HO_461001 := Aside0.mk (Kd.R_below (Rz HO_461001) hb); have HO473 := Aside0.mk (Kd.R_lower (Kd.R_new' ho0 (Kd.R_lt (Rz HO_11))) (below_size (by exact Lz2 HB GE445 GE460))); replace HO_11 := Aside0.mk (Kd.R_elder' (Rz HO_11) (Kd.R_base ho0) hb); replace BK445 := Aside0.mk (blk_below (g := gb445) (o := .cells #[.int .i64 a0_0, .slice A0_1 l0_1.length c0_1] 37 (0, 0)) (Bz BK445) hb); replace BK460 := Aside0.mk (blk_below (g := gb460) (o := .cells #[.int .i64 t456, .slice Ao30 t457.length co30] 25 (0, 0)) (Bz BK460) hb); replace HB := Aside0.mk (below_step (by exact Lz2 HB GE445 GE460) hb); (try clear hb); (try clear ho0); obtain ⟨Ao50, co50, eo50⟩ := Kd.R_slice HO473.out; subst eo50) | ((with_reducible refine gate_callee (f := 28) rfl ?_); refine goesM_ (some 58) rfl rfl Try.func28 (by kernel_rfl) rfl #[.slice Ao33 t461.length co33, .slice Ao50 t471.length co50] rfl ?_; (with_reducible refine (laws_eqIntS.calls kj39 _ _ t461 _ _ t471 true _ ?side1 ?side2 ?side3 ?side4 A47.out).mono ?_); (case side1 => exact Cz ((Kd.R_reads' HO_11.out).2.2)); (case side2 => exact (Kd.R_reads' HO_11.out).2.1); (case side3 => exact Cz ((Kd.R_reads' HO473.out).2.2)); (case side4 => exact (Kd.R_reads' HO473.out).2.1); rintro e w' ⟨rfl, ⟨nd, rfl⟩⟩; refine ⟨_, rfl, ?_⟩))
            go_ret
            exact ⟨by first | rfl | (simp [errW_none, errW_some] <;> rfl) | (simp [*, errW_none, errW_some] <;> rfl), by exact Lz2 HB GE445 GE460⟩
           replace c48 := Bool.eq_false_iff.mpr c48
           subst c48
           have H1 : (some false) = some r := by rw [if_neg (show ¬ (false = true) by decide)] at H; exact H
           clear H
           have H := H1
           clear H1
           obtain rfl := Option.some.inj H
           go_wp2_with (first | ((with_reducible refine gate_callee (f := 26) rfl ?_); refine goesM_ (some 57) rfl rfl Try.func26 (by kernel_rfl) rfl #[.slice A1 l1.length c1] rfl ?_; (with_reducible refine (laws_toIntS.calls kj39 _ _ l1 t471 _ ?side1 ?side2 A46.out).mono ?_); (case side1 => exact Cz ((Kd.C_below HR1.out HB.out))); (case side2 => exact HC1.out); rintro e w51 ⟨v472, rfl, ho0, hb⟩; refine ⟨_, rfl, ?_⟩; replace HO_461001 := Aside0.mk (Kd.R_below (Rz HO_461001) hb); have HO473 := Aside0.mk (Kd.R_lower (Kd.R_new' ho0 (Kd.R_lt (Rz HO_11))) (below_size (by exact Lz2 HB GE445 GE460))); replace HO_11 := Aside0.mk (Kd.R_elder' (Rz HO_11) (Kd.R_base ho0) hb); replace BK445 := Aside0.mk (blk_below (g := gb445) (o := .cells #[.int .i64 a0_0, .slice A0_1 l0_1.length c0_1] 37 (0, 0)) (Bz BK445) hb); replace BK460 := Aside0.mk (blk_below (g := gb460) (o := .cells #[.int .i64 t456, .slice Ao30 t457.length co30] 25 (0, 0)) (Bz BK460) hb); replace HB := Aside0.mk (below_step (by exact Lz2 HB GE445 GE460) hb); (try clear hb); (try clear ho0); obtain ⟨Ao52, co52, eo52⟩ := Kd.R_slice HO473.out; subst eo52) | ((with_reducible refine gate_callee (f := 28) rfl ?_); refine goesM_ (some 58) rfl rfl Try.func28 (by kernel_rfl) rfl #[.slice Ao33 t461.length co33, .slice Ao52 t471.length co52] rfl ?_; (with_reducible refine (laws_eqIntS.calls kj39 _ _ t461 _ _ t471 false _ ?side1 ?side2 ?side3 ?side4 A47.out).mono ?_); (case side1 => exact Cz ((Kd.R_reads' HO_11.out).2.2)); (case side2 => exact (Kd.R_reads' HO_11.out).2.1); (case side3 => exact Cz ((Kd.R_reads' HO473.out).2.2)); (case side4 => exact (Kd.R_reads' HO473.out).2.1); rintro e w' ⟨rfl, ⟨nd, rfl⟩⟩; refine ⟨_, rfl, ?_⟩))
           go_ret
           exact ⟨by first | rfl | (simp [errW_none, errW_some] <;> rfl) | (simp [*, errW_none, errW_some] <;> rfl), by exact Lz2 HB GE445 GE460⟩
end Go.Proofs.Ytnebapnfkolflaa.P
end
section
namespace Go.Proofs.Ytnebapnfkolflaa.Pure
open Go.RowKit Go.Proofs.Ytnebapnfkolflaa.P Go.Proofs.YtnebapnfkolflaaW.PrintWords Go.Proofs.YtnebapnfkolflaaW.PrintLast Go.Proofs.YtnebapnfkolflaaW.PrintMore
def StatFnExactChipsAt : Prop := ∀ (a0_0 : Int) (l0_1 : List (S95)) (l1 : List (Int)) (a2 : Int), ((Lit.int .i64 a0_0).wf = true ∧ (l0_1.length ≤ maxLen ∧ ∀ x4 ∈ l0_1, (Lit.int .i64 x4.f0).wf = true ∧ (Lit.int .i64 x4.f1).wf = true)) → (l1.length ≤ maxLen ∧ ∀ x2 ∈ l1, (Lit.int .i64 x2).wf = true) → (Lit.int .i64 a2).wf = true → ∃ k, laws_FnExactChipsAt.f k a0_0 l0_1 l1 a2 = some true
end Go.Proofs.Ytnebapnfkolflaa.Pure
end
section
set_option linter.unusedVariables false
set_option linter.unusedSimpArgs false
namespace Go.Proofs.Ytnebapnfkolflaa.Pure
open Go.RowKit Go.Proofs.Ytnebapnfkolflaa.P Go.Proofs.YtnebapnfkolflaaW.PrintWords Go.Proofs.YtnebapnfkolflaaW.PrintLast Go.Proofs.YtnebapnfkolflaaW.PrintMore Go.Proofs.Ytnebapnfkolflaa.Base Go.Proofs.Ytnebapnfkolflaa.Loops
def cvE (e : S95) : S70 := ⟨e.f0, e.f1⟩
theorem rd_IE {l : List S70} {i : Nat} {a : S70} {r : List S70} (h : l.drop i = a :: r) : rd_T70 l (i : Int) = a := by
  unfold rd_T70
  rw [Int.toNat_natCast]
  exact get_drop h _
theorem rd_LE {l : List S95} {i : Nat} {a : S95} {r : List S95} (h : l.drop i = a :: r) : rd_T95 l (i : Int) = a := by
  unfold rd_T95
  rw [Int.toNat_natCast]
  exact get_drop h _
theorem szGraph_eq (a : Int) (l : List S95) (hl : l.length ≤ maxLen) (n : Int) (h0 : 0 ≤ n) (h1 : n ≤ 1048576) : laws_szGraph.f a l n = some (if (l.length : Int) ≤ n then n - l.length else -1) := by
  unfold maxLen at hl
  unfold laws_szGraph.f laws_szEdgeS.f
  have e : wrap64 (n - (l.length : Int)) = n - l.length := by unfold wrap64; omega
  rw [e]
  by_cases h : (l.length : Int) ≤ n
  · rw [if_neg (by omega), if_pos h]
    simp only [Option.bind_some]
    rw [if_neg (by omega)]
  · rw [if_pos (by omega), if_neg h]
    rfl
theorem toEdgeS_l0 (l : List S95) (hl : l.length < 4611686018427387904) : ∀ (d k i : Nat) (x : List S70), i + d = l.length → x.length = l.length → x.take i = (l.map cvE).take i → d < k → laws_toEdgeS.l0 k l x (i : Int) = some (l.map cvE) := by
  intro d
  induction d with
  | zero =>
    intro k i x hi hx ht hk
    obtain ⟨k, rfl⟩ := succ_of_lt hk
    simp only [laws_toEdgeS.l0]
    rw [if_neg (by omega), fill_end (x := x) (y := l.map cvE) (by simpa using hx) (by rw [List.length_map, show l.length = i by omega]; exact ht)]
  | succ d ih =>
    intro k i x hi hx ht hk
    obtain ⟨k, rfl⟩ := succ_of_lt hk
    have hlt : i < l.length := by omega
    have hd := List.drop_eq_getElem_cons hlt
    simp only [laws_toEdgeS.l0, laws_toEdge.f, Option.bind_some]
    rw [if_pos (by omega), if_pos (by omega), if_pos (by omega), wrap_succ (by omega), rd_LE hd, Int.toNat_natCast]
    refine ih k (i + 1) _ (by omega) (by simpa using hx) ?_ (by omega)
    refine fill_step (rest := (l.map cvE).drop (i + 1)) (by simpa using hx) ht ?_
    rw [List.drop_eq_getElem_cons (by simpa using hlt)]
    simp [cvE]
theorem toGraph_ev (a : Int) (l : List S95) (hl : l.length ≤ 1048576) : Ev (fun k => laws_toGraph.f k a l) (a, l.map cvE) := by
  refine ev_k l.length fun k hk => ?_
  unfold laws_toGraph.f laws_toEdgeS.f
  rw [if_pos (by omega), if_pos (by omega), show (0 : Int) = ((0 : Nat) : Int) from rfl, toEdgeS_l0 l (by omega) l.length k 0 _ (by omega) (by simp) (by simp) hk]
  rfl
theorem eqEdgeS_ev (l : List S70) (hl : l.length < 4611686018427387904) : Ev (fun k => laws_eqEdgeS.f k l l) true := by
  simp only [laws_eqEdgeS.f, if_true]
  refine ev_list0 l (fun k (_ : Unit) i => laws_eqEdgeS.l0 k l l i) (fun _ _ => true) (fun _ _ => True) (fun s _ => ev1 fun k => ?_) (fun s a rest i hlt hd _ => Or.inr ⟨(), trivial, rfl, 0, fun k _ => ?_⟩) () trivial
  · simp only [laws_eqEdgeS.l0]
    rw [if_neg (by omega)]
  · simp only [laws_eqEdgeS.l0, laws_eqEdge.f, if_true, Option.bind_some]
    rw [if_pos (by omega), if_pos (by omega), if_pos (by omega), wrap_succ (by omega)]
theorem eqGraph_ev (a : Int) (l : List S70) (hl : l.length < 4611686018427387904) : Ev (fun k => laws_eqGraph.f k a l a l) true := by
  simp only [laws_eqGraph.f, if_true]
  refine Ev.bind (eqEdgeS_ev l hl) ?_
  simp only [if_true]
  exact Ev.now _
theorem map_cv_length (l : List S95) : (l.map cvE).length = l.length := List.length_map ..
end Go.Proofs.Ytnebapnfkolflaa.Pure
end
section
set_option linter.unusedVariables false
set_option linter.unusedSimpArgs false
namespace Go.Proofs.Ytnebapnfkolflaa.Pure
open Go.RowKit Go.Proofs.Ytnebapnfkolflaa.P Go.Proofs.YtnebapnfkolflaaW.PrintWords Go.Proofs.YtnebapnfkolflaaW.PrintLast Go.Proofs.YtnebapnfkolflaaW.PrintMore Go.Proofs.Ytnebapnfkolflaa.Base Go.Proofs.Ytnebapnfkolflaa.Loops
def multN (es : List S70) (a b : Int) : Nat := es.countP fun e => decide (e.f0 = mn a b) && decide (e.f1 = mx a b)
def multI (n : Int) (es : List S70) (a b : Int) : Int := if 0 ≤ a ∧ a < n ∧ 0 ≤ b ∧ b < n ∧ a ≠ b then (multN es a b : Int) else 0
theorem mult_loop (es : List S70) (hl : es.length < 4611686018427387904) (a b : Int) (g : Nat → Int → Int → Option Int)
    (hg : ∀ k c i, g (k + 1) c i = if i < (es.length : Int) then (if 0 ≤ i then (if i < (es.length : Int) then (if ((rd_T70 es i).f0) = (mn a b) then (if ((rd_T70 es i).f1) = (mx a b) then (g k (wrap64 (c + 1)) (wrap64 (i + 1))) else (g k c (wrap64 (i + 1)))) else (g k c (wrap64 (i + 1)))) else (none)) else (none)) else (some c)) :
    Ev (fun k => g k 0 0) (multN es a b : Int) := by
  have h := ev_list es (fun k (c : Int) i => g k c i) (fun c r => c + (r.countP fun e => decide (e.f0 = mn a b) && decide (e.f1 = mx a b) : Nat)) (fun c r => 0 ≤ c ∧ c + r.length ≤ es.length) (fun s _ => ev1 fun k => ?_) (fun s e rest i hlt hd hinv => Or.inr ?_) es 0 0 (by omega) rfl (by simp)
  · simpa [multN] using h
  · rw [hg, if_neg (by omega)]; simp
  · simp only [List.length_cons] at hinv
    by_cases hc : e.f0 = mn a b ∧ e.f1 = mx a b
    · refine ⟨s + 1, by omega, ?_, 0, fun k _ => ?_⟩
      · rw [List.countP_cons_of_pos (by simp [hc])]; omega
      · rw [hg, if_pos (by omega), if_pos (by omega), if_pos (by omega), rd_IE hd, if_pos hc.1, if_pos hc.2, wrap_succ (by omega), wrap_id (by omega) (by omega)]
    · refine ⟨s, by omega, ?_, 0, fun k _ => ?_⟩
      · rw [List.countP_cons_of_neg (by simp; intro h1 h2; exact hc ⟨h1, h2⟩)]
      · rw [hg, if_pos (by omega), if_pos (by omega), if_pos (by omega), rd_IE hd, wrap_succ (by omega)]
        by_cases h1 : e.f0 = mn a b
        · rw [if_pos h1, if_neg (fun h2 => hc ⟨h1, h2⟩)]
        · rw [if_neg h1]
theorem spec_mult_ev (n : Int) (es : List S70) (hl : es.length < 4611686018427387904) (a b : Int) : Ev (fun k => spec_Multiplicity.f k n es a b) (multI n es a b) := by
  have hv : ∀ v, spec_l02Vert.f n es v = some (decide (0 ≤ v ∧ v < n)) := by
    intro v
    unfold spec_l02Vert.f
    by_cases h : v ≥ 0
    · rw [if_pos h]; simp; omega
    · rw [if_neg h]; simp; omega
  simp only [spec_Multiplicity.f, hv, Option.bind_some]
  have off : ∀ q : Bool, q = true → Ev (fun k => spec_Multiplicity.j0 k a b 0 q n es) 0 := fun q hq => ev1 fun k => by
    simp only [spec_Multiplicity.j0, hq, if_true]
  by_cases ha : 0 ≤ a ∧ a < n
  · by_cases hb : 0 ≤ b ∧ b < n
    · simp only [ha, hb, and_self, decide_true, if_true]
      by_cases hab : a = b
      · rw [multI, if_neg (by omega)]
        exact off _ (by simp [hab])
      · rw [multI, if_pos ⟨ha.1, ha.2, hb.1, hb.2, hab⟩]
        obtain ⟨K, hK⟩ := mult_loop es hl a b (fun k c i => spec_Multiplicity.l0 k a b c es (es.length : Int) i) (fun k c i => by simp only [spec_Multiplicity.l0])
        refine ⟨K + 1, fun k hk => ?_⟩
        obtain ⟨m, rfl⟩ : ∃ m, k = m + 1 := ⟨k - 1, by omega⟩
        have h2 := hK m (by omega)
        dsimp only at h2 ⊢
        simp only [spec_Multiplicity.j0]
        rw [if_neg (by simp [hab]), h2]
    · simp only [ha, and_self, decide_true, if_true, decide_eq_true_eq, if_neg hb]
      rw [multI, if_neg (by omega)]
      exact off _ rfl
  · simp only [decide_eq_true_eq, if_neg ha]
    rw [multI, if_neg (by omega)]
    exact off _ rfl
theorem impl_mult_ev (n : Int) (es : List S70) (hl : es.length < 4611686018427387904) (a b : Int) : Ev (fun k => impl_Multiplicity.f k n es a b) (multI n es a b) := by
  simp only [impl_Multiplicity.f]
  have off : ∀ q : Bool, q = true → Ev (fun k => impl_Multiplicity.j0 k a b q n es) 0 := fun q hq => ev1 fun k => by
    simp only [impl_Multiplicity.j0, hq, if_true]
  have e1 : mn a b < 0 ↔ (a < 0 ∨ b < 0) := by unfold mn; split <;> omega
  have e2 : mx a b ≥ n ↔ (a ≥ n ∨ b ≥ n) := by unfold mx; split <;> omega
  by_cases h1 : mn a b < 0
  · simp only [if_pos h1]
    rw [multI, if_neg (by omega)]
    exact off _ rfl
  · by_cases h2 : mx a b ≥ n
    · simp only [if_neg h1, if_pos h2]
      rw [multI, if_neg (by omega)]
      exact off _ rfl
    · simp only [if_neg h1, if_neg h2]
      by_cases hab : a = b
      · rw [multI, if_neg (by omega)]
        exact off _ (by simp [hab])
      · rw [multI, if_pos (by omega)]
        obtain ⟨K, hK⟩ := mult_loop es hl a b (fun k c i => impl_Multiplicity.l0 k a b c es (es.length : Int) i) (fun k c i => by simp only [impl_Multiplicity.l0])
        refine ⟨K + 1, fun k hk => ?_⟩
        obtain ⟨m, rfl⟩ : ∃ m, k = m + 1 := ⟨k - 1, by omega⟩
        have h2 := hK m (by omega)
        dsimp only at h2 ⊢
        simp only [impl_Multiplicity.j0]
        rw [if_neg (by simp [hab]), h2]
end Go.Proofs.Ytnebapnfkolflaa.Pure
end
section
set_option linter.unusedVariables false
set_option linter.unusedSimpArgs false
namespace Go.Proofs.Ytnebapnfkolflaa.Pure
open Go.RowKit Go.Proofs.Ytnebapnfkolflaa.P Go.Proofs.YtnebapnfkolflaaW.PrintWords Go.Proofs.YtnebapnfkolflaaW.PrintLast Go.Proofs.YtnebapnfkolflaaW.PrintMore Go.Proofs.Ytnebapnfkolflaa.Base Go.Proofs.Ytnebapnfkolflaa.Loops
def edgesB (n : Int) (es : List S70) : Bool := decide (1 ≤ n) && decide (n ≤ 6) && decide (es.length ≤ 12) && es.all fun e => decide (0 ≤ e.f0) && decide (e.f0 < e.f1) && decide (e.f1 < n)
theorem impl_edgesOk_ev (n : Int) (es : List S70) (hl : es.length < 4611686018427387904) : Ev (fun k => impl_EdgesOk.f k n es) (edgesB n es) := by
  have hw : impl_within.f n 1 6 = some (decide (1 ≤ n) && decide (n ≤ 6)) := by
    unfold impl_within.f
    by_cases h : n ≥ 1
    · rw [if_pos h]; simp [h]
    · rw [if_neg h]; simp [h]
  simp only [impl_EdgesOk.f, hw, Option.bind_some]
  by_cases hn : 1 ≤ n ∧ n ≤ 6
  · by_cases h12 : es.length ≤ 12
    · have loop : Ev (fun k => impl_EdgesOk.l0 k es (es.length : Int) 0 n es) (es.all fun e => decide (0 ≤ e.f0) && decide (e.f0 < e.f1) && decide (e.f1 < n)) := by
        refine ev_listE es (fun k (_ : Unit) i => impl_EdgesOk.l0 k es (es.length : Int) i n es) (fun _ r => r.all fun e => decide (0 ≤ e.f0) && decide (e.f0 < e.f1) && decide (e.f1 < n)) (fun _ _ => True)
          (fun s _ => ev1 fun k => ?_) (fun s a rest i hlt hd _ => ?_) () trivial
        · simp only [impl_EdgesOk.l0]
          rw [if_neg (by omega)]; rfl
        · have bad : a.f0 < 0 ∨ a.f0 ≥ a.f1 ∨ a.f1 ≥ n → ((a :: rest).all fun e => decide (0 ≤ e.f0) && decide (e.f0 < e.f1) && decide (e.f1 < n)) = false := by
            intro h; simp only [List.all_cons, Bool.and_eq_false_iff, decide_eq_false_iff_not]; omega
          have stop : Ev (fun k => impl_EdgesOk.j2 k es (es.length : Int) (i : Int) true n es) false := ev1 fun k => by simp only [impl_EdgesOk.j2, if_true]
          by_cases h1 : a.f0 < 0
          · refine Or.inl (ev_succ ?_)
            simp only [impl_EdgesOk.l0, rd_IE hd]
            rw [bad (by omega)]
            exact ev_ift (by omega) (ev_ift (by omega) (ev_ift (by omega) (ev_ift h1 stop)))
          by_cases h2 : a.f0 ≥ a.f1
          · refine Or.inl (ev_succ ?_)
            simp only [impl_EdgesOk.l0, rd_IE hd]
            rw [bad (by omega)]
            exact ev_ift (by omega) (ev_ift (by omega) (ev_ift (by omega) (ev_ifn h1 (ev_ift h2 stop))))
          by_cases h3 : a.f1 ≥ n
          · refine Or.inl (ev_succ ?_)
            simp only [impl_EdgesOk.l0, rd_IE hd]
            rw [bad (by omega), decide_eq_true h3]
            exact ev_ift (by omega) (ev_ift (by omega) (ev_ift (by omega) (ev_ifn h1 (ev_ifn h2 stop))))
          refine Or.inr ⟨(), trivial, ?_, fun r hr => ev_succ ?_⟩
          · simp; omega
          · simp only [impl_EdgesOk.l0, rd_IE hd, decide_eq_false h3]
            refine ev_ift (by omega) (ev_ift (by omega) (ev_ift (by omega) (ev_ifn h1 (ev_ifn h2 (ev_succ ?_)))))
            simp only [impl_EdgesOk.j2, Bool.false_eq_true, if_false, wrap_succ (show i < 4611686018427387904 by omega)]
            exact hr
      obtain ⟨K, hK⟩ := loop
      dsimp only at hK
      refine ⟨K + 1, fun k hk => ?_⟩
      obtain ⟨m, rfl⟩ : ∃ m, k = m + 1 := ⟨k - 1, by omega⟩
      have := hK m (by omega)
      simp only [hn.1, hn.2, decide_true, Bool.and_self, if_true, impl_EdgesOk.j0]
      rw [if_neg (by simp; omega), this]
      simp [edgesB, hn, h12]
    · refine ev1 fun k => ?_
      simp only [hn.1, hn.2, decide_true, Bool.and_self, if_true, impl_EdgesOk.j0]
      rw [if_pos (by simp; omega)]
      simp [edgesB, h12]
  · refine ev1 fun k => ?_
    rw [if_neg (by simp; omega)]
    simp only [impl_EdgesOk.j0, if_true]
    simp [edgesB]
    intro a b
    exact absurd ⟨a, b⟩ hn
theorem spec_edgesOk_ev (n : Int) (es : List S70) (hl : es.length < 4611686018427387904) : Ev (fun k => spec_EdgesOk.f k n es) (edgesB n es) := by
  have hw : ∀ a b c : Int, spec_l01In.f a b c = some (decide (b ≤ a) && decide (a ≤ c)) := by
    intro a b c
    unfold spec_l01In.f
    by_cases h : a ≥ b
    · rw [if_pos h]; simp [h]
    · rw [if_neg h]; simp [h]
  simp only [spec_EdgesOk.f, hw, Option.bind_some]
  by_cases hn : 1 ≤ n ∧ n ≤ 6
  · have hn1 : wrap64 (n - 1) = n - 1 := by unfold wrap64; omega
    by_cases h12 : es.length ≤ 12
    · have loop : Ev (fun k => spec_EdgesOk.l0 k es (es.length : Int) 0 n es) (es.all fun e => decide (0 ≤ e.f0) && decide (e.f0 < e.f1) && decide (e.f1 < n)) := by
        refine ev_list0 es (fun k (_ : Unit) i => spec_EdgesOk.l0 k es (es.length : Int) i n es) (fun _ r => r.all fun e => decide (0 ≤ e.f0) && decide (e.f0 < e.f1) && decide (e.f1 < n)) (fun _ _ => True)
          (fun s _ => ev1 fun k => ?_) (fun s a rest i hlt hd _ => ?_) () trivial
        · simp only [spec_EdgesOk.l0]
          rw [if_neg (by omega)]; rfl
        · by_cases h1 : 0 ≤ a.f0 ∧ a.f0 ≤ n - 1
          · have e1 : wrap64 (a.f0 + 1) = a.f0 + 1 := by unfold wrap64; omega
            by_cases h2 : a.f0 + 1 ≤ a.f1 ∧ a.f1 ≤ n - 1
            · refine Or.inr ⟨(), trivial, ?_, 0, fun k _ => ?_⟩
              · simp; omega
              · simp only [spec_EdgesOk.l0, rd_IE hd, hw, hn1, e1, Option.bind_some]
                rw [if_pos (by omega), if_pos (by omega), if_pos (by omega), if_pos (by simp; omega), if_pos (by simp; omega), wrap_succ (by omega)]
            · refine Or.inl (ev1 fun k => ?_)
              simp only [spec_EdgesOk.l0, rd_IE hd, hw, hn1, e1, Option.bind_some]
              rw [if_pos (by omega), if_pos (by omega), if_pos (by omega), if_pos (by simp; omega), if_neg (by simp; omega)]
              simp; omega
          · refine Or.inl (ev1 fun k => ?_)
            simp only [spec_EdgesOk.l0, rd_IE hd, hw, hn1, Option.bind_some]
            rw [if_pos (by omega), if_pos (by omega), if_pos (by omega), if_neg (by simp; omega)]
            simp; omega
      obtain ⟨K, hK⟩ := loop
      dsimp only at hK
      refine ⟨K + 1, fun k hk => ?_⟩
      obtain ⟨m, rfl⟩ : ∃ m, k = m + 1 := ⟨k - 1, by omega⟩
      have := hK m (by omega)
      simp only [hn.1, hn.2, decide_true, Bool.and_self, if_true, spec_EdgesOk.j0]
      rw [if_neg (by simp; omega), this]
      simp [edgesB, hn, h12]
    · refine ev1 fun k => ?_
      simp only [hn.1, hn.2, decide_true, Bool.and_self, if_true, spec_EdgesOk.j0]
      rw [if_pos (by simp; omega)]
      simp [edgesB, h12]
  · refine ev1 fun k => ?_
    rw [if_neg (by simp; omega)]
    simp only [spec_EdgesOk.j0, if_true]
    simp [edgesB]
    intro a b
    exact absurd ⟨a, b⟩ hn
end Go.Proofs.Ytnebapnfkolflaa.Pure
end
section
set_option linter.unusedVariables false
set_option linter.unusedSimpArgs false
namespace Go.Proofs.Ytnebapnfkolflaa.Pure
open Go.RowKit Go.Proofs.Ytnebapnfkolflaa.P Go.Proofs.YtnebapnfkolflaaW.PrintWords Go.Proofs.YtnebapnfkolflaaW.PrintLast Go.Proofs.YtnebapnfkolflaaW.PrintMore Go.Proofs.Ytnebapnfkolflaa.Base Go.Proofs.Ytnebapnfkolflaa.Bits Go.Proofs.Ytnebapnfkolflaa.Loops
def SortedE (es : List S70) : Prop := ∀ i, i + 1 < es.length → ¬ ((es.getD (i + 1) z70).f0 < (es.getD i z70).f0 ∨ ((es.getD (i + 1) z70).f0 = (es.getD i z70).f0 ∧ (es.getD (i + 1) z70).f1 < (es.getD i z70).f1))
def ConnE (n : Int) (es : List S70) : Prop := ∀ P : Int → Prop, P 0 → (∀ e ∈ es, P e.f0 ↔ P e.f1) → ∀ v, 0 ≤ v → v < n → P v
def GraphP (n : Int) (es : List S70) : Prop := edgesB n es = true ∧ SortedE es ∧ ConnE n es
theorem rdE_nat (es : List S70) (i : Nat) : rd_T70 es (i : Int) = es.getD i z70 := by unfold rd_T70; rw [Int.toNat_natCast]
theorem edgesB_facts {n : Int} {es : List S70} (h : edgesB n es = true) : 1 ≤ n ∧ n ≤ 6 ∧ es.length ≤ 12 ∧ ∀ e ∈ es, 0 ≤ e.f0 ∧ e.f0 < e.f1 ∧ e.f1 < n := by
  simp only [edgesB, Bool.and_eq_true, decide_eq_true_eq, List.all_eq_true] at h
  exact ⟨h.1.1.1, h.1.1.2, h.1.2, fun e he => ⟨(h.2 e he).1.1, (h.2 e he).1.2, (h.2 e he).2⟩⟩
theorem compare_eq (a0 a1 b0 b1 : Int) : ∃ c, impl_compareEdges.f a0 a1 b0 b1 = some c ∧ (c < 0 ↔ a0 < b0 ∨ (a0 = b0 ∧ a1 < b1)) := by
  have hc : ∀ x y : Int, cmp_Compare_int.f x y = some (if x < y then -1 else if x > y then 1 else 0) := by
    intro x y
    unfold cmp_Compare_int.f cmp_isNaN_int.f
    simp only [Option.bind_some, bne_self_eq_false, Bool.false_eq_true, if_false]
    by_cases h1 : x < y
    · rw [if_pos h1, if_pos h1]
    · rw [if_neg h1, if_neg h1]
      by_cases h2 : x > y
      · rw [if_pos h2, if_pos h2]
      · rw [if_neg h2, if_neg h2]
  unfold impl_compareEdges.f
  simp only [hc, Option.bind_some]
  by_cases h1 : a0 < b0
  · rw [if_pos h1, if_neg (by decide)]
    exact ⟨_, rfl, by omega⟩
  · by_cases h2 : a0 > b0
    · rw [if_neg h1, if_pos h2, if_neg (by decide)]
      exact ⟨_, rfl, by omega⟩
    · rw [if_neg h1, if_neg h2, if_pos rfl]
      refine ⟨_, rfl, ?_⟩
      by_cases h3 : a1 < b1
      · rw [if_pos h3]; omega
      · rw [if_neg h3]
        split <;> omega
theorem impl_sorted_ev (es : List S70) (hl : es.length < 4611686018427387904) : ∃ b : Bool, Ev (fun k => slices_IsSortedFunc_Edge.f k es) b ∧ (b = true ↔ SortedE es) := by
  have main : ∀ i : Nat, i < es.length → ∃ b : Bool, Ev (fun k => slices_IsSortedFunc_Edge.l0 k es (i : Int)) b ∧ (b = true ↔ ∀ j, j < i → ¬ ((es.getD (j + 1) z70).f0 < (es.getD j z70).f0 ∨ ((es.getD (j + 1) z70).f0 = (es.getD j z70).f0 ∧ (es.getD (j + 1) z70).f1 < (es.getD j z70).f1))) := by
    intro i
    induction i with
    | zero =>
      intro _
      refine ⟨true, ev1 fun k => ?_, by simp⟩
      simp only [slices_IsSortedFunc_Edge.l0]
      rw [if_neg (by omega)]
    | succ i ih =>
      intro hi
      obtain ⟨b, ⟨K, hb⟩, hiff⟩ := ih (by omega)
      have ew : wrap64 (((i + 1 : Nat) : Int) - 1) = (i : Int) := by unfold wrap64; omega
      obtain ⟨c, hc, hneg⟩ := compare_eq (es.getD (i + 1) z70).f0 (es.getD (i + 1) z70).f1 (es.getD i z70).f0 (es.getD i z70).f1
      by_cases h : c < 0
      · refine ⟨false, ev1 fun k => ?_, ?_⟩
        · simp only [slices_IsSortedFunc_Edge.l0, ew, rdE_nat, hc, Option.bind_some]
          rw [if_pos (by omega), if_pos (by omega), if_pos (by omega), if_pos (by omega), if_pos (by omega), if_pos h]
        · simp only [Bool.false_eq_true, false_iff]
          intro hall
          exact hall i (by omega) (hneg.1 h)
      · refine ⟨b, ⟨K + 1, fun k hk => ?_⟩, ?_⟩
        · obtain ⟨m, rfl⟩ : ∃ m, k = m + 1 := ⟨k - 1, by omega⟩
          have h2 := hb m (by omega)
          dsimp only at h2 ⊢
          simp only [slices_IsSortedFunc_Edge.l0, ew, rdE_nat, hc, Option.bind_some]
          rw [if_pos (by omega), if_pos (by omega), if_pos (by omega), if_pos (by omega), if_pos (by omega), if_neg h, h2]
        · rw [hiff]
          constructor
          · intro hall j hj
            by_cases e : j = i
            · subst e; exact fun hh => h (hneg.2 hh)
            · exact hall j (by omega)
          · exact fun hall j hj => hall j (by omega)
  simp only [slices_IsSortedFunc_Edge.f]
  by_cases h0 : es.length = 0
  · refine ⟨true, ev1 fun k => ?_, ?_⟩
    · simp only [slices_IsSortedFunc_Edge.l0]
      rw [if_neg (by unfold wrap64; omega)]
    · simp only [true_iff]
      intro i hi
      omega
  · obtain ⟨b, hb, hiff⟩ := main (es.length - 1) (by omega)
    have ew : wrap64 ((es.length : Int) - 1) = ((es.length - 1 : Nat) : Int) := by unfold wrap64; omega
    rw [ew]
    refine ⟨b, hb, ?_⟩
    rw [hiff]
    exact ⟨fun h i hi => h i (by omega), fun h i hi => h i (by omega)⟩
def toN (e : S70) : Nat × Nat := (e.f0.toNat, e.f1.toNat)
theorem conn_l1 (n : Nat) (es : List S70) (hn : n ≤ 6) (he : ∀ e ∈ es, 0 ≤ e.f0 ∧ e.f0 < e.f1 ∧ e.f1 < n) (x8 x9 : Int) (r : Bool) (hl : es.length < 4611686018427387904) :
    ∀ (rest : List S70) (i : Nat) (M : Nat), i ≤ es.length → es.drop i = rest → M < 2 ^ n → Ev (fun k => impl_connected.l0 k n es ((rnd (rest.map toN) M : Nat) : Int) x8 (wrap64 (x9 + 1))) r →
      Ev (fun k => impl_connected.l1 k n es (M : Int) x8 x9 es (es.length : Int) (i : Int)) r := by
  intro rest
  induction rest with
  | nil =>
    intro i M hi hd hM h
    have := drop_nil hd
    obtain ⟨K, hK⟩ := h
    refine ⟨K + 1, fun k hk => ?_⟩
    obtain ⟨m, rfl⟩ : ∃ m, k = m + 1 := ⟨k - 1, by omega⟩
    simp only [impl_connected.l1]
    rw [if_neg (by omega)]
    exact hK m (by omega)
  | cons e rest ih =>
    intro i M hi hd hM h
    have hlt := drop_lt hd
    have hmem : e ∈ es := by
      have : e ∈ es.drop i := by rw [hd]; simp
      exact List.mem_of_mem_drop this
    obtain ⟨h0, h1, h2⟩ := he e hmem
    obtain ⟨a, ha⟩ : ∃ a : Nat, e.f0 = a := ⟨e.f0.toNat, by omega⟩
    obtain ⟨b, hb⟩ : ∃ b : Nat, e.f1 = b := ⟨e.f1.toNat, by omega⟩
    have hte : toN e = (a, b) := by simp [toN, ha, hb]
    have hM62 : M < 2 ^ 62 := Nat.lt_of_lt_of_le hM (Nat.pow_le_pow_right (by decide) (by omega))
    have hlt' := upd_lt M (a, b) n hM (by show a < n; omega) (by show b < n; omega)
    rw [List.map_cons, hte] at h
    obtain ⟨K, hK⟩ := ih (i + 1) (upd M (a, b)) (by omega) (drop_next hd) hlt' h
    refine ⟨K + 1, fun k hk => ?_⟩
    obtain ⟨m, rfl⟩ : ∃ m, k = m + 1 := ⟨k - 1, by omega⟩
    have h3 := hK m (by omega)
    dsimp only at h3 ⊢
    simp only [impl_connected.l1, rd_IE hd, ha, hb, bit_of M a hM62 (by omega), bit_of M b hM62 (by omega), or_two M a b hM62 (by omega) (by omega)]
    rw [if_pos (by omega), if_pos (by omega), if_pos (by omega), if_pos (by omega), wrap_succ (by omega)]
    unfold upd at h3
    by_cases ta : M.testBit a = true
    · rw [if_pos (by simp [ta]), if_pos (by omega)]
      rw [if_pos (by simp [ta])] at h3
      exact h3
    · by_cases tb : M.testBit b = true
      · rw [if_neg (by simp [ta]), if_pos (by omega), if_pos (by simp [tb])]
        rw [if_pos (by simp [tb])] at h3
        exact h3
      · rw [if_neg (by simp [ta]), if_pos (by omega), if_neg (by simp [tb])]
        rw [if_neg (by simp [ta, tb])] at h3
        exact h3
theorem toN_lt {n : Nat} {es : List S70} (he : ∀ e ∈ es, 0 ≤ e.f0 ∧ e.f0 < e.f1 ∧ e.f1 < n) : ∀ x ∈ es.map toN, x.1 < n ∧ x.2 < n := by
  intro x hx
  obtain ⟨e, hm, rfl⟩ := List.mem_map.1 hx
  have := he e hm
  simp only [toN]
  omega
theorem impl_connected_ev (n : Nat) (es : List S70) (hn0 : 0 < n) (hn : n ≤ 6) (he : ∀ e ∈ es, 0 ≤ e.f0 ∧ e.f0 < e.f1 ∧ e.f1 < n) (hl : es.length < 4611686018427387904) :
    Ev (fun k => impl_connected.f k n es) (decide (iter (es.map toN) n 1 = 2 ^ n - 1)) := by
  have main : ∀ (d : Nat) (x9 M : Nat), x9 + d = n → M < 2 ^ n → Ev (fun k => impl_connected.l0 k n es (M : Int) n (x9 : Int)) (decide (iter (es.map toN) d M = 2 ^ n - 1)) := by
    intro d
    induction d with
    | zero =>
      intro x9 M hx hM
      refine ev1 fun k => ?_
      simp only [impl_connected.l0, iter]
      rw [if_neg (by omega), if_pos (by omega), shl_nat n (by omega)]
      have : wrap64 (((2 ^ n : Nat) : Int) - 1) = ((2 ^ n - 1 : Nat) : Int) := by
        have h1 : 2 ^ n ≤ 2 ^ 6 := Nat.pow_le_pow_right (by decide) hn
        have h2 : 0 < 2 ^ n := Nat.pow_pos (by decide)
        unfold wrap64
        omega
      rw [this]
      have e : ((M : Int) == ((2 ^ n - 1 : Nat) : Int)) = decide (M = 2 ^ n - 1) := by
        generalize 2 ^ n - 1 = q
        rw [Bool.eq_iff_iff, beq_iff_eq, decide_eq_true_eq]
        omega
      rw [e]
      rfl
    | succ d ih =>
      intro x9 M hx hM
      have h1 := ih (x9 + 1) (rnd (es.map toN) M) (by omega) (rnd_lt _ n M hM (toN_lt he))
      have h2 := conn_l1 n es hn he n x9 _ hl es 0 M (by omega) rfl hM (by rw [wrap_succ (by omega)]; exact h1)
      obtain ⟨K, hK⟩ := h2
      refine ⟨K + 1, fun k hk => ?_⟩
      obtain ⟨m, rfl⟩ : ∃ m, k = m + 1 := ⟨k - 1, by omega⟩
      have h3 := hK m (by omega)
      dsimp only [iter] at h3 ⊢
      simp only [impl_connected.l0]
      rw [if_pos (by omega)]
      exact h3
  exact main n 0 1 (by omega) (Nat.one_lt_two_pow (by omega))
theorem full_iff (n : Nat) (es : List S70) (hn0 : 0 < n) (he : ∀ e ∈ es, 0 ≤ e.f0 ∧ e.f0 < e.f1 ∧ e.f1 < n) : iter (es.map toN) n 1 = 2 ^ n - 1 ↔ ConnE n es := by
  rw [iter_full (es.map toN) n hn0 (toN_lt he)]
  constructor
  · intro h P h0 hP v hv0 hv
    obtain ⟨u, rfl⟩ : ∃ u : Nat, v = u := ⟨v.toNat, by omega⟩
    refine h (fun u => P u) h0 (fun x hx => ?_) u (by omega)
    obtain ⟨e, hm, rfl⟩ := List.mem_map.1 hx
    have hb := he e hm
    simp only [toN]
    rw [show ((e.f0.toNat : Nat) : Int) = e.f0 by omega, show ((e.f1.toNat : Nat) : Int) = e.f1 by omega]
    exact hP e hm
  · intro h P h0 hP v hv
    have := h (fun u => P u.toNat) h0 (fun e hm => hP (toN e) (List.mem_map.2 ⟨e, hm, rfl⟩)) v (by omega) (by omega)
    simpa using this
theorem impl_graphOk_iff (n : Int) (es : List S70) (hl : es.length < 4611686018427387904) : ∃ b : Bool, Ev (fun k => impl_GraphOk.f k n es) b ∧ (b = true ↔ GraphP n es) := by
  have h1 := impl_edgesOk_ev n es hl
  simp only [impl_GraphOk.f]
  by_cases hb : edgesB n es = true
  · obtain ⟨f1, f2, f3, f4⟩ := edgesB_facts hb
    obtain ⟨m, rfl⟩ : ∃ m : Nat, n = m := ⟨n.toNat, by omega⟩
    obtain ⟨b, h2, hs⟩ := impl_sorted_ev es hl
    rw [hb] at h1
    cases b with
    | false =>
      refine ⟨false, Ev.bind h1 ?_, ?_⟩
      · simp only [if_true]
        refine Ev.bind h2 ?_
        simp only [Bool.false_eq_true, if_false]
        exact Ev.now _
      · simp only [Bool.false_eq_true, false_iff] at hs ⊢
        exact fun h => hs h.2.1
    | true =>
      refine ⟨decide (iter (es.map toN) m 1 = 2 ^ m - 1), Ev.bind h1 ?_, ?_⟩
      · simp only [if_true]
        refine Ev.bind h2 ?_
        simp only [if_true]
        refine Ev.bind (impl_connected_ev m es (by omega) (by omega) f4 hl) ?_
        exact Ev.now _
      · rw [decide_eq_true_eq, full_iff m es (by omega) f4]
        simp only [true_iff] at hs
        exact ⟨fun h => ⟨hb, hs, h⟩, fun h => h.2.2⟩
  · refine ⟨false, Ev.bind h1 ?_, ?_⟩
    · simp only [hb]
      exact Ev.now _
    · simp only [Bool.false_eq_true, false_iff]
      exact fun h => hb h.1
end Go.Proofs.Ytnebapnfkolflaa.Pure
end
section
set_option linter.unusedVariables false
set_option linter.unusedSimpArgs false
namespace Go.Proofs.Ytnebapnfkolflaa.Pure
open Go.RowKit Go.Proofs.Ytnebapnfkolflaa.P Go.Proofs.YtnebapnfkolflaaW.PrintWords Go.Proofs.YtnebapnfkolflaaW.PrintLast Go.Proofs.YtnebapnfkolflaaW.PrintMore Go.Proofs.Ytnebapnfkolflaa.Base Go.Proofs.Ytnebapnfkolflaa.Bits Go.Proofs.Ytnebapnfkolflaa.Loops
theorem has_ev (l : List Int) (v : Int) (hl : l.length < 4611686018427387904) : Ev (fun k => spec_l02Has.f k l v) (decide (v ∈ l)) := by
  simp only [spec_l02Has.f]
  refine ev_list0 l (fun k (_ : Unit) i => spec_l02Has.l0 k v l (l.length : Int) i) (fun _ r => decide (v ∈ r)) (fun _ _ => True) (fun s _ => ev1 fun k => ?_) (fun s a rest i hlt hd _ => ?_) () trivial
  · simp only [spec_l02Has.l0]
    rw [if_neg (by omega)]; simp
  · by_cases h : a = v
    · refine Or.inl (ev1 fun k => ?_)
      simp only [spec_l02Has.l0, rd_drop hd]
      rw [if_pos (by omega), if_pos (by omega), if_pos (by omega), if_pos h]
      simp [h]
    · refine Or.inr ⟨(), trivial, ?_, 0, fun k _ => ?_⟩
      · simp [Ne.symm h]
      · simp only [spec_l02Has.l0, rd_drop hd]
        rw [if_pos (by omega), if_pos (by omega), if_pos (by omega), if_neg h, wrap_succ (by omega)]
def RInv (n : Nat) (es : List S70) (q : List Int) : Prop :=
  q.Nodup ∧ (∀ v ∈ q, 0 ≤ v ∧ v < n) ∧ (0 : Int) ∈ q ∧ ∀ P : Int → Prop, P 0 → (∀ e ∈ es, P e.f0 ↔ P e.f1) → ∀ v ∈ q, P v
theorem rinv_len {n : Nat} {es : List S70} {q : List Int} (h : RInv n es q) : q.length ≤ n := by
  have := List.Nodup.length_le_of_subset h.1 (l₂ := (List.range n).map fun i : Nat => (i : Int)) (fun v hv => by
    have hb := h.2.1 v hv
    exact List.mem_map.2 ⟨v.toNat, by simp; omega, by omega⟩)
  simpa using this
theorem rinv_add {n : Nat} {es : List S70} {q : List Int} (h : RInv n es q) {u v : Int} {e : S70} (he : e ∈ es) (hb : 0 ≤ e.f0 ∧ e.f0 < e.f1 ∧ e.f1 < n) (hu : u ∈ q) (huv : (u = e.f0 ∧ v = e.f1) ∨ (u = e.f1 ∧ v = e.f0)) (hv : v ∉ q) : RInv n es (q ++ [v]) := by
  refine ⟨?_, fun x hx => ?_, by simp [h.2.2.1], fun P h0 hP x hx => ?_⟩
  · rw [List.nodup_append]
    refine ⟨h.1, by simp, fun a ha b hb' => ?_⟩
    simp at hb'
    subst hb'
    intro e'
    subst e'
    exact hv ha
  · rcases List.mem_append.1 hx with hx | hx
    · exact h.2.1 x hx
    · simp at hx
      omega
  · rcases List.mem_append.1 hx with hx | hx
    · exact h.2.2.2 P h0 hP x hx
    · simp at hx
      subst hx
      have := h.2.2.2 P h0 hP u hu
      rcases huv with ⟨h1, h2⟩ | ⟨h1, h2⟩
      · rw [h2]; exact (hP e he).1 (h1 ▸ this)
      · rw [h2]; exact (hP e he).2 (h1 ▸ this)
theorem get_mem_append {q : List Int} {i : Nat} (h : i < q.length) (v : Int) : rd (q ++ [v]) (i : Int) = rd q (i : Int) := by
  rw [rd_nat q i h, rd_nat (q ++ [v]) i (by simp; omega), List.getElem_append_left h]
theorem reach_step (n : Nat) (es : List S70) (q : List Int) (pos i : Nat) (e : S70) (rest : List S70) (hd : es.drop i = e :: rest) (hne : e.f0 ≠ e.f1) (hpos : pos < q.length) (hq : q.length ≤ 6) (hl : es.length < 4611686018427387904) (r : List Int)
    (h : Ev (fun k => spec_l02Reach.l1 k (if e.f0 = rd q pos ∧ e.f1 ∉ q then q ++ [e.f1] else if e.f1 = rd q pos ∧ e.f0 ∉ q then q ++ [e.f0] else q) (pos : Int) es (es.length : Int) ((i + 1 : Nat) : Int) n es) r) :
    Ev (fun k => spec_l02Reach.l1 k q (pos : Int) es (es.length : Int) (i : Int) n es) r := by
  have hlt := drop_lt hd
  have b1 := has_ev q e.f1 (by omega)
  have tail : ∀ q' : List Int, pos < q'.length → q'.length ≤ 7 →
      Ev (fun k => spec_l02Reach.l1 k (if e.f1 = rd q' pos ∧ e.f0 ∉ q' then q' ++ [e.f0] else q') (pos : Int) es (es.length : Int) ((i + 1 : Nat) : Int) n es) r →
      Ev (fun k => spec_l02Reach.j3 k q' (pos : Int) es (es.length : Int) (i : Int) n es e.f0 e.f1) r := by
    intro q' hp' hq' h'
    have b2 := has_ev q' e.f0 (by omega)
    refine ev_succ ?_
    simp only [spec_l02Reach.j3, wrap_succ (show i < 4611686018427387904 by omega)]
    refine ev_ift (by omega) (ev_ift (by omega) ?_)
    by_cases c1 : e.f1 = rd q' pos
    · refine ev_ift c1 (Ev.bind b2 ?_)
      by_cases m0 : e.f0 ∈ q'
      · rw [if_neg (fun hh => hh.2 m0)] at h'
        exact ev_ift (by simp [m0]) h'
      · rw [if_pos ⟨c1, m0⟩] at h'
        exact ev_ifn (by simp [m0]) (ev_ift (by omega) h')
    · rw [if_neg (fun hh => c1 hh.1)] at h'
      exact ev_ifn c1 h'
  refine ev_succ ?_
  simp only [spec_l02Reach.l1, rd_IE hd]
  refine ev_ift (by omega) (ev_ift (by omega) (ev_ift (by omega) (ev_ift (by omega) (ev_ift (by omega) ?_))))
  by_cases c0 : e.f0 = rd q pos
  · have c1 : ¬ e.f1 = rd q pos := fun hh => hne (c0.trans hh.symm)
    refine ev_ift c0 (Ev.bind b1 (ev_succ ?_))
    simp only [spec_l02Reach.j2]
    by_cases m1 : e.f1 ∈ q
    · rw [if_neg (fun hh => hh.2 m1), if_neg (fun hh => c1 hh.1)] at h
      refine ev_ifn (by simp [m1]) (tail q hpos (by omega) ?_)
      rw [if_neg (fun hh => c1 hh.1)]
      exact h
    · rw [if_pos ⟨c0, m1⟩] at h
      refine ev_ift (by simp [m1]) (ev_ift (by omega) (tail (q ++ [e.f1]) (by simp; omega) (by simp; omega) ?_))
      rw [get_mem_append hpos, if_neg (fun hh => c1 hh.1)]
      exact h
  · refine ev_ifn c0 (ev_succ ?_)
    simp only [spec_l02Reach.j2]
    rw [if_neg (fun hh => c0 hh.1)] at h
    exact ev_ifn (by simp) (tail q hpos (by omega) h)
def Done (es : List S70) (q : List Int) (pos : Nat) : Prop := ∀ j, j < pos → ∀ e ∈ es, (e.f0 = rd q j → e.f1 ∈ q) ∧ (e.f1 = rd q j → e.f0 ∈ q)
theorem done_add {es : List S70} {q : List Int} {pos : Nat} (h : Done es q pos) (hp : pos ≤ q.length) (v : Int) : Done es (q ++ [v]) pos := by
  intro j hj e he
  rw [get_mem_append (by omega)]
  have := h j hj e he
  exact ⟨fun hh => List.mem_append_left _ (this.1 hh), fun hh => List.mem_append_left _ (this.2 hh)⟩
theorem reach_inner (n : Nat) (hn : n ≤ 6) (es : List S70) (he : ∀ e ∈ es, 0 ≤ e.f0 ∧ e.f0 < e.f1 ∧ e.f1 < n) (hl : es.length < 4611686018427387904) (pos : Nat)
    (next : ∀ q, RInv n es q → Done es q (pos + 1) → pos < q.length → ∃ r, Ev (fun k => spec_l02Reach.l0 k q ((pos + 1 : Nat) : Int) n es) r ∧ RInv n es r ∧ Done es r r.length) :
    ∀ (rest : List S70) (i : Nat) (q : List Int), i ≤ es.length → es.drop i = rest → RInv n es q → Done es q pos → pos < q.length →
      (∀ e ∈ es.take i, (e.f0 = rd q pos → e.f1 ∈ q) ∧ (e.f1 = rd q pos → e.f0 ∈ q)) →
      ∃ r, Ev (fun k => spec_l02Reach.l1 k q (pos : Int) es (es.length : Int) (i : Int) n es) r ∧ RInv n es r ∧ Done es r r.length := by
  intro rest
  induction rest with
  | nil =>
    intro i q hi hd hinv hdone hpos hpart
    have hge := drop_nil hd
    have hlen := rinv_len hinv
    rw [List.take_of_length_le hge] at hpart
    obtain ⟨r, ⟨K, hK⟩, h1, h2⟩ := next q hinv (fun j hj => by
      by_cases e : j = pos
      · subst e; exact hpart
      · exact hdone j (by omega)) hpos
    refine ⟨r, ⟨K + 1, fun k hk => ?_⟩, h1, h2⟩
    obtain ⟨m, rfl⟩ : ∃ m, k = m + 1 := ⟨k - 1, by omega⟩
    have h3 := hK m (by omega)
    dsimp only at h3 ⊢
    simp only [spec_l02Reach.l1]
    rw [if_neg (by omega), wrap_succ (by omega), h3]
  | cons e rest ih =>
    intro i q hi hd hinv hdone hpos hpart
    have hlt := drop_lt hd
    have hmem : e ∈ es := by
      have : e ∈ es.drop i := by rw [hd]; simp
      exact List.mem_of_mem_drop this
    have hb := he e hmem
    have hlen := rinv_len hinv
    have hx : rd q pos ∈ q := by rw [rd_nat q pos hpos]; exact List.getElem_mem _
    have htake : es.take (i + 1) = es.take i ++ [e] := take_drop hd
    have step := reach_step n es q pos i e rest hd (by omega) hpos (by omega) hl
    by_cases c0 : e.f0 = rd q pos ∧ e.f1 ∉ q
    · obtain ⟨r, hr, h1, h2⟩ := ih (i + 1) (q ++ [e.f1]) (by omega) (drop_next hd) (rinv_add hinv hmem hb hx (Or.inl ⟨c0.1.symm, rfl⟩) c0.2) (done_add hdone (by omega) _) (by simp; omega) (fun x hx' => by
        rw [get_mem_append hpos]
        rw [htake] at hx'
        rcases List.mem_append.1 hx' with hx' | hx'
        · have := hpart x hx'
          exact ⟨fun hh => List.mem_append_left _ (this.1 hh), fun hh => List.mem_append_left _ (this.2 hh)⟩
        · simp at hx'
          subst hx'
          exact ⟨fun _ => by simp, fun hh => absurd (c0.1.trans hh.symm) (by omega)⟩)
      refine ⟨r, step r ?_, h1, h2⟩
      simp only [if_pos c0]
      exact hr
    · by_cases c1 : e.f1 = rd q pos ∧ e.f0 ∉ q
      · obtain ⟨r, hr, h1, h2⟩ := ih (i + 1) (q ++ [e.f0]) (by omega) (drop_next hd) (rinv_add hinv hmem hb hx (Or.inr ⟨c1.1.symm, rfl⟩) c1.2) (done_add hdone (by omega) _) (by simp; omega) (fun x hx' => by
          rw [get_mem_append hpos]
          rw [htake] at hx'
          rcases List.mem_append.1 hx' with hx' | hx'
          · have := hpart x hx'
            exact ⟨fun hh => List.mem_append_left _ (this.1 hh), fun hh => List.mem_append_left _ (this.2 hh)⟩
          · simp at hx'
            subst hx'
            exact ⟨fun hh => absurd (hh.trans c1.1.symm) (by omega), fun _ => by simp⟩)
        refine ⟨r, step r ?_, h1, h2⟩
        simp only [if_neg c0, if_pos c1]
        exact hr
      · obtain ⟨r, hr, h1, h2⟩ := ih (i + 1) q (by omega) (drop_next hd) hinv hdone hpos (fun x hx' => by
          rw [htake] at hx'
          rcases List.mem_append.1 hx' with hx' | hx'
          · exact hpart x hx'
          · simp at hx'
            subst hx'
            exact ⟨fun hh => Classical.byContradiction fun hn => c0 ⟨hh, hn⟩, fun hh => Classical.byContradiction fun hn => c1 ⟨hh, hn⟩⟩)
        refine ⟨r, step r ?_, h1, h2⟩
        simp only [if_neg c0, if_neg c1]
        exact hr
theorem reach_ev (n : Nat) (hn0 : 0 < n) (hn : n ≤ 6) (es : List S70) (he : ∀ e ∈ es, 0 ≤ e.f0 ∧ e.f0 < e.f1 ∧ e.f1 < n) (hl : es.length < 4611686018427387904) :
    ∃ r, Ev (fun k => spec_l02Reach.f k n es) r ∧ RInv n es r ∧ Done es r r.length := by
  have main : ∀ (d pos : Nat) (q : List Int), RInv n es q → Done es q pos → pos ≤ q.length → n < pos + d → ∃ r, Ev (fun k => spec_l02Reach.l0 k q (pos : Int) n es) r ∧ RInv n es r ∧ Done es r r.length := by
    intro d
    induction d with
    | zero =>
      intro pos q hinv _ hp hd
      have := rinv_len hinv
      omega
    | succ d ih =>
      intro pos q hinv hdone hp hd
      by_cases hlt : pos < q.length
      · obtain ⟨r, ⟨K, hK⟩, h1, h2⟩ := reach_inner n hn es he hl pos (fun q' h1 h2 h3 => ih (pos + 1) q' h1 h2 (by omega) (by omega)) es 0 q (by omega) rfl hinv hdone hlt (fun e he' => by simp at he')
        refine ⟨r, ⟨K + 1, fun k hk => ?_⟩, h1, h2⟩
        obtain ⟨m, rfl⟩ : ∃ m, k = m + 1 := ⟨k - 1, by omega⟩
        have h3 := hK m (by omega)
        dsimp only at h3 ⊢
        simp only [spec_l02Reach.l0]
        rw [if_pos (by omega)]
        exact h3
      · refine ⟨q, ev1 fun k => ?_, hinv, ?_⟩
        · simp only [spec_l02Reach.l0]
          rw [if_neg (by omega)]
        · have : pos = q.length := by omega
          rw [this] at hdone
          exact hdone
  refine main (n + 1) 0 [0] ⟨by simp, fun v hv => by simp at hv; omega, by simp, fun P h0 _ v hv => by simp at hv; rw [hv]; exact h0⟩ (fun j hj => by omega) (by simp) (by omega)
theorem reach_all (n : Nat) (es : List S70) (r : List Int) (h1 : RInv n es r) (h2 : Done es r r.length) : ((r.length : Int) == n) = true ↔ ConnE n es := by
  have hlen := rinv_len h1
  constructor
  · intro h P h0 hP v hv0 hv
    simp at h
    refine h1.2.2.2 P h0 hP v (Classical.byContradiction fun hno => ?_)
    have := List.Nodup.length_le_of_subset (l₁ := v :: r) (by rw [List.nodup_cons]; exact ⟨hno, h1.1⟩) (l₂ := (List.range n).map fun i : Nat => (i : Int)) (fun u hu => by
      have hb : 0 ≤ u ∧ u < n := by
        rcases List.mem_cons.1 hu with rfl | hu
        · omega
        · exact h1.2.1 u hu
      exact List.mem_map.2 ⟨u.toNat, by simp; omega, by omega⟩)
    simp at this
    omega
  · intro h
    have hall := h (fun v => v ∈ r) h1.2.2.1 (fun e he => by
      constructor
      · intro hm
        obtain ⟨j, hj, hjv⟩ := List.mem_iff_getElem.1 hm
        exact (h2 j hj e he).1 (by rw [rd_nat r j hj]; exact hjv.symm)
      · intro hm
        obtain ⟨j, hj, hjv⟩ := List.mem_iff_getElem.1 hm
        exact (h2 j hj e he).2 (by rw [rd_nat r j hj]; exact hjv.symm))
    have := List.Nodup.length_le_of_subset (l₁ := (List.range n).map fun i : Nat => (i : Int)) (l₂ := r) (by
      refine List.Pairwise.map _ (fun a b hab => ?_) List.nodup_range
      show (a : Int) ≠ b
      omega) (fun v hv => by
      obtain ⟨i, hi, rfl⟩ := List.mem_map.1 hv
      simp at hi
      exact hall _ (by omega) (by omega))
    simp at this ⊢
    omega
theorem spec_graphOk_iff (n : Int) (es : List S70) (hl : es.length < 4611686018427387904) : ∃ b : Bool, Ev (fun k => spec_GraphOk.f k n es) b ∧ (b = true ↔ GraphP n es) := by
  have h1 := spec_edgesOk_ev n es hl
  simp only [spec_GraphOk.f]
  by_cases hb : edgesB n es = true
  · obtain ⟨f1, f2, f3, f4⟩ := edgesB_facts hb
    obtain ⟨m, rfl⟩ : ∃ m : Nat, n = m := ⟨n.toNat, by omega⟩
    obtain ⟨r, hr, r1, r2⟩ := reach_ev m (by omega) (by omega) es f4 hl
    rw [hb] at h1
    have main : ∀ (d i : Nat), i + d = es.length → ∃ b : Bool, Ev (fun k => spec_GraphOk.l0 k es (es.length : Int) (i : Int) m es) b ∧
        (b = true ↔ (∀ j, i ≤ j + 1 → j + 1 < es.length → ¬ ((es.getD (j + 1) z70).f0 < (es.getD j z70).f0 ∨ ((es.getD (j + 1) z70).f0 = (es.getD j z70).f0 ∧ (es.getD (j + 1) z70).f1 < (es.getD j z70).f1))) ∧ ConnE m es) := by
      intro d
      induction d with
      | zero =>
        intro i hi
        obtain ⟨K, hK⟩ := hr
        refine ⟨((r.length : Int) == m), ⟨K + 1, fun k hk => ?_⟩, ?_⟩
        · obtain ⟨p, rfl⟩ : ∃ p, k = p + 1 := ⟨k - 1, by omega⟩
          have h3 := hK p (by omega)
          dsimp only at h3 ⊢
          simp only [spec_GraphOk.l0]
          rw [if_neg (by omega), h3]
          rfl
        · rw [reach_all m es r r1 r2]
          exact ⟨fun h => ⟨fun j h1 h2 => by omega, h⟩, fun h => h.2⟩
      | succ d ih =>
        intro i hi
        obtain ⟨b, hK, hiff⟩ := ih (i + 1) (by omega)
        have stop : Ev (fun k => spec_GraphOk.j1 k es (es.length : Int) (i : Int) true m es) false := ev1 fun k => by simp only [spec_GraphOk.j1, if_true]
        have go : Ev (fun k => spec_GraphOk.j1 k es (es.length : Int) (i : Int) false m es) b := by
          refine ev_succ ?_
          simp only [spec_GraphOk.j1, Bool.false_eq_true, if_false, wrap_succ (show i < 4611686018427387904 by omega)]
          exact hK
        by_cases i0 : i = 0
        · subst i0
          refine ⟨b, ev_succ ?_, ?_⟩
          · simp only [spec_GraphOk.l0]
            exact ev_ift (by omega) (ev_ift (by omega) (ev_ift (by omega) (ev_ifn (by omega) go)))
          · rw [hiff]
            exact ⟨fun h => ⟨fun j _ h2 => h.1 j (by omega) h2, h.2⟩, fun h => ⟨fun j _ h2 => h.1 j (by omega) h2, h.2⟩⟩
        · obtain ⟨p, rfl⟩ : ∃ p, i = p + 1 := ⟨i - 1, by omega⟩
          have ew : wrap64 (((p + 1 : Nat) : Int) - 1) = (p : Int) := by unfold wrap64; omega
          by_cases hc : (es.getD (p + 1) z70).f0 < (es.getD p z70).f0 ∨ ((es.getD (p + 1) z70).f0 = (es.getD p z70).f0 ∧ (es.getD (p + 1) z70).f1 < (es.getD p z70).f1)
          · refine ⟨false, ev_succ ?_, ?_⟩
            · simp only [spec_GraphOk.l0, ew, rdE_nat]
              refine ev_ift (by omega) (ev_ift (by omega) (ev_ift (by omega) (ev_ift (by omega) (ev_ift (by omega) (ev_ift (by omega) ?_)))))
              by_cases c0 : (es.getD (p + 1) z70).f0 < (es.getD p z70).f0
              · exact ev_ift c0 stop
              · have c1 : (es.getD (p + 1) z70).f1 < (es.getD p z70).f1 := by omega
                simp only [decide_eq_true c1]
                exact ev_ifn c0 (ev_ift (by omega) stop)
            · simp only [Bool.false_eq_true, false_iff]
              exact fun h => h.1 p (by omega) (by omega) hc
          · refine ⟨b, ev_succ ?_, ?_⟩
            · simp only [spec_GraphOk.l0, ew, rdE_nat]
              refine ev_ift (by omega) (ev_ift (by omega) (ev_ift (by omega) (ev_ift (by omega) (ev_ift (by omega) (ev_ift (by omega) (ev_ifn (by omega) ?_))))))
              by_cases c0 : (es.getD (p + 1) z70).f0 = (es.getD p z70).f0
              · have c1 : ¬ (es.getD (p + 1) z70).f1 < (es.getD p z70).f1 := by omega
                simp only [decide_eq_false c1]
                exact ev_ift c0 go
              · exact ev_ifn c0 go
            · rw [hiff]
              refine ⟨fun h => ⟨fun j h1 h2 => ?_, h.2⟩, fun h => ⟨fun j _ h2 => h.1 j (by omega) h2, h.2⟩⟩
              by_cases e : j = p
              · subst e; exact hc
              · exact h.1 j (by omega) h2
    obtain ⟨b, hb2, hiff⟩ := main es.length 0 (by omega)
    refine ⟨b, Ev.bind h1 ?_, ?_⟩
    · simp only [if_true]
      exact hb2
    · rw [hiff]
      exact ⟨fun h => ⟨hb, fun i hi => h.1 i (by omega) hi, h.2⟩, fun h => ⟨fun j _ h2 => h.2.1 j h2, h.2.2⟩⟩
  · refine ⟨false, Ev.bind h1 ?_, ?_⟩
    · simp only [hb]
      exact Ev.now _
    · simp only [Bool.false_eq_true, false_iff]
      exact fun h => hb h.1
theorem graphOk_both (n : Int) (es : List S70) (hl : es.length < 4611686018427387904) : ∃ b : Bool, Ev (fun k => impl_GraphOk.f k n es) b ∧ Ev (fun k => spec_GraphOk.f k n es) b ∧ (b = true ↔ GraphP n es) := by
  obtain ⟨b, h1, i1⟩ := impl_graphOk_iff n es hl
  obtain ⟨b', h2, i2⟩ := spec_graphOk_iff n es hl
  have : b' = b := by rw [Bool.eq_iff_iff, i1, i2]
  subst this
  exact ⟨b', h1, h2, i1⟩
end Go.Proofs.Ytnebapnfkolflaa.Pure
end
section
set_option linter.unusedVariables false
set_option linter.unusedSimpArgs false
namespace Go.Proofs.Ytnebapnfkolflaa.Pure
open Go.RowKit Go.Proofs.Ytnebapnfkolflaa.P Go.Proofs.YtnebapnfkolflaaW.PrintWords Go.Proofs.YtnebapnfkolflaaW.PrintLast Go.Proofs.YtnebapnfkolflaaW.PrintMore Go.Proofs.Ytnebapnfkolflaa.Base Go.Proofs.Ytnebapnfkolflaa.Loops
theorem toIntS_l0 (l : List Int) (hl : l.length < 4611686018427387904) : ∀ (d k i : Nat) (x : List Int), i + d = l.length → x.length = l.length → x.take i = l.take i → d < k → laws_toIntS.l0 k l x (i : Int) = some l := by
  intro d
  induction d with
  | zero =>
    intro k i x hi hx ht hk
    obtain ⟨k, rfl⟩ := succ_of_lt hk
    simp only [laws_toIntS.l0]
    rw [if_neg (by omega)]
    rw [List.take_of_length_le (by omega), List.take_of_length_le (by omega)] at ht
    rw [ht]
  | succ d ih =>
    intro k i x hi hx ht hk
    obtain ⟨k, rfl⟩ := succ_of_lt hk
    simp only [laws_toIntS.l0]
    rw [if_pos (by omega), if_pos (by omega), if_pos (by omega), wrap_succ (by omega), rd_nat l i (by omega), Int.toNat_natCast]
    refine ih k (i + 1) _ (by omega) (by simpa using hx) ?_ (by omega)
    rw [List.take_succ_eq_append_getElem (by simp; omega), List.take_succ_eq_append_getElem (by omega), List.take_set_of_le (Nat.le_refl _), ht]
    simp
theorem toIntS_ev (l : List Int) (hl : l.length ≤ 1048576) : Ev (fun k => laws_toIntS.f k l) l := by
  refine ev_k l.length fun k hk => ?_
  unfold laws_toIntS.f
  rw [if_pos (by omega), if_pos (by omega)]
  exact toIntS_l0 l (by omega) l.length k 0 _ (by omega) (by simp) (by simp) hk
end Go.Proofs.Ytnebapnfkolflaa.Pure
end
section
set_option linter.unusedVariables false
set_option linter.unusedSimpArgs false
namespace Go.Proofs.Ytnebapnfkolflaa.Pure
open Go.RowKit Go.Proofs.Ytnebapnfkolflaa.P Go.Proofs.YtnebapnfkolflaaW.PrintWords Go.Proofs.YtnebapnfkolflaaW.PrintLast Go.Proofs.YtnebapnfkolflaaW.PrintMore Go.Proofs.Ytnebapnfkolflaa.Base Go.Proofs.Ytnebapnfkolflaa.Loops
theorem eqIntS_l0 (l : List Int) (hl : l.length < 4611686018427387904) : ∀ (d k i : Nat), i + d = l.length → d < k → laws_eqIntS.l0 k l l (i : Int) = some true := by
  intro d
  induction d with
  | zero =>
    intro k i hi hk
    obtain ⟨k, rfl⟩ := succ_of_lt hk
    simp only [laws_eqIntS.l0]
    rw [if_neg (by omega)]
  | succ d ih =>
    intro k i hi hk
    obtain ⟨k, rfl⟩ := succ_of_lt hk
    simp only [laws_eqIntS.l0]
    rw [if_pos (by omega), if_pos (by omega), if_pos (by omega), wrap_succ (by omega)]
    exact ih k (i + 1) (by omega) (by omega)
theorem eqIntS_ev (l : List Int) (hl : l.length < 4611686018427387904) : Ev (fun k => laws_eqIntS.f k l l) true := by
  refine ev_k l.length fun k hk => ?_
  unfold laws_eqIntS.f
  simp only [if_true]
  exact eqIntS_l0 l hl l.length k 0 (by omega) hk
end Go.Proofs.Ytnebapnfkolflaa.Pure
end
section
set_option linter.unusedVariables false
set_option linter.unusedSimpArgs false
namespace Go.Proofs.Ytnebapnfkolflaa.Pure
open Go.RowKit Go.Proofs.Ytnebapnfkolflaa.P Go.Proofs.YtnebapnfkolflaaW.PrintWords Go.Proofs.YtnebapnfkolflaaW.PrintLast Go.Proofs.YtnebapnfkolflaaW.PrintMore Go.Proofs.Ytnebapnfkolflaa.Base Go.Proofs.Ytnebapnfkolflaa.Bits Go.Proofs.Ytnebapnfkolflaa.Loops
theorem within_eq (a b c : Int) : impl_within.f a b c = some (decide (b ≤ a ∧ a ≤ c)) := by
  unfold impl_within.f
  by_cases h : a ≥ b
  · rw [if_pos h]; simp; omega
  · rw [if_neg h]; simp; omega
theorem in_eq (a b c : Int) : spec_l01In.f a b c = some (decide (b ≤ a ∧ a ≤ c)) := by
  unfold spec_l01In.f
  by_cases h : a ≥ b
  · rw [if_pos h]; simp; omega
  · rw [if_neg h]; simp; omega
def allB (l : List Int) (lo hi : Int) : Bool := l.all fun x => decide (lo ≤ x ∧ x ≤ hi)
theorem allWithin_ev (l : List Int) (lo hi : Int) (hl : l.length < 4611686018427387904) : Ev (fun k => impl_allWithin.f k l lo hi) (allB l lo hi) := by
  simp only [impl_allWithin.f]
  refine ev_list0 l (fun k (_ : Unit) i => impl_allWithin.l0 k lo hi l (l.length : Int) i) (fun _ r => allB r lo hi) (fun _ _ => True) (fun s _ => ev1 fun k => ?_) (fun s a rest i hlt hd _ => ?_) () trivial
  · simp only [impl_allWithin.l0]
    rw [if_neg (by omega)]; rfl
  · by_cases h : lo ≤ a ∧ a ≤ hi
    · refine Or.inr ⟨(), trivial, by simp [allB, h], 0, fun k _ => ?_⟩
      simp only [impl_allWithin.l0, rd_drop hd, within_eq, Option.bind_some]
      rw [if_pos (by omega), if_pos (by omega), if_pos (by omega), if_pos (by simp [h]), wrap_succ (by omega)]
    · refine Or.inl (ev1 fun k => ?_)
      simp only [impl_allWithin.l0, rd_drop hd, within_eq, Option.bind_some]
      rw [if_pos (by omega), if_pos (by omega), if_pos (by omega), if_neg (by simpa using h)]
      simp [allB, h]
theorem all_loop (l : List Int) (lo hi : Int) (hl : l.length < 4611686018427387904) (g : Nat → Int → Option Bool)
    (hg : ∀ k i, g (k + 1) i = if i < (l.length : Int) then (if 0 ≤ i then (if i < (l.length : Int) then ((spec_l01In.f (rd l i) lo hi).bind fun t => (if t = true then (g k (wrap64 (i + 1))) else (some false))) else (none)) else (none)) else (some true)) :
    Ev (fun k => g k 0) (allB l lo hi) := by
  refine ev_list0 l (fun k (_ : Unit) i => g k i) (fun _ r => allB r lo hi) (fun _ _ => True) (fun s _ => ev1 fun k => ?_) (fun s a rest i hlt hd _ => ?_) () trivial
  · rw [hg, if_neg (by omega)]; rfl
  · by_cases h : lo ≤ a ∧ a ≤ hi
    · refine Or.inr ⟨(), trivial, by simp [allB, h], 0, fun k _ => ?_⟩
      rw [hg, if_pos (by omega), if_pos (by omega), if_pos (by omega), rd_drop hd, in_eq, Option.bind_some, if_pos (by simp [h]), wrap_succ (by omega)]
    · refine Or.inl (ev1 fun k => ?_)
      rw [hg, if_pos (by omega), if_pos (by omega), if_pos (by omega), rd_drop hd, in_eq, Option.bind_some, if_neg (by simpa using h)]
      simp [allB, h]
end Go.Proofs.Ytnebapnfkolflaa.Pure
end
section
set_option linter.unusedVariables false
set_option linter.unusedSimpArgs false
namespace Go.Proofs.Ytnebapnfkolflaa.Pure
open Go.RowKit Go.Proofs.Ytnebapnfkolflaa.P Go.Proofs.YtnebapnfkolflaaW.PrintWords Go.Proofs.YtnebapnfkolflaaW.PrintLast Go.Proofs.YtnebapnfkolflaaW.PrintMore Go.Proofs.Ytnebapnfkolflaa.Base Go.Proofs.Ytnebapnfkolflaa.Bits Go.Proofs.Ytnebapnfkolflaa.Loops
def DivP (n : Int) (es : List S70) (d : List Int) : Prop := GraphP n es ∧ (d.length : Int) = n ∧ allB d (-60) 60 = true
theorem divOk_both (n : Int) (es : List S70) (d : List Int) (hl : es.length < 4611686018427387904) (hd : d.length < 4611686018427387904) : ∃ b : Bool, Ev (fun k => impl_DivisorOk.f k n es d) b ∧ Ev (fun k => spec_DivisorOk.f k n es d) b ∧ (b = true ↔ DivP n es d) := by
  obtain ⟨b, h1, h2, hb⟩ := graphOk_both n es hl
  simp only [impl_DivisorOk.f, spec_DivisorOk.f]
  have off : ∀ q : Bool, q = true → Ev (fun k => spec_DivisorOk.j0 k d q) false := fun q hq => ev1 fun k => by
    simp only [spec_DivisorOk.j0, hq, if_true]
  cases b with
  | false =>
    refine ⟨false, Ev.bind h1 ?_, Ev.bind h2 ?_, ?_⟩
    · simp only [Bool.false_eq_true, if_false]; exact Ev.now _
    · simp only [Bool.false_eq_true, if_false]; exact off _ rfl
    · simp only [Bool.false_eq_true, false_iff] at hb ⊢
      exact fun h => hb h.1
  | true =>
    simp only [true_iff] at hb
    by_cases hn : (d.length : Int) = n
    · refine ⟨allB d (-60) 60, Ev.bind h1 ?_, Ev.bind h2 ?_, ?_⟩
      · simp only [if_true, if_pos hn]
        exact Ev.bind (allWithin_ev d (-60) 60 hd) (Ev.now _)
      · simp only [if_true]
        refine ev_succ ?_
        simp only [spec_DivisorOk.j0]
        simp only [if_neg (show ¬ ((d.length : Int) != n) = true by simp [hn])]
        exact all_loop d (-60) 60 hd (fun k i => spec_DivisorOk.l0 k d (d.length : Int) i) (fun k i => by simp only [spec_DivisorOk.l0])
      · exact ⟨fun h => ⟨hb, hn, h⟩, fun h => h.2.2⟩
    · refine ⟨false, Ev.bind h1 ?_, Ev.bind h2 ?_, ?_⟩
      · simp only [if_true, if_neg hn]; exact Ev.now _
      · simp only [if_true]; exact off _ (by simp [hn])
      · simp only [Bool.false_eq_true, false_iff]
        exact fun h => hn h.2.1
end Go.Proofs.Ytnebapnfkolflaa.Pure
end
section
set_option linter.unusedVariables false
set_option linter.unusedSimpArgs false
namespace Go.Proofs.Ytnebapnfkolflaa.Pure
open Go.RowKit Go.Proofs.Ytnebapnfkolflaa.P Go.Proofs.YtnebapnfkolflaaW.PrintWords Go.Proofs.YtnebapnfkolflaaW.PrintLast Go.Proofs.YtnebapnfkolflaaW.PrintMore Go.Proofs.Ytnebapnfkolflaa.Base Go.Proofs.Ytnebapnfkolflaa.Bits Go.Proofs.Ytnebapnfkolflaa.Loops
theorem getD_set (x : List Int) (i j : Nat) (c : Int) (hi : i < x.length) : (x.set i c).getD j 0 = if i = j then c else x.getD j 0 := by
  simp only [List.getD_eq_getElem?_getD, List.getElem?_set]
  by_cases e : i = j
  · subst e; simp [hi]
  · simp [e]
def cE (s : List Int) (u : Nat) (e : S70) : Int :=
  (if e.f0.toNat = u then s.getD e.f1.toNat 0 - s.getD e.f0.toNat 0 else 0) + (if e.f1.toNat = u then s.getD e.f0.toNat 0 - s.getD e.f1.toNat 0 else 0)
def net (s : List Int) (u : Nat) : List S70 → Int
  | [] => 0
  | e :: es => cE s u e + net s u es
def okE (n : Nat) (e : S70) : Prop := 0 ≤ e.f0 ∧ e.f0 < e.f1 ∧ e.f1 < n
def stepS (s : List Int) (x : List Int) (e : S70) : List Int :=
  let y := x.set e.f0.toNat (wrap64 (wrap64 (x.getD e.f0.toNat 0 - s.getD e.f0.toNat 0) + s.getD e.f1.toNat 0))
  y.set e.f1.toNat (wrap64 (wrap64 (y.getD e.f1.toNat 0 - s.getD e.f1.toNat 0) + s.getD e.f0.toNat 0))
def In64 (x : List Int) : Prop := ∀ u, wrap64 (x.getD u 0) = x.getD u 0
theorem in64_wrap {x : List Int} (h : In64 x) (u : Nat) (c : Int) : wrap64 (x.getD u 0 + 0) = x.getD u 0 := by rw [Int.add_zero]; exact h u
theorem stepS_get (n : Nat) (s x : List Int) (e : S70) (he : okE n e) (hx : x.length = n) (h : In64 x) (u : Nat) : (stepS s x e).getD u 0 = wrap64 (x.getD u 0 + cE s u e) := by
  obtain ⟨h0, h1, h2⟩ := he
  have hne : ¬ e.f0.toNat = e.f1.toNat := by omega
  simp only [stepS, cE]
  rw [getD_set _ e.f1.toNat u _ (by simp; omega), getD_set x e.f0.toNat e.f1.toNat _ (by omega), if_neg hne, getD_set x e.f0.toNat u _ (by omega)]
  by_cases e1 : e.f1.toNat = u
  · have e0 : ¬ e.f0.toNat = u := by omega
    rw [if_pos e1, if_neg e0, if_pos e1, e1]
    unfold wrap64; omega
  · rw [if_neg e1, if_neg e1]
    by_cases e0 : e.f0.toNat = u
    · rw [if_pos e0, if_pos e0, e0]
      unfold wrap64; omega
    · rw [if_neg e0, if_neg e0]
      exact (in64_wrap h u 0).symm
theorem stepS_len (s x : List Int) (e : S70) : (stepS s x e).length = x.length := by simp [stepS]
theorem foldS_get (n : Nat) (s : List Int) : ∀ (es : List S70) (x : List Int), (∀ e ∈ es, okE n e) → x.length = n → In64 x →
    (es.foldl (stepS s) x).length = n ∧ ∀ u, (es.foldl (stepS s) x).getD u 0 = wrap64 (x.getD u 0 + net s u es) := by
  intro es
  induction es with
  | nil => intro x _ hx h; exact ⟨hx, fun u => by simp only [List.foldl_nil, net]; exact (in64_wrap h u 0).symm⟩
  | cons e es ih =>
    intro x he hx h
    have hs := stepS_get n s x e (he e (by simp)) hx h
    have hi : In64 (stepS s x e) := fun u => by rw [hs u]; exact wrap_wrap _
    obtain ⟨h1, h2⟩ := ih (stepS s x e) (fun y hy => he y (by simp [hy])) (by rw [stepS_len]; exact hx) hi
    refine ⟨h1, fun u => ?_⟩
    simp only [List.foldl_cons, net]
    rw [h2 u, hs u, wrap_wrap_add]
    congr 1; omega
theorem spec_fire_ev (n : Nat) (es : List S70) (d s : List Int) (he : ∀ e ∈ es, okE n e) (hd : d.length = n) (hs : s.length = n) (hn : n ≤ 6) (hl : es.length < 4611686018427387904) (nn : Int) :
    Ev (fun k => spec_l04Fire.f k nn es d s) (es.foldl (stepS s) d) := by
  simp only [spec_l04Fire.f, Option.bind_some, List.nil_append, List.length_nil]
  simp only [if_pos (show 0 + d.length < 17592186044416 by omega)]
  refine ev_list0 es (fun k (x : List Int) i => spec_l04Fire.l0 k s x es (es.length : Int) i) (fun x r => r.foldl (stepS s) x) (fun x r => x.length = n) (fun x hx => ev1 fun k => ?_) (fun x e rest i hlt hdr hx => Or.inr ⟨stepS s x e, by rw [stepS_len]; exact hx, rfl, 0, fun k _ => ?_⟩) d hd
  · simp only [spec_l04Fire.l0]
    rw [if_neg (by omega)]; rfl
  · have hmem : e ∈ es := by
      have : e ∈ es.drop i := by rw [hdr]; simp
      exact List.mem_of_mem_drop this
    obtain ⟨h0, h1, h2⟩ := he e hmem
    simp only [spec_l04Fire.l0, rd_IE hdr, Option.bind_some]
    rw [if_pos (by omega), if_pos (by omega), if_pos (by omega), if_pos (by omega), if_pos (by omega), if_pos (by omega), if_pos (by omega), if_pos (by omega), if_pos (by omega), wrap_succ (by omega)]
    rfl
def stepF (v : Nat) (t : Int) (x : List Int) (e : S70) : List Int :=
  if e.f0.toNat = v then
    let y := x.set v (wrap64 (x.getD v 0 - t))
    y.set e.f1.toNat (wrap64 (y.getD e.f1.toNat 0 + t))
  else if e.f1.toNat = v then
    let y := x.set v (wrap64 (x.getD v 0 - t))
    y.set e.f0.toNat (wrap64 (y.getD e.f0.toNat 0 + t))
  else x
def fE (v : Nat) (t : Int) (u : Nat) (e : S70) : Int :=
  if e.f0.toNat = v then (if v = u then -t else 0) + (if e.f1.toNat = u then t else 0)
  else if e.f1.toNat = v then (if v = u then -t else 0) + (if e.f0.toNat = u then t else 0)
  else 0
def netF (v : Nat) (t : Int) (u : Nat) : List S70 → Int
  | [] => 0
  | e :: es => fE v t u e + netF v t u es
theorem stepF_len (v : Nat) (t : Int) (x : List Int) (e : S70) : (stepF v t x e).length = x.length := by
  simp only [stepF]
  split
  · simp
  · split <;> simp
theorem stepF_get (n v : Nat) (t : Int) (x : List Int) (e : S70) (he : okE n e) (hx : x.length = n) (h : In64 x) (u : Nat) : (stepF v t x e).getD u 0 = wrap64 (x.getD u 0 + fE v t u e) := by
  obtain ⟨h0, h1, h2⟩ := he
  have key : ∀ (p q : Nat), p < n → q < n → p ≠ q → ((x.set p (wrap64 (x.getD p 0 - t))).set q (wrap64 ((x.set p (wrap64 (x.getD p 0 - t))).getD q 0 + t))).getD u 0 = wrap64 (x.getD u 0 + ((if p = u then -t else 0) + (if q = u then t else 0))) := by
    intro p q hp hq hpq
    rw [getD_set _ q u _ (by simp; omega), getD_set x p q _ (by omega), if_neg hpq, getD_set x p u _ (by omega)]
    by_cases e1 : q = u
    · rw [if_pos e1, if_pos e1, if_neg (by omega), e1]
      congr 1; omega
    · rw [if_neg e1, if_neg e1]
      by_cases e0 : p = u
      · rw [if_pos e0, if_pos e0, e0]
        congr 1; omega
      · rw [if_neg e0, if_neg e0]
        exact (in64_wrap h u 0).symm
  simp only [stepF, fE]
  by_cases a : e.f0.toNat = v
  · rw [if_pos a, if_pos a]
    exact key v e.f1.toNat (by omega) (by omega) (by omega)
  · rw [if_neg a, if_neg a]
    by_cases b : e.f1.toNat = v
    · rw [if_pos b, if_pos b]
      exact key v e.f0.toNat (by omega) (by omega) (by omega)
    · rw [if_neg b, if_neg b]
      exact (in64_wrap h u 0).symm
theorem foldF_get (n v : Nat) (t : Int) : ∀ (es : List S70) (x : List Int), (∀ e ∈ es, okE n e) → x.length = n → In64 x →
    (es.foldl (stepF v t) x).length = n ∧ ∀ u, (es.foldl (stepF v t) x).getD u 0 = wrap64 (x.getD u 0 + netF v t u es) := by
  intro es
  induction es with
  | nil => intro x _ hx h; exact ⟨hx, fun u => by simp only [List.foldl_nil, netF]; exact (in64_wrap h u 0).symm⟩
  | cons e es ih =>
    intro x he hx h
    have hs := stepF_get n v t x e (he e (by simp)) hx h
    have hi : In64 (stepF v t x e) := fun u => by rw [hs u]; exact wrap_wrap _
    obtain ⟨h1, h2⟩ := ih (stepF v t x e) (fun y hy => he y (by simp [hy])) (by rw [stepF_len]; exact hx) hi
    refine ⟨h1, fun u => ?_⟩
    simp only [List.foldl_cons, netF]
    rw [h2 u, hs u, wrap_wrap_add]
    congr 1; omega
theorem impl_fire_ev (n : Nat) (es : List S70) (x : List Int) (v : Nat) (t : Int) (he : ∀ e ∈ es, okE n e) (hx : x.length = n) (hn : n ≤ 6) (hl : es.length < 4611686018427387904) (nn : Int) :
    Ev (fun k => impl_fire.f k nn es x (v : Int) t) (es.foldl (stepF v t) x) := by
  simp only [impl_fire.f]
  refine ev_list0 es (fun k (x : List Int) i => impl_fire.l0 k x (v : Int) t es (es.length : Int) i) (fun x r => r.foldl (stepF v t) x) (fun x r => x.length = n) (fun x hx => ev1 fun k => ?_) (fun x e rest i hlt hdr hx => Or.inr ⟨stepF v t x e, by rw [stepF_len]; exact hx, rfl, 0, fun k _ => ?_⟩) x hx
  · simp only [impl_fire.l0]
    rw [if_neg (by omega)]; rfl
  · have hmem : e ∈ es := by
      have : e ∈ es.drop i := by rw [hdr]; simp
      exact List.mem_of_mem_drop this
    obtain ⟨h0, h1, h2⟩ := he e hmem
    simp only [impl_fire.l0, rd_IE hdr, Option.bind_some]
    rw [if_pos (by omega), if_pos (by omega), if_pos (by omega), wrap_succ (by omega)]
    simp only [stepF]
    by_cases a : e.f0.toNat = v
    · rw [if_pos (by omega), if_pos (by omega), if_pos (by omega), if_pos (by omega), if_pos (by omega), if_pos a]
      rfl
    · rw [if_neg (by omega), if_neg a]
      by_cases b : e.f1.toNat = v
      · rw [if_pos (by omega), if_pos (by omega), if_pos (by omega), if_pos (by omega), if_pos (by omega), if_pos b]
        rfl
      · rw [if_neg (by omega), if_neg b]
theorem list_eq {x y : List Int} (h : x.length = y.length) (hu : ∀ u, x.getD u 0 = y.getD u 0) : x = y := by
  refine List.ext_getElem h fun i h1 h2 => ?_
  have := hu i
  simp only [List.getD_eq_getElem?_getD, List.getElem?_eq_getElem h1, List.getElem?_eq_getElem h2, Option.getD_some] at this
  exact this
theorem allB_get {l : List Int} {lo hi : Int} (h : allB l lo hi = true) (hlo : lo ≤ 0) (hhi : 0 ≤ hi) (u : Nat) : lo ≤ l.getD u 0 ∧ l.getD u 0 ≤ hi := by
  simp only [allB, List.all_eq_true, decide_eq_true_eq] at h
  rw [List.getD_eq_getElem?_getD]
  rcases Nat.lt_or_ge u l.length with hu | hu
  · rw [List.getElem?_eq_getElem hu]
    exact h _ (List.getElem_mem hu)
  · rw [List.getElem?_eq_none hu]
    exact ⟨hlo, hhi⟩
end Go.Proofs.Ytnebapnfkolflaa.Pure
end
section
set_option linter.unusedVariables false
set_option linter.unusedSimpArgs false
namespace Go.Proofs.Ytnebapnfkolflaa.Pure
open Go.RowKit Go.Proofs.Ytnebapnfkolflaa.P Go.Proofs.YtnebapnfkolflaaW.PrintWords Go.Proofs.YtnebapnfkolflaaW.PrintLast Go.Proofs.YtnebapnfkolflaaW.PrintMore Go.Proofs.Ytnebapnfkolflaa.Base Go.Proofs.Ytnebapnfkolflaa.Reduce Go.Proofs.Ytnebapnfkolflaa.Loops Go.Proofs.Ytnebapnfkolflaa.Bits
def mE (n : Nat) (es : List S70) : Nat → Nat → Int := fun v w => multI n es v w
theorem multI_nonneg (n : Int) (es : List S70) (v w : Int) : 0 ≤ multI n es v w := by
  unfold multI
  split
  · exact Int.natCast_nonneg _
  · exact Int.le_refl _
theorem multI_symm (n : Int) (es : List S70) (v w : Int) : multI n es v w = multI n es w v := by
  have e1 : mn v w = mn w v := by unfold mn; split <;> split <;> omega
  have e2 : mx v w = mx w v := by unfold mx; split <;> split <;> omega
  unfold multI multN
  rw [e1, e2]
  by_cases h : 0 ≤ v ∧ v < n ∧ 0 ≤ w ∧ w < n ∧ v ≠ w
  · rw [if_pos h, if_pos (by omega)]
  · rw [if_neg h, if_neg (by omega)]
theorem multI_self (n : Int) (es : List S70) (v : Int) : multI n es v v = 0 := by
  unfold multI
  rw [if_neg (by omega)]
theorem multI_cons (n : Nat) (es : List S70) (e : S70) (he : okE n e) (v w : Nat) (hv : v < n) (hw : w < n) :
    multI n (e :: es) v w = multI n es v w + (if (e.f0.toNat = v ∧ e.f1.toNat = w) ∨ (e.f1.toNat = v ∧ e.f0.toNat = w) then 1 else 0) := by
  obtain ⟨h0, h1, h2⟩ := he
  by_cases hvw : v = w
  · subst hvw
    rw [multI_self, multI_self, if_neg (by omega)]; rfl
  · have hr : 0 ≤ (v : Int) ∧ (v : Int) < n ∧ 0 ≤ (w : Int) ∧ (w : Int) < n ∧ (v : Int) ≠ w := by omega
    unfold multI multN
    rw [if_pos hr, if_pos hr, List.countP_cons]
    have hiff : (decide (e.f0 = mn v w) && decide (e.f1 = mx v w)) = true ↔ ((e.f0.toNat = v ∧ e.f1.toNat = w) ∨ (e.f1.toNat = v ∧ e.f0.toNat = w)) := by
      rw [Bool.and_eq_true, decide_eq_true_eq, decide_eq_true_eq]
      unfold mn mx
      split <;> split <;> omega
    by_cases c : (e.f0.toNat = v ∧ e.f1.toNat = w) ∨ (e.f1.toNat = v ∧ e.f0.toNat = w)
    · rw [if_pos c, if_pos (hiff.2 c)]; omega
    · rw [if_neg c, if_neg (fun h => c (hiff.1 h))]; omega
theorem sum_ind (n j : Nat) (F : Nat → Int) (hj : j < n) : sumN (fun w => (if w = j then 1 else 0) * F w) n = F j := by
  have h := sumN_upd (fun _ => (0 : Int)) n j (F j) hj
  rw [sumN_zero] at h
  rw [← sumN_congr (f := fun i => if i = j then F j else 0) (fun i _ => ?_), h]
  · omega
  · by_cases e : i = j
    · subst e; simp
    · simp [e]
theorem lap_cons (n : Nat) (es : List S70) (e : S70) (he : okE n e) (v : Nat) (hv : v < n) (F : Nat → Int) :
    sumN (fun w => mE n (e :: es) v w * F w) n = sumN (fun w => mE n es v w * F w) n + (if e.f0.toNat = v then F e.f1.toNat else 0) + (if e.f1.toNat = v then F e.f0.toNat else 0) := by
  have hc := multI_cons n es e he v
  obtain ⟨h0, h1, h2⟩ := he
  have split_ : ∀ j : Nat, j < n → (∀ w, w < n → (((e.f0.toNat = v ∧ e.f1.toNat = w) ∨ (e.f1.toNat = v ∧ e.f0.toNat = w)) ↔ w = j)) → sumN (fun w => mE n (e :: es) v w * F w) n = sumN (fun w => mE n es v w * F w) n + F j := by
    intro j hj hiff
    rw [← sum_ind n j F hj, ← sumN_add]
    refine sumN_congr fun w hw => ?_
    show multI n (e :: es) v w * F w = multI n es v w * F w + _
    rw [hc w hv hw]
    by_cases c : w = j
    · rw [if_pos ((hiff w hw).2 c), if_pos c, Int.add_mul]
    · rw [if_neg (fun h => c ((hiff w hw).1 h)), if_neg c, Int.add_mul]
  by_cases a : e.f0.toNat = v
  · rw [if_pos a, if_neg (by omega), split_ e.f1.toNat (by omega) (fun w hw => by omega)]; omega
  · by_cases b : e.f1.toNat = v
    · rw [if_neg a, if_pos b, split_ e.f0.toNat (by omega) (fun w hw => by omega)]; omega
    · rw [if_neg a, if_neg b]
      have : sumN (fun w => mE n (e :: es) v w * F w) n = sumN (fun w => mE n es v w * F w) n := sumN_congr fun w hw => by
        show multI n (e :: es) v w * F w = multI n es v w * F w
        rw [hc w hv hw, if_neg (by omega)]; congr 1; omega
      rw [this]; omega
theorem mE_nil (n : Nat) (v : Nat) (F : Nat → Int) : sumN (fun w => mE n ([] : List S70) v w * F w) n = 0 := by
  rw [← sumN_zero n]
  refine sumN_congr fun w _ => ?_
  show multI n [] v w * F w = 0
  unfold multI multN
  split <;> simp
theorem net_lap (n : Nat) (s : List Int) (v : Nat) (hv : v < n) : ∀ es : List S70, (∀ e ∈ es, okE n e) → net s v es = - lap n (mE n es) (fun w => s.getD w 0) v := by
  have main : ∀ es : List S70, (∀ e ∈ es, okE n e) → net s v es = sumN (fun w => mE n es v w * (s.getD w 0 - s.getD v 0)) n := by
    intro es
    induction es with
    | nil => intro _; exact (mE_nil n v _).symm
    | cons e es ih =>
      intro he
      have h1 := he e (by simp)
      rw [lap_cons n es e h1 v hv (fun w => s.getD w 0 - s.getD v 0), ← ih (fun y hy => he y (by simp [hy]))]
      simp only [net, cE]
      by_cases a : e.f0.toNat = v
      · rw [if_pos a, if_pos a]
        obtain ⟨h0, h1, h2⟩ := h1
        rw [if_neg (by omega), if_neg (by omega), a]; omega
      · rw [if_neg a, if_neg a]
        by_cases b : e.f1.toNat = v
        · rw [if_pos b, if_pos b, b]; omega
        · rw [if_neg b, if_neg b]; omega
  intro es he
  rw [main es he]
  unfold lap
  have : sumN (fun w => mE n es v w * (s.getD v 0 - s.getD w 0)) n = sumN (fun w => (-1) * (mE n es v w * (s.getD w 0 - s.getD v 0))) n := sumN_congr fun w _ => by
    rw [show s.getD v 0 - s.getD w 0 = -(s.getD w 0 - s.getD v 0) by omega, Int.mul_neg]; omega
  rw [this, sumN_mul]; omega
theorem val_le (n : Nat) (v : Nat) (hv : v < n) : ∀ es : List S70, (∀ e ∈ es, okE n e) → sumN (mE n es v) n ≤ es.length := by
  intro es
  induction es with
  | nil =>
    intro _
    have := mE_nil n v (fun _ => 1)
    simp only [Int.mul_one] at this
    rw [show sumN (mE n ([] : List S70) v) n = 0 from this]; simp
  | cons e es ih =>
    intro he
    have h1 := he e (by simp)
    have h := lap_cons n es e h1 v hv (fun _ => 1)
    have i := ih (fun y hy => he y (by simp [hy]))
    simp only [Int.mul_one] at h
    obtain ⟨h0, h1, h2⟩ := h1
    rw [show sumN (mE n (e :: es) v) n = _ from h]
    rw [List.length_cons]
    by_cases a : e.f0.toNat = v
    · rw [if_pos a, if_neg (by omega)]
      have : sumN (fun w => mE n es v w) n = sumN (mE n es v) n := rfl
      omega
    · rw [if_neg a]
      have : sumN (fun w => mE n es v w) n = sumN (mE n es v) n := rfl
      by_cases b : e.f1.toNat = v
      · rw [if_pos b]; omega
      · rw [if_neg b]; omega
theorem mE_pos (n : Nat) (es : List S70) (e : S70) (he : e ∈ es) (hb : okE n e) : 0 < mE n es e.f0.toNat e.f1.toNat := by
  obtain ⟨h0, h1, h2⟩ := hb
  show 0 < multI n es _ _
  unfold multI multN
  rw [if_pos (by omega)]
  have e1 : mn (e.f0.toNat : Int) (e.f1.toNat : Int) = e.f0 := by unfold mn; split <;> omega
  have e2 : mx (e.f0.toNat : Int) (e.f1.toNat : Int) = e.f1 := by unfold mx; split <;> omega
  rw [e1, e2]
  have : 0 < es.countP fun x => decide (x.f0 = e.f0) && decide (x.f1 = e.f1) := List.countP_pos_iff.2 ⟨e, he, by simp⟩
  omega
theorem gr_of (n : Nat) (es : List S70) (h : GraphP n es) : Gr n (mE n es) := by
  obtain ⟨f1, f2, f3, f4⟩ := edgesB_facts h.1
  refine ⟨by omega, by omega, fun v w => multI_symm _ _ _ _, fun v w => multI_nonneg _ _ _ _, fun v => multI_self _ _ _, fun v hv => ?_, fun P hP hcl v hv => ?_⟩
  · have := val_le n v hv es f4
    omega
  · have := h.2.2 (fun i => P i.toNat) hP (fun e he => by
      obtain ⟨h0, h1, h2⟩ := f4 e he
      have hp := mE_pos n es e he ⟨h0, h1, h2⟩
      have hp' : 0 < mE n es e.f1.toNat e.f0.toNat := by
        have : mE n es e.f1.toNat e.f0.toNat = mE n es e.f0.toNat e.f1.toNat := multI_symm _ _ _ _
        omega
      exact ⟨fun h => hcl _ _ (by omega) (by omega) hp h, fun h => hcl _ _ (by omega) (by omega) hp' h⟩) v (by omega) (by omega)
    simpa using this
end Go.Proofs.Ytnebapnfkolflaa.Pure
end
section
set_option linter.unusedVariables false
set_option linter.unusedSimpArgs false
namespace Go.Proofs.Ytnebapnfkolflaa.Pure
open Go.RowKit Go.Proofs.Ytnebapnfkolflaa.P Go.Proofs.YtnebapnfkolflaaW.PrintWords Go.Proofs.YtnebapnfkolflaaW.PrintLast Go.Proofs.YtnebapnfkolflaaW.PrintMore Go.Proofs.Ytnebapnfkolflaa.Base Go.Proofs.Ytnebapnfkolflaa.Loops
def valN (es : List S70) (v : Int) : Nat := es.countP fun e => decide (e.f0 = v) || decide (e.f1 = v)
def valI (n : Int) (es : List S70) (v : Int) : Int := if 0 ≤ v ∧ v < n then (valN es v : Int) else 0
theorem val_loop (es : List S70) (hl : es.length < 4611686018427387904) (v : Int) (g : Nat → Int → Int → Option Int)
    (hg : ∀ k c i, g (k + 1) c i = if i < (es.length : Int) then (if 0 ≤ i then (if i < (es.length : Int) then (if ((rd_T70 es i).f0) = v then (g k (wrap64 (c + 1)) (wrap64 (i + 1))) else (if ((rd_T70 es i).f1) = v then (g k (wrap64 (c + 1)) (wrap64 (i + 1))) else (g k c (wrap64 (i + 1))))) else (none)) else (none)) else (some c)) :
    Ev (fun k => g k 0 0) (valN es v : Int) := by
  have h := ev_list es (fun k (c : Int) i => g k c i) (fun c r => c + (r.countP fun e => decide (e.f0 = v) || decide (e.f1 = v) : Nat)) (fun c r => 0 ≤ c ∧ c + r.length ≤ es.length) (fun s _ => ev1 fun k => ?_) (fun s e rest i hlt hd hinv => Or.inr ?_) es 0 0 (by omega) rfl (by simp)
  · simpa [valN] using h
  · rw [hg, if_neg (by omega)]; simp
  · simp only [List.length_cons] at hinv
    by_cases hc : e.f0 = v ∨ e.f1 = v
    · refine ⟨s + 1, by omega, ?_, 0, fun k _ => ?_⟩
      · rw [List.countP_cons_of_pos (by simp [hc])]; omega
      · rw [hg, if_pos (by omega), if_pos (by omega), if_pos (by omega), rd_IE hd, wrap_succ (by omega), wrap_id (by omega) (by omega)]
        by_cases h1 : e.f0 = v
        · rw [if_pos h1]
        · rw [if_neg h1, if_pos (by omega)]
    · refine ⟨s, by omega, ?_, 0, fun k _ => ?_⟩
      · rw [List.countP_cons_of_neg (by simp; omega)]
      · rw [hg, if_pos (by omega), if_pos (by omega), if_pos (by omega), rd_IE hd, wrap_succ (by omega), if_neg (by omega), if_neg (by omega)]
theorem impl_val_ev (n : Int) (es : List S70) (hl : es.length < 4611686018427387904) (v : Int) : Ev (fun k => impl_Valence.f k n es v) (valI n es v) := by
  simp only [impl_Valence.f]
  have off : ∀ q : Bool, q = true → Ev (fun k => impl_Valence.j0 k v q n es) 0 := fun q hq => ev1 fun k => by
    simp only [impl_Valence.j0, hq, if_true]
  by_cases h1 : v < 0
  · simp only [if_pos h1]
    rw [valI, if_neg (by omega)]
    exact off _ rfl
  · simp only [if_neg h1]
    by_cases h2 : v ≥ n
    · rw [valI, if_neg (by omega)]
      exact off _ (by simp; omega)
    · rw [valI, if_pos (by omega)]
      obtain ⟨K, hK⟩ := val_loop es hl v (fun k c i => impl_Valence.l0 k v c es (es.length : Int) i) (fun k c i => by simp only [impl_Valence.l0])
      refine ⟨K + 1, fun k hk => ?_⟩
      obtain ⟨m, rfl⟩ : ∃ m, k = m + 1 := ⟨k - 1, by omega⟩
      have h2 := hK m (by omega)
      dsimp only at h2 ⊢
      simp only [impl_Valence.j0]
      rw [if_neg (by simp; omega), h2]
end Go.Proofs.Ytnebapnfkolflaa.Pure
end
section
set_option linter.unusedVariables false
set_option linter.unusedSimpArgs false
namespace Go.Proofs.Ytnebapnfkolflaa.Pure
open Go.RowKit Go.Proofs.Ytnebapnfkolflaa.P Go.Proofs.YtnebapnfkolflaaW.PrintWords Go.Proofs.YtnebapnfkolflaaW.PrintLast Go.Proofs.YtnebapnfkolflaaW.PrintMore Go.Proofs.Ytnebapnfkolflaa.Base Go.Proofs.Ytnebapnfkolflaa.Reduce Go.Proofs.Ytnebapnfkolflaa.Loops Go.Proofs.Ytnebapnfkolflaa.Bits
def XD (es : List S70) (D s : List Int) : List Int := es.foldl (stepS s) D
def addAt (s : List Int) (v : Nat) (t : Int) : List Int := s.set v (s.getD v 0 + t)
theorem cE_addAt (n : Nat) (s : List Int) (v : Nat) (t : Int) (hs : s.length = n) (hv : v < n) (u : Nat) (e : S70) (he : okE n e) : cE (addAt s v t) u e = cE s u e + fE v t u e := by
  obtain ⟨h0, h1, h2⟩ := he
  have g : ∀ j, (addAt s v t).getD j 0 = s.getD j 0 + (if v = j then t else 0) := by
    intro j
    unfold addAt
    rw [getD_set _ _ _ _ (by omega)]
    by_cases e : v = j
    · rw [if_pos e, if_pos e, e]
    · rw [if_neg e, if_neg e]; omega
  simp only [cE, fE, g]
  (repeat' split) <;> omega
theorem net_addAt (n : Nat) (s : List Int) (v : Nat) (t : Int) (hs : s.length = n) (hv : v < n) (u : Nat) : ∀ es : List S70, (∀ e ∈ es, okE n e) → net (addAt s v t) u es = net s u es + netF v t u es := by
  intro es
  induction es with
  | nil => intro _; rfl
  | cons e es ih =>
    intro he
    simp only [net, netF]
    rw [cE_addAt n s v t hs hv u e (he e (by simp)), ih (fun y hy => he y (by simp [hy]))]
    omega
theorem xd_len (n : Nat) (es : List S70) (D s : List Int) (he : ∀ e ∈ es, okE n e) (hD : D.length = n) (h : In64 D) : (XD es D s).length = n := (foldS_get n s es D he hD h).1
theorem xd_get (n : Nat) (es : List S70) (D s : List Int) (he : ∀ e ∈ es, okE n e) (hD : D.length = n) (h : In64 D) (u : Nat) : (XD es D s).getD u 0 = wrap64 (D.getD u 0 + net s u es) := (foldS_get n s es D he hD h).2 u
theorem xd_in64 (n : Nat) (es : List S70) (D s : List Int) (he : ∀ e ∈ es, okE n e) (hD : D.length = n) (h : In64 D) : In64 (XD es D s) := fun u => by
  rw [xd_get n es D s he hD h u]; exact wrap_wrap _
theorem xd_fire (n : Nat) (es : List S70) (D s : List Int) (he : ∀ e ∈ es, okE n e) (hD : D.length = n) (hs : s.length = n) (h : In64 D) (v : Nat) (hv : v < n) (t : Int) : es.foldl (stepF v t) (XD es D s) = XD es D (addAt s v t) := by
  have h1 := foldF_get n v t es (XD es D s) he (xd_len n es D s he hD h) (xd_in64 n es D s he hD h)
  refine list_eq (by rw [h1.1, xd_len n es D _ he hD h]) fun u => ?_
  rw [h1.2 u, xd_get n es D s he hD h u, xd_get n es D _ he hD h u, net_addAt n s v t hs hv u es he, wrap_wrap_add]
  congr 1; omega
theorem val_sum (n : Nat) (v : Nat) (hv : v < n) : ∀ es : List S70, (∀ e ∈ es, okE n e) → valI n es v = sumN (mE n es v) n := by
  have main : ∀ es : List S70, (∀ e ∈ es, okE n e) → (valN es v : Int) = sumN (mE n es v) n := by
    intro es
    induction es with
    | nil =>
      intro _
      have := mE_nil n v (fun _ => 1)
      simp only [Int.mul_one] at this
      rw [show sumN (mE n ([] : List S70) v) n = 0 from this]; rfl
    | cons e es ih =>
      intro he
      have h1 := he e (by simp)
      have h := lap_cons n es e h1 v hv (fun _ => 1)
      have i := ih (fun y hy => he y (by simp [hy]))
      simp only [Int.mul_one] at h
      rw [show sumN (mE n (e :: es) v) n = _ from h, show sumN (fun w => mE n es v w) n = sumN (mE n es v) n from rfl, ← i]
      obtain ⟨h0, h1, h2⟩ := h1
      unfold valN
      rw [List.countP_cons]
      have hp : (decide (e.f0 = (v : Int)) || decide (e.f1 = (v : Int))) = true ↔ (e.f0.toNat = v ∨ e.f1.toNat = v) := by
        rw [Bool.or_eq_true, decide_eq_true_eq, decide_eq_true_eq]; omega
      by_cases a : e.f0.toNat = v
      · rw [if_pos a, if_neg (show ¬ e.f1.toNat = v by omega), if_pos (hp.2 (Or.inl a))]; omega
      · by_cases b : e.f1.toNat = v
        · rw [if_neg a, if_pos b, if_pos (hp.2 (Or.inr b))]; omega
        · rw [if_neg a, if_neg b, if_neg (fun h => (hp.1 h).elim a b)]; omega
  intro es he
  unfold valI
  rw [if_pos (by omega)]
  exact main es he
theorem lap_bound (n : Nat) (es : List S70) (h : GraphP n es) (s : Nat → Int) (B : Int) (hB : 0 ≤ B) (hs : ∀ w, w < n → -B ≤ s w ∧ s w ≤ B) (v : Nat) (hv : v < n) : -(24 * B) ≤ lap n (mE n es) s v ∧ lap n (mE n es) s v ≤ 24 * B := by
  have G := gr_of n es h
  have h1 : lap n (mE n es) s v ≤ sumN (fun w => mE n es v w * (2 * B)) n := by
    unfold lap
    refine sumN_le fun w hw => Int.mul_le_mul_of_nonneg_left ?_ (G.nonneg v w)
    have := hs w hw; have := hs v hv; omega
  have h2 : sumN (fun w => mE n es v w * (-(2 * B))) n ≤ lap n (mE n es) s v := by
    unfold lap
    refine sumN_le fun w hw => Int.mul_le_mul_of_nonneg_left ?_ (G.nonneg v w)
    have := hs w hw; have := hs v hv; omega
  rw [sumN_mul'] at h1 h2
  have h3 := G.val v hv
  have h4 : 0 ≤ sumN (mE n es v) n := sumN_nonneg fun i _ => G.nonneg v i
  have e1 : sumN (fun i => mE n es v i) n = sumN (mE n es v) n := rfl
  rw [e1] at h1 h2
  have h5 : sumN (mE n es v) n * (2 * B) ≤ 12 * (2 * B) := Int.mul_le_mul_of_nonneg_right h3 (by omega)
  rw [Int.mul_neg] at h2
  omega
theorem xd_val (n : Nat) (es : List S70) (D s : List Int) (h : GraphP n es) (hD : D.length = n) (hs : s.length = n) (hD0 : ∀ u : Nat, -60 ≤ D.getD u 0 ∧ D.getD u 0 ≤ 60) (B : Int) (hB : 0 ≤ B) (hB2 : B ≤ 1000000000000) (hsB : ∀ w, -B ≤ s.getD w 0 ∧ s.getD w 0 ≤ B) (u : Nat) (hu : u < n) :
    (XD es D s).getD u 0 = D.getD u 0 - lap n (mE n es) (fun w => s.getD w 0) u := by
  have he := (edgesB_facts h.1).2.2.2
  have h64 : In64 D := fun u => wrap_id (by have := hD0 u; omega) (by have := hD0 u; omega)
  rw [xd_get n es D s he hD h64 u, net_lap n s u hu es he]
  have := lap_bound n es h (fun w => s.getD w 0) B hB (fun w _ => hsB w) u hu
  have := hD0 u
  rw [wrap_id (by omega) (by omega)]; omega
end Go.Proofs.Ytnebapnfkolflaa.Pure
end
