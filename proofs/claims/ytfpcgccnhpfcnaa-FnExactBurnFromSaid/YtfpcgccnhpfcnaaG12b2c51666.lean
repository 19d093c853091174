/- Functions of the program as plain Lean functions, and that the machine's calls answer as they do. Written for this claim by a program of this work that drives the kit's print engine; Lean checks it. -/
import Derived.Test.YtfpcgccnhpfcnaaGbf62bd544f
import Derived.Test.YtfpcgccnhpfcnaaG6d16a6c189
import Derived.Test.YtfpcgccnhpfcnaaG0361447070
namespace Go.Proofs.Ytfpcgccnhpfcnaa.P
open Go.RowKit Go.Proofs.YtfpcgccnhpfcnaaW.PrintWords Go.Proofs.YtfpcgccnhpfcnaaW.PrintLast Go.Proofs.YtfpcgccnhpfcnaaW.PrintMore
attribute [local go_sem] max2_int min2_int max_two min_two max_three min_three max_four min_four   -- for this text's walks alone
set_option linter.unusedVariables false
set_option linter.unusedSimpArgs false

/-! ### spec_Multiplicity: function 75 -/
mutual
def spec_Multiplicity.j0 : Nat → Int → Int → Int → Bool → Int → List (S68) → Option (Int)
 | 0, _, _, _, _, _, _ => none
 | k + 1, x1, x2, x7, x24, x396000, x396001 => if x24 = true then (some 0) else (spec_Multiplicity.l0 k x1 x2 x7 x396001 (x396001.length : Int) 0)
def spec_Multiplicity.l0 : Nat → Int → Int → Int → List (S68) → Int → Int → Option (Int)
 | 0, _, _, _, _, _, _ => none
 | k + 1, x1, x2, x7, x26, x27, x28 => if x28 < x27 then (if 0 ≤ x28 then (if x28 < (x26.length : Int) then (if ((rd_T68 x26 x28).f0) = (mn x1 x2) then (if ((rd_T68 x26 x28).f1) = (mx x1 x2) then (spec_Multiplicity.l0 k x1 x2 (wrap64 (x7 + 1)) x26 x27 (wrap64 (x28 + 1))) else (spec_Multiplicity.l0 k x1 x2 x7 x26 x27 (wrap64 (x28 + 1)))) else (spec_Multiplicity.l0 k x1 x2 x7 x26 x27 (wrap64 (x28 + 1)))) else (none)) else (none)) else (some x7)
end
def spec_Multiplicity.f (k : Nat) (a0_0 : Int) (l0_1 : List (S68)) (a1 : Int) (a2 : Int) : Option (Int) := (spec_l02Vert.f a0_0 l0_1 a1).bind fun t396 => (if t396 = true then ((spec_l02Vert.f a0_0 l0_1 a2).bind fun t397 => (if t397 = true then (spec_Multiplicity.j0 k a1 a2 0 (a1 == a2) a0_0 l0_1) else (spec_Multiplicity.j0 k a1 a2 0 true a0_0 l0_1))) else (spec_Multiplicity.j0 k a1 a2 0 true a0_0 l0_1))
set_option maxHeartbeats 8000000 in
set_option maxRecDepth 100000 in
theorem spec_Multiplicity.calls (k : Nat) (a0_0 : Int) (A0_1 : Option Addr) (c0_1 : Nat) (l0_1 : List (S68)) (a1 : Int) (a2 : Int) (r : Int) (w : World) (hr0_1 : Kd.C k68 w A0_1 l0_1.length l0_1) (hc0_1 : l0_1.length ≤ c0_1) (h : spec_Multiplicity.f k a0_0 l0_1 a1 a2 = some r) :
  Calls Try.prog 75 #[.agg #[.int .i64 a0_0, .slice A0_1 l0_1.length c0_1], .int .i64 a1, .int .i64 a2] w fun e w' => e = .returned (.int .i64 r) ∧ Below w.heap.size w w' := by
 have hu37 := Try.underlying37
 have hu68 := Try.underlying68
 have HR0_1 := Aside0.mk hr0_1
 have HC0_1 := Aside0.mk hc0_1
 clear hr0_1 hc0_1
 have HB := Aside0.mk (Below.refl w.heap.size w)
 have H : ((spec_l02Vert.f a0_0 l0_1 a1).bind fun t396 => (if t396 = true then ((spec_l02Vert.f a0_0 l0_1 a2).bind fun t397 => (if t397 = true then (spec_Multiplicity.j0 k a1 a2 0 (a1 == a2) a0_0 l0_1) else (spec_Multiplicity.j0 k a1 a2 0 true a0_0 l0_1))) else (spec_Multiplicity.j0 k a1 a2 0 true a0_0 l0_1))) = some r := h
 clear h
 have HC4 := Aside0.mk H
 clear H
 go_enter Try.func75, Try.ntmps75
 go_upto_region 2 with (first | ((with_reducible refine gate_dst (N := 3) rfl ?_); (try (refine gate_guard (by rfl) ?_; dsimp only)); refine box_event ?hg (N := 3) ?hd (cs := #[.int .i64 a0_0, .slice A0_1 l0_1.length c0_1]) (t := 37) ?hr ?_; (case hd => rfl); (case hg => rfl); (case hr => first | (go_simp; done) | (go_simp; rfl)); intro gb395 hg w5 hbox hb; have BK395 := Aside0.mk (hbox); have GW395 := Aside0.mk ((by rw [hg]; exact (below_size (Lz HB)) : w.heap.size ≤ gb395)); have GE395 := Aside0.mk ((by rw [hg]; exact (below_size (Lz HB)) : w.heap.size ≤ gb395)); replace HB := Aside0.mk (below_step (Lz HB) hb); clear hb hbox hg))
 (try simp only [Act.put, List.setIfInBounds_toArray, List.set_cons_zero, List.set_cons_succ])
 go_cut [24] (fun v24 wc => ∃ (kq : Nat) (x24_3 : Bool), v24 = .bool x24_3 ∧ Aside0 (spec_Multiplicity.j0 kq a1 a2 0 x24_3 a0_0 l0_1 = some r) ∧ Aside0 (kq ≤ k) ∧ Aside0 (wc.heap[gb395]? = some (.cells #[.int .i64 a0_0, (.slice A0_1 l0_1.length c0_1)] 37 (0, 0))) ∧ Aside0 (Below w.heap.size w wc))
 case first =>
  have H := HC4.out
  clear HC4
  replace H := Option.bind_eq_some_iff.mp H
  obtain ⟨t396, A60, H⟩ := H
  replace H : (if t396 = true then ((spec_l02Vert.f a0_0 l0_1 a2).bind fun t397 => (if t397 = true then (spec_Multiplicity.j0 k a1 a2 0 (a1 == a2) a0_0 l0_1) else (spec_Multiplicity.j0 k a1 a2 0 true a0_0 l0_1))) else (spec_Multiplicity.j0 k a1 a2 0 true a0_0 l0_1)) = some r := H
  have A6 := Aside0.mk A60
  clear A60
  by_cases c7 : t396 = true
  ·subst c7
   have H1 : ((spec_l02Vert.f a0_0 l0_1 a2).bind fun t397 => (if t397 = true then (spec_Multiplicity.j0 k a1 a2 0 (a1 == a2) a0_0 l0_1) else (spec_Multiplicity.j0 k a1 a2 0 true a0_0 l0_1))) = some r := by rw [if_pos rfl] at H; exact H
   clear H
   have H := H1
   clear H1
   replace H := Option.bind_eq_some_iff.mp H
   obtain ⟨t397, A80, H⟩ := H
   replace H : (if t397 = true then (spec_Multiplicity.j0 k a1 a2 0 (a1 == a2) a0_0 l0_1) else (spec_Multiplicity.j0 k a1 a2 0 true a0_0 l0_1)) = some r := H
   have A8 := Aside0.mk A80
   clear A80
   by_cases c9 : t397 = true
   ·subst c9
    have H1 : (spec_Multiplicity.j0 k a1 a2 0 (a1 == a2) a0_0 l0_1) = some r := by rw [if_pos rfl] at H; exact H
    clear H
    have H := H1
    clear H1
    have H' := Aside0.mk H
    clear H
    have hcz10_0 : w5.cell? ⟨gb395, 0, none⟩ = some (.int .i64 a0_0) := (blk_cell BK395.out 0).trans rfl
    have hcz10_1 : w5.cell? ⟨gb395, 1, none⟩ = some (.slice A0_1 l0_1.length c0_1) := (blk_cell BK395.out 1).trans rfl
    have hfz10_0 := blk_frozen BK395.out 0
    have hfz10_1 := blk_frozen BK395.out 1
    go_wp2_with (first | ((with_reducible refine gate_callee (f := 105) rfl ?_); refine goesM_ (some 12) rfl rfl Try.func105 (by kernel_rfl) rfl #[.agg #[.int .i64 a0_0, .slice A0_1 l0_1.length c0_1], .int .i64 a1] rfl ?_; (with_reducible refine (spec_l02Vert.calls a0_0 _ _ l0_1 a1 true _ ?side1 ?side2 A6.out).mono ?_); (case side1 => exact Cz ((Kd.C_below HR0_1.out HB.out))); (case side2 => exact HC0_1.out); rintro e w11 ⟨rfl, hb⟩; refine ⟨_, rfl, ?_⟩; replace BK395 := Aside0.mk (blk_below (g := gb395) (o := .cells #[.int .i64 a0_0, .slice A0_1 l0_1.length c0_1] 37 (0, 0)) (Bz BK395) hb); replace HB := Aside0.mk (below_step (by exact Lz1 HB GE395) hb); (try clear hb); (try clear hb2); (try clear hk); (try clear hi); have hcz12_0 : w11.cell? ⟨gb395, 0, none⟩ = some (.int .i64 a0_0) := (blk_cell BK395.out 0).trans rfl; have hcz12_1 : w11.cell? ⟨gb395, 1, none⟩ = some (.slice A0_1 l0_1.length c0_1) := (blk_cell BK395.out 1).trans rfl; have hfz12_0 := blk_frozen BK395.out 0; have hfz12_1 := blk_frozen BK395.out 1) | (go_at_call 105; (with_reducible refine (spec_l02Vert.calls a0_0 _ _ l0_1 a2 true _ ?side1 ?side2 A8.out).mono ?_); (case side1 => exact Cz ((Kd.C_below HR0_1.out HB.out))); (case side2 => exact HC0_1.out); rintro e w13 ⟨rfl, hb⟩; replace BK395 := Aside0.mk (blk_below (g := gb395) (o := .cells #[.int .i64 a0_0, .slice A0_1 l0_1.length c0_1] 37 (0, 0)) (Bz BK395) hb); replace HB := Aside0.mk (below_step (by exact Lz1 HB GE395) hb); (try clear hb); (try clear hb2); (try clear hk); (try clear hi)))
    go_meet
    case rel => exact ⟨_, ((a1 == a2)), (by first | rfl | (simp; done) | (simp [*]; done)), H', ⟨by first | omega | exact Nat.le_refl _⟩, ⟨by exact Bz BK395⟩, ⟨by exact Lz1 HB GE395⟩⟩
   replace c9 := Bool.eq_false_iff.mpr c9
   subst c9
   have H1 : (spec_Multiplicity.j0 k a1 a2 0 true a0_0 l0_1) = some r := by rw [if_neg (show ¬ (false = true) by decide)] at H; exact H
   clear H
   have H := H1
   clear H1
   have H' := Aside0.mk H
   clear H
   have hcz14_0 : w5.cell? ⟨gb395, 0, none⟩ = some (.int .i64 a0_0) := (blk_cell BK395.out 0).trans rfl
   have hcz14_1 : w5.cell? ⟨gb395, 1, none⟩ = some (.slice A0_1 l0_1.length c0_1) := (blk_cell BK395.out 1).trans rfl
   have hfz14_0 := blk_frozen BK395.out 0
   have hfz14_1 := blk_frozen BK395.out 1
   go_wp2_with (first | ((with_reducible refine gate_callee (f := 105) rfl ?_); refine goesM_ (some 12) rfl rfl Try.func105 (by kernel_rfl) rfl #[.agg #[.int .i64 a0_0, .slice A0_1 l0_1.length c0_1], .int .i64 a1] rfl ?_; (with_reducible refine (spec_l02Vert.calls a0_0 _ _ l0_1 a1 true _ ?side1 ?side2 A6.out).mono ?_); (case side1 => exact Cz ((Kd.C_below HR0_1.out HB.out))); (case side2 => exact HC0_1.out); rintro e w15 ⟨rfl, hb⟩; refine ⟨_, rfl, ?_⟩; replace BK395 := Aside0.mk (blk_below (g := gb395) (o := .cells #[.int .i64 a0_0, .slice A0_1 l0_1.length c0_1] 37 (0, 0)) (Bz BK395) hb); replace HB := Aside0.mk (below_step (by exact Lz1 HB GE395) hb); (try clear hb); (try clear hb2); (try clear hk); (try clear hi); have hcz16_0 : w15.cell? ⟨gb395, 0, none⟩ = some (.int .i64 a0_0) := (blk_cell BK395.out 0).trans rfl; have hcz16_1 : w15.cell? ⟨gb395, 1, none⟩ = some (.slice A0_1 l0_1.length c0_1) := (blk_cell BK395.out 1).trans rfl; have hfz16_0 := blk_frozen BK395.out 0; have hfz16_1 := blk_frozen BK395.out 1) | (go_at_call 105; (with_reducible refine (spec_l02Vert.calls a0_0 _ _ l0_1 a2 false _ ?side1 ?side2 A8.out).mono ?_); (case side1 => exact Cz ((Kd.C_below HR0_1.out HB.out))); (case side2 => exact HC0_1.out); rintro e w17 ⟨rfl, hb⟩; replace BK395 := Aside0.mk (blk_below (g := gb395) (o := .cells #[.int .i64 a0_0, .slice A0_1 l0_1.length c0_1] 37 (0, 0)) (Bz BK395) hb); replace HB := Aside0.mk (below_step (by exact Lz1 HB GE395) hb); (try clear hb); (try clear hb2); (try clear hk); (try clear hi)))
   go_meet
   case rel => exact ⟨_, (true), (by first | rfl | (simp; done) | (simp [*]; done)), H', ⟨by first | omega | exact Nat.le_refl _⟩, ⟨by exact Bz BK395⟩, ⟨by exact Lz1 HB GE395⟩⟩
  replace c7 := Bool.eq_false_iff.mpr c7
  subst c7
  have H1 : (spec_Multiplicity.j0 k a1 a2 0 true a0_0 l0_1) = some r := by rw [if_neg (show ¬ (false = true) by decide)] at H; exact H
  clear H
  have H := H1
  clear H1
  have H' := Aside0.mk H
  clear H
  have hcz18_0 : w5.cell? ⟨gb395, 0, none⟩ = some (.int .i64 a0_0) := (blk_cell BK395.out 0).trans rfl
  have hcz18_1 : w5.cell? ⟨gb395, 1, none⟩ = some (.slice A0_1 l0_1.length c0_1) := (blk_cell BK395.out 1).trans rfl
  have hfz18_0 := blk_frozen BK395.out 0
  have hfz18_1 := blk_frozen BK395.out 1
  go_wp2_with (first | ((with_reducible refine gate_callee (f := 105) rfl ?_); refine goesM_ (some 12) rfl rfl Try.func105 (by kernel_rfl) rfl #[.agg #[.int .i64 a0_0, .slice A0_1 l0_1.length c0_1], .int .i64 a1] rfl ?_; (with_reducible refine (spec_l02Vert.calls a0_0 _ _ l0_1 a1 false _ ?side1 ?side2 A6.out).mono ?_); (case side1 => exact Cz ((Kd.C_below HR0_1.out HB.out))); (case side2 => exact HC0_1.out); rintro e w19 ⟨rfl, hb⟩; refine ⟨_, rfl, ?_⟩; replace BK395 := Aside0.mk (blk_below (g := gb395) (o := .cells #[.int .i64 a0_0, .slice A0_1 l0_1.length c0_1] 37 (0, 0)) (Bz BK395) hb); replace HB := Aside0.mk (below_step (by exact Lz1 HB GE395) hb); (try clear hb); (try clear hb2); (try clear hk); (try clear hi)))
  go_meet
  case rel => exact ⟨_, (true), (by first | rfl | (simp; done) | (simp [*]; done)), H', ⟨by first | omega | exact Nat.le_refl _⟩, ⟨by exact Bz BK395⟩, ⟨by exact Lz1 HB GE395⟩⟩
 case rest =>
  clear HC4
  try clear c7
  try clear c9
  obtain ⟨kq, x24_3, rfl, HA, HJ3, BK395, HB⟩ := hcut
  cases kq with
  | zero => exact absurd HA.out (by simp [spec_Multiplicity.j0])
  | succ kj3 =>
   have H := HA.out
   clear HA
   simp only [spec_Multiplicity.j0] at H
   by_cases c20 : x24_3 = true
   ·subst c20
    have H1 : (some 0) = some r := by rw [if_pos rfl] at H; exact H
    clear H
    have H := H1
    clear H1
    obtain rfl := Option.some.inj H
    go_wp2
    go_ret
    exact ⟨by first | rfl | (simp [errW_none, errW_some] <;> rfl) | (simp [*, errW_none, errW_some] <;> rfl), by exact Lz1 HB GE395⟩
   replace c20 := Bool.eq_false_iff.mpr c20
   subst c20
   have H1 : (spec_Multiplicity.l0 kj3 a1 a2 0 l0_1 (l0_1.length : Int) 0) = some r := by rw [if_neg (show ¬ (false = true) by decide)] at H; exact H
   clear H
   have H := H1
   clear H1
   have H' := Aside0.mk H
   clear H
   have hcz21_0 : wc.cell? ⟨gb395, 0, none⟩ = some (.int .i64 a0_0) := (blk_cell BK395.out 0).trans rfl
   have hcz21_1 : wc.cell? ⟨gb395, 1, none⟩ = some (.slice A0_1 l0_1.length c0_1) := (blk_cell BK395.out 1).trans rfl
   have hfz21_0 := blk_frozen BK395.out 0
   have hfz21_1 := blk_frozen BK395.out 1
   go_wp2
   go_loopg [7, 28] kj3 (fun kq v7 v28 w' => ∃ (x7_2 : Int) (x28_2 : Int), v7 = .int .i64 x7_2 ∧ v28 = .int .i64 x28_2 ∧ Aside0 (spec_Multiplicity.l0 kq a1 a2 x7_2 l0_1 (l0_1.length : Int) x28_2 = some r) ∧ Aside0 (kq ≤ kj3) ∧ Aside0 (w'.heap[gb395]? = some (.cells #[.int .i64 a0_0, (.slice A0_1 l0_1.length c0_1)] 37 (0, 0))) ∧ Aside0 (Below w.heap.size w w'))
   case atStart => exact ⟨(0), (0), (by first | rfl | (simp; done) | (simp [*]; done)), (by first | rfl | (simp; done) | (simp [*]; done)), H', ⟨Nat.le_refl _⟩, ⟨by exact Bz BK395⟩, ⟨by exact Lz1 HB GE395⟩⟩
   case round =>
    clear H'
    try clear c7
    try clear c9
    try clear c20
    obtain ⟨x7_2, x28_2, rfl, rfl, HA, HK2, BK395, HB⟩ := hrel
    cases gk with
    | zero => exact absurd HA.out (by simp [spec_Multiplicity.l0])
    | succ k2 =>
     have H := HA.out
     clear HA
     simp only [spec_Multiplicity.l0] at H
     by_cases c22 : x28_2 < (l0_1.length : Int)
     ·rw [if_pos c22] at H
      have c22b0 : decide (x28_2 < (l0_1.length : Int)) = true := decide_eq_true c22
      clear c22
      by_cases c23 : 0 ≤ x28_2
      ·rw [if_pos c23] at H
       have c23b0 : decide (0 ≤ x28_2) = true := decide_eq_true c23
       clear c23
       by_cases c24 : x28_2 < (l0_1.length : Int)
       ·rw [if_pos c24] at H
        have c24b0 : decide (x28_2 < (l0_1.length : Int)) = true := decide_eq_true c24
        clear c24
        obtain ⟨ji25, hji25⟩ : ∃ j_ : Int, (mn a1 a2) = j_ := ⟨_, rfl⟩
        replace H : (if ((rd_T68 l0_1 x28_2).f0) = (ji25) then (if ((rd_T68 l0_1 x28_2).f1) = (mx a1 a2) then (spec_Multiplicity.l0 k2 a1 a2 (wrap64 (x7_2 + 1)) l0_1 (l0_1.length : Int) (wrap64 (x28_2 + 1))) else (spec_Multiplicity.l0 k2 a1 a2 x7_2 l0_1 (l0_1.length : Int) (wrap64 (x28_2 + 1)))) else (spec_Multiplicity.l0 k2 a1 a2 x7_2 l0_1 (l0_1.length : Int) (wrap64 (x28_2 + 1)))) = some r := by first | (rw [hji25] at H; exact H) | (simp only [hji25] at H ⊢; exact H)
        have hji25_ : (if a2 < a1 then a2 else a1) = ji25 := hji25
        by_cases c26 : ((rd_T68 l0_1 x28_2).f0) = (ji25)
        ·rw [if_pos c26] at H
         have c26b0 : (((rd_T68 l0_1 x28_2).f0) == (ji25)) = true := beq_iff_eq.mpr c26
         have c26b1 : (((rd_T68 l0_1 x28_2).f0) != (ji25)) = false := bne_eq_false_iff_eq.mpr c26
         clear c26
         obtain ⟨ji27, hji27⟩ : ∃ j_ : Int, (mx a1 a2) = j_ := ⟨_, rfl⟩
         replace H : (if ((rd_T68 l0_1 x28_2).f1) = (ji27) then (spec_Multiplicity.l0 k2 a1 a2 (wrap64 (x7_2 + 1)) l0_1 (l0_1.length : Int) (wrap64 (x28_2 + 1))) else (spec_Multiplicity.l0 k2 a1 a2 x7_2 l0_1 (l0_1.length : Int) (wrap64 (x28_2 + 1)))) = some r := by first | (rw [hji27] at H; exact H) | (simp only [hji27] at H ⊢; exact H)
         have hji27_ : (if a1 < a2 then a2 else a1) = ji27 := hji27
         by_cases c28 : ((rd_T68 l0_1 x28_2).f1) = (ji27)
         ·rw [if_pos c28] at H
          have c28b0 : (((rd_T68 l0_1 x28_2).f1) == (ji27)) = true := beq_iff_eq.mpr c28
          have c28b1 : (((rd_T68 l0_1 x28_2).f1) != (ji27)) = false := bne_eq_false_iff_eq.mpr c28
          clear c28
          have H' := Aside0.mk H
          clear H
          have p398 : 0 ≤ (x28_2 : Int) := of_decide_eq_true (by first | (with_reducible assumption) | assumption)
          have q398 : x28_2 < (l0_1.length : Int) := of_decide_eq_true (by first | (with_reducible assumption) | assumption)
          obtain ⟨ad398, e398, hx398_0, hx398_1⟩ := at_T68 HR0_1.out x28_2 p398 q398
          cases e398
          replace hx398_0 := (HB.out.cell (World.block_lt_of_cell? w _ hx398_0)).trans hx398_0
          replace hx398_1 := (HB.out.cell (World.block_lt_of_cell? w _ hx398_1)).trans hx398_1
          replace p398 := eq_true p398
          replace q398 := eq_true q398
          go_wp2_with (first | ((with_reducible refine gate_dst (N := 9) rfl ?_); (try (refine gate_guard (by rfl) ?_; dsimp only)); refine box_event ?hg (N := 9) ?hd (cs := #[.int .i64 0, .int .i64 0]) (t := 68) ?hr ?_; (case hd => rfl); (case hg => rfl); (case hr => first | (go_simp; done) | (go_simp; rfl)); intro gb399 hg w29 hbox hb; have BK399 := Aside0.mk (hbox); have GW399 := Aside0.mk ((by rw [hg]; exact (below_size (by exact Lz1 HB GE395)) : w.heap.size ≤ gb399)); have GE399 := Aside0.mk ((by rw [hg]; exact (below_size (by exact Lz1 HB GE395)) : w.heap.size ≤ gb399)); replace HB := Aside0.mk (below_step (by exact Lz1 HB GE395) hb); have NB395_399 := Aside0.mk ((by rw [hg]; exact Nat.ne_of_lt (blk_lt (g := gb395) (o := .cells #[.int .i64 a0_0, .slice (some ad398) l0_1.length c0_1] 37 (0, 0)) (Bz BK395)) : gb395 ≠ gb399)); have NB399_395 := Aside0.mk ((by rw [hg]; exact Nat.ne_of_gt (blk_lt (g := gb395) (o := .cells #[.int .i64 a0_0, .slice (some ad398) l0_1.length c0_1] 37 (0, 0)) (Bz BK395)) : gb399 ≠ gb395)); replace BK395 := Aside0.mk (blk_below (g := gb395) (o := .cells #[.int .i64 a0_0, .slice (some ad398) l0_1.length c0_1] 37 (0, 0)) (Bz BK395) hb); clear hb hbox hg; have hnb30 := NB399_395.out; have hnc30 := NB395_399.out; have hcz31_0 : w29.cell? ⟨gb399, 0, none⟩ = some (.int .i64 0) := (blk_cell BK399.out 0).trans rfl; have hcz31_1 : w29.cell? ⟨gb399, 1, none⟩ = some (.int .i64 0) := (blk_cell BK399.out 1).trans rfl; have hfz31_0 := blk_frozen BK399.out 0; have hfz31_1 := blk_frozen BK399.out 1))
          go_roundg k2
          case measure => have := HJ3.out; have := HK2.out; omega
          case rel => exact ⟨(wrap64 (x7_2 + 1)), (wrap64 (x28_2 + 1)), (by first | rfl | (simp; done) | (simp [*]; done)), (by first | rfl | (simp; done) | (simp [*]; done)), H', ⟨by have := HJ3.out; have := HK2.out; omega⟩, ⟨by (with_reducible repeat (first | refine blk_drewN ?_ _ | refine blk_drew ?_ | refine blk_alloc ?_ _)); refine blk_far ?_ NB395_399.out _; (with_reducible repeat (first | refine blk_drewN ?_ _ | refine blk_drew ?_ | refine blk_alloc ?_ _)); refine blk_far ?_ NB395_399.out _; exact Bz BK395⟩, ⟨by exact Lz2 HB GE395 GE399⟩⟩
         rw [if_neg c28] at H
         have c28b0 : (((rd_T68 l0_1 x28_2).f1) == (ji27)) = false := beq_eq_false_iff_ne.mpr c28
         have c28b1 : (((rd_T68 l0_1 x28_2).f1) != (ji27)) = true := bne_iff_ne.mpr c28
         have H' := Aside0.mk H
         clear H
         have p398 : 0 ≤ (x28_2 : Int) := of_decide_eq_true (by first | (with_reducible assumption) | assumption)
         have q398 : x28_2 < (l0_1.length : Int) := of_decide_eq_true (by first | (with_reducible assumption) | assumption)
         obtain ⟨ad398, e398, hx398_0, hx398_1⟩ := at_T68 HR0_1.out x28_2 p398 q398
         cases e398
         replace hx398_0 := (HB.out.cell (World.block_lt_of_cell? w _ hx398_0)).trans hx398_0
         replace hx398_1 := (HB.out.cell (World.block_lt_of_cell? w _ hx398_1)).trans hx398_1
         replace p398 := eq_true p398
         replace q398 := eq_true q398
         go_wp2_with (first | ((with_reducible refine gate_dst (N := 9) rfl ?_); (try (refine gate_guard (by rfl) ?_; dsimp only)); refine box_event ?hg (N := 9) ?hd (cs := #[.int .i64 0, .int .i64 0]) (t := 68) ?hr ?_; (case hd => rfl); (case hg => rfl); (case hr => first | (go_simp; done) | (go_simp; rfl)); intro gb399 hg w32 hbox hb; have BK399 := Aside0.mk (hbox); have GW399 := Aside0.mk ((by rw [hg]; exact (below_size (by exact Lz1 HB GE395)) : w.heap.size ≤ gb399)); have GE399 := Aside0.mk ((by rw [hg]; exact (below_size (by exact Lz1 HB GE395)) : w.heap.size ≤ gb399)); replace HB := Aside0.mk (below_step (by exact Lz1 HB GE395) hb); have NB395_399 := Aside0.mk ((by rw [hg]; exact Nat.ne_of_lt (blk_lt (g := gb395) (o := .cells #[.int .i64 a0_0, .slice (some ad398) l0_1.length c0_1] 37 (0, 0)) (Bz BK395)) : gb395 ≠ gb399)); have NB399_395 := Aside0.mk ((by rw [hg]; exact Nat.ne_of_gt (blk_lt (g := gb395) (o := .cells #[.int .i64 a0_0, .slice (some ad398) l0_1.length c0_1] 37 (0, 0)) (Bz BK395)) : gb399 ≠ gb395)); replace BK395 := Aside0.mk (blk_below (g := gb395) (o := .cells #[.int .i64 a0_0, .slice (some ad398) l0_1.length c0_1] 37 (0, 0)) (Bz BK395) hb); clear hb hbox hg; have hnb33 := NB399_395.out; have hnc33 := NB395_399.out; have hcz34_0 : w32.cell? ⟨gb399, 0, none⟩ = some (.int .i64 0) := (blk_cell BK399.out 0).trans rfl; have hcz34_1 : w32.cell? ⟨gb399, 1, none⟩ = some (.int .i64 0) := (blk_cell BK399.out 1).trans rfl; have hfz34_0 := blk_frozen BK399.out 0; have hfz34_1 := blk_frozen BK399.out 1))
         go_roundg k2
         case measure => have := HJ3.out; have := HK2.out; omega
         case rel => exact ⟨(x7_2), (wrap64 (x28_2 + 1)), (by first | rfl | (simp; done) | (simp [*]; done)), (by first | rfl | (simp; done) | (simp [*]; done)), H', ⟨by have := HJ3.out; have := HK2.out; omega⟩, ⟨by (with_reducible repeat (first | refine blk_drewN ?_ _ | refine blk_drew ?_ | refine blk_alloc ?_ _)); refine blk_far ?_ NB395_399.out _; (with_reducible repeat (first | refine blk_drewN ?_ _ | refine blk_drew ?_ | refine blk_alloc ?_ _)); refine blk_far ?_ NB395_399.out _; exact Bz BK395⟩, ⟨by exact Lz2 HB GE395 GE399⟩⟩
        rw [if_neg c26] at H
        have c26b0 : (((rd_T68 l0_1 x28_2).f0) == (ji25)) = false := beq_eq_false_iff_ne.mpr c26
        have c26b1 : (((rd_T68 l0_1 x28_2).f0) != (ji25)) = true := bne_iff_ne.mpr c26
        have H' := Aside0.mk H
        clear H
        have p398 : 0 ≤ (x28_2 : Int) := of_decide_eq_true (by first | (with_reducible assumption) | assumption)
        have q398 : x28_2 < (l0_1.length : Int) := of_decide_eq_true (by first | (with_reducible assumption) | assumption)
        obtain ⟨ad398, e398, hx398_0, hx398_1⟩ := at_T68 HR0_1.out x28_2 p398 q398
        cases e398
        replace hx398_0 := (HB.out.cell (World.block_lt_of_cell? w _ hx398_0)).trans hx398_0
        replace hx398_1 := (HB.out.cell (World.block_lt_of_cell? w _ hx398_1)).trans hx398_1
        replace p398 := eq_true p398
        replace q398 := eq_true q398
        go_wp2_with (first | ((with_reducible refine gate_dst (N := 9) rfl ?_); (try (refine gate_guard (by rfl) ?_; dsimp only)); refine box_event ?hg (N := 9) ?hd (cs := #[.int .i64 0, .int .i64 0]) (t := 68) ?hr ?_; (case hd => rfl); (case hg => rfl); (case hr => first | (go_simp; done) | (go_simp; rfl)); intro gb399 hg w35 hbox hb; have BK399 := Aside0.mk (hbox); have GW399 := Aside0.mk ((by rw [hg]; exact (below_size (by exact Lz1 HB GE395)) : w.heap.size ≤ gb399)); have GE399 := Aside0.mk ((by rw [hg]; exact (below_size (by exact Lz1 HB GE395)) : w.heap.size ≤ gb399)); replace HB := Aside0.mk (below_step (by exact Lz1 HB GE395) hb); have NB395_399 := Aside0.mk ((by rw [hg]; exact Nat.ne_of_lt (blk_lt (g := gb395) (o := .cells #[.int .i64 a0_0, .slice (some ad398) l0_1.length c0_1] 37 (0, 0)) (Bz BK395)) : gb395 ≠ gb399)); have NB399_395 := Aside0.mk ((by rw [hg]; exact Nat.ne_of_gt (blk_lt (g := gb395) (o := .cells #[.int .i64 a0_0, .slice (some ad398) l0_1.length c0_1] 37 (0, 0)) (Bz BK395)) : gb399 ≠ gb395)); replace BK395 := Aside0.mk (blk_below (g := gb395) (o := .cells #[.int .i64 a0_0, .slice (some ad398) l0_1.length c0_1] 37 (0, 0)) (Bz BK395) hb); clear hb hbox hg; have hnb36 := NB399_395.out; have hnc36 := NB395_399.out; have hcz37_0 : w35.cell? ⟨gb399, 0, none⟩ = some (.int .i64 0) := (blk_cell BK399.out 0).trans rfl; have hcz37_1 : w35.cell? ⟨gb399, 1, none⟩ = some (.int .i64 0) := (blk_cell BK399.out 1).trans rfl; have hfz37_0 := blk_frozen BK399.out 0; have hfz37_1 := blk_frozen BK399.out 1))
        go_roundg k2
        case measure => have := HJ3.out; have := HK2.out; omega
        case rel => exact ⟨(x7_2), (wrap64 (x28_2 + 1)), (by first | rfl | (simp; done) | (simp [*]; done)), (by first | rfl | (simp; done) | (simp [*]; done)), H', ⟨by have := HJ3.out; have := HK2.out; omega⟩, ⟨by (with_reducible repeat (first | refine blk_drewN ?_ _ | refine blk_drew ?_ | refine blk_alloc ?_ _)); refine blk_far ?_ NB395_399.out _; (with_reducible repeat (first | refine blk_drewN ?_ _ | refine blk_drew ?_ | refine blk_alloc ?_ _)); refine blk_far ?_ NB395_399.out _; exact Bz BK395⟩, ⟨by exact Lz2 HB GE395 GE399⟩⟩
       rw [if_neg c24] at H
       exact absurd H (by simp)
      rw [if_neg c23] at H
      exact absurd H (by simp)
     rw [if_neg c22] at H
     have c22b0 : decide (x28_2 < (l0_1.length : Int)) = false := decide_eq_false c22
     clear c22
     obtain rfl := Option.some.inj H
     go_wp2
     go_ret
     exact ⟨by first | rfl | (simp [errW_none, errW_some] <;> rfl) | (simp [*, errW_none, errW_some] <;> rfl), by exact Lz1 HB GE395⟩

/-! ### impl_isVertex: function 77 -/
def impl_isVertex.f (k : Nat) (a0_0 : Int) (l0_1 : List (S68)) (a1 : Int) : Option (Bool) := (impl_GraphOk.f k a0_0 l0_1).bind fun t418 => (if t418 = true then ((impl_within.f a1 0 (wrap64 (a0_0 - 1))).bind fun t419 => (some t419)) else (some false))
set_option maxHeartbeats 8000000 in
set_option maxRecDepth 100000 in
theorem impl_isVertex.calls (k : Nat) (a0_0 : Int) (A0_1 : Option Addr) (c0_1 : Nat) (l0_1 : List (S68)) (a1 : Int) (r : Bool) (w : World) (hr0_1 : Kd.C k68 w A0_1 l0_1.length l0_1) (hc0_1 : l0_1.length ≤ c0_1) (h : impl_isVertex.f k a0_0 l0_1 a1 = some r) :
  Calls Try.prog 77 #[.agg #[.int .i64 a0_0, .slice A0_1 l0_1.length c0_1], .int .i64 a1] w fun e w' => e = .returned (.bool r) ∧ Below w.heap.size w w' := by
 have hu37 := Try.underlying37
 have HR0_1 := Aside0.mk hr0_1
 have HC0_1 := Aside0.mk hc0_1
 clear hr0_1 hc0_1
 have HB := Aside0.mk (Below.refl w.heap.size w)
 have H : ((impl_GraphOk.f k a0_0 l0_1).bind fun t418 => (if t418 = true then ((impl_within.f a1 0 (wrap64 (a0_0 - 1))).bind fun t419 => (some t419)) else (some false))) = some r := h
 clear h
 replace H := Option.bind_eq_some_iff.mp H
 obtain ⟨t418, A30, H⟩ := H
 replace H : (if t418 = true then ((impl_within.f a1 0 (wrap64 (a0_0 - 1))).bind fun t419 => (some t419)) else (some false)) = some r := H
 have A3 := Aside0.mk A30
 clear A30
 by_cases c4 : t418 = true
 ·subst c4
  have H1 : ((impl_within.f a1 0 (wrap64 (a0_0 - 1))).bind fun t419 => (some t419)) = some r := by rw [if_pos rfl] at H; exact H
  clear H
  have H := H1
  clear H1
  replace H := Option.bind_eq_some_iff.mp H
  obtain ⟨t419, A50, H⟩ := H
  replace H : (some t419) = some r := H
  have A5 := Aside0.mk A50
  clear A50
  obtain rfl := Option.some.inj H
  go_enter Try.func77, Try.ntmps77
  go_wp2_with (first | ((with_reducible refine gate_dst (N := 2) rfl ?_); refine box_event ?hg (N := 2) ?hd (cs := #[.int .i64 a0_0, .slice A0_1 l0_1.length c0_1]) (t := 37) ?hr ?_; (case hd => rfl); (case hg => rfl); (case hr => first | (go_simp; done) | (go_simp; rfl)); intro gb417 hg w6 hbox hb; have BK417 := Aside0.mk (hbox); have GW417 := Aside0.mk ((by rw [hg]; exact (below_size (Lz HB)) : w.heap.size ≤ gb417)); have GE417 := Aside0.mk ((by rw [hg]; exact (below_size (Lz HB)) : w.heap.size ≤ gb417)); replace HB := Aside0.mk (below_step (Lz HB) hb); clear hb hbox hg; have hcz7_0 : w6.cell? ⟨gb417, 0, none⟩ = some (.int .i64 a0_0) := (blk_cell BK417.out 0).trans rfl; have hcz7_1 : w6.cell? ⟨gb417, 1, none⟩ = some (.slice A0_1 l0_1.length c0_1) := (blk_cell BK417.out 1).trans rfl; have hfz7_0 := blk_frozen BK417.out 0; have hfz7_1 := blk_frozen BK417.out 1) | ((with_reducible refine gate_callee (f := 66) rfl ?_); refine goesM_ (some 6) rfl rfl Try.func66 (by kernel_rfl) rfl #[.agg #[.int .i64 a0_0, .slice A0_1 l0_1.length c0_1]] rfl ?_; (with_reducible refine (impl_GraphOk.calls k a0_0 _ _ l0_1 true _ ?side1 ?side2 A3.out).mono ?_); (case side1 => exact Cz ((Kd.C_below HR0_1.out HB.out))); (case side2 => exact HC0_1.out); rintro e w8 ⟨rfl, hb⟩; refine ⟨_, rfl, ?_⟩; replace BK417 := Aside0.mk (blk_below (g := gb417) (o := .cells #[.int .i64 a0_0, .slice A0_1 l0_1.length c0_1] 37 (0, 0)) (Bz BK417) hb); replace HB := Aside0.mk (below_step (by exact Lz1 HB GE417) hb); (try clear hb); (try clear hb2); (try clear hk); (try clear hi); have hcz9_0 : w8.cell? ⟨gb417, 0, none⟩ = some (.int .i64 a0_0) := (blk_cell BK417.out 0).trans rfl; have hcz9_1 : w8.cell? ⟨gb417, 1, none⟩ = some (.slice A0_1 l0_1.length c0_1) := (blk_cell BK417.out 1).trans rfl; have hfz9_0 := blk_frozen BK417.out 0; have hfz9_1 := blk_frozen BK417.out 1) | (go_at_call 67; (with_reducible refine (impl_within.calls a1 0 (wrap64 (a0_0 - 1)) t419 _ A5.out).mono ?_); rintro e w' ⟨rfl, ⟨nd, rfl⟩⟩))
  go_ret
  exact ⟨by first | rfl | (simp [errW_none, errW_some] <;> rfl) | (simp [*, errW_none, errW_some] <;> rfl), by exact Lz1 HB GE417⟩
 replace c4 := Bool.eq_false_iff.mpr c4
 subst c4
 have H1 : (some false) = some r := by rw [if_neg (show ¬ (false = true) by decide)] at H; exact H
 clear H
 have H := H1
 clear H1
 obtain rfl := Option.some.inj H
 go_enter Try.func77, Try.ntmps77
 go_wp2_with (first | ((with_reducible refine gate_dst (N := 2) rfl ?_); refine box_event ?hg (N := 2) ?hd (cs := #[.int .i64 a0_0, .slice A0_1 l0_1.length c0_1]) (t := 37) ?hr ?_; (case hd => rfl); (case hg => rfl); (case hr => first | (go_simp; done) | (go_simp; rfl)); intro gb417 hg w10 hbox hb; have BK417 := Aside0.mk (hbox); have GW417 := Aside0.mk ((by rw [hg]; exact (below_size (Lz HB)) : w.heap.size ≤ gb417)); have GE417 := Aside0.mk ((by rw [hg]; exact (below_size (Lz HB)) : w.heap.size ≤ gb417)); replace HB := Aside0.mk (below_step (Lz HB) hb); clear hb hbox hg; have hcz11_0 : w10.cell? ⟨gb417, 0, none⟩ = some (.int .i64 a0_0) := (blk_cell BK417.out 0).trans rfl; have hcz11_1 : w10.cell? ⟨gb417, 1, none⟩ = some (.slice A0_1 l0_1.length c0_1) := (blk_cell BK417.out 1).trans rfl; have hfz11_0 := blk_frozen BK417.out 0; have hfz11_1 := blk_frozen BK417.out 1) | ((with_reducible refine gate_callee (f := 66) rfl ?_); refine goesM_ (some 6) rfl rfl Try.func66 (by kernel_rfl) rfl #[.agg #[.int .i64 a0_0, .slice A0_1 l0_1.length c0_1]] rfl ?_; (with_reducible refine (impl_GraphOk.calls k a0_0 _ _ l0_1 false _ ?side1 ?side2 A3.out).mono ?_); (case side1 => exact Cz ((Kd.C_below HR0_1.out HB.out))); (case side2 => exact HC0_1.out); rintro e w12 ⟨rfl, hb⟩; refine ⟨_, rfl, ?_⟩; replace BK417 := Aside0.mk (blk_below (g := gb417) (o := .cells #[.int .i64 a0_0, .slice A0_1 l0_1.length c0_1] 37 (0, 0)) (Bz BK417) hb); replace HB := Aside0.mk (below_step (by exact Lz1 HB GE417) hb); (try clear hb); (try clear hb2); (try clear hk); (try clear hi)))
 go_ret
 exact ⟨by first | rfl | (simp [errW_none, errW_some] <;> rfl) | (simp [*, errW_none, errW_some] <;> rfl), by exact Lz1 HB GE417⟩

end Go.Proofs.Ytfpcgccnhpfcnaa.P
