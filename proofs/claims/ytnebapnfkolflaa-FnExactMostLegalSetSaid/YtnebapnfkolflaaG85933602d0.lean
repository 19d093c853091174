/- Functions of the program as plain Lean functions, and that the machine's calls answer as they do. Written for this claim by a program of this work that drives the kit's print engine; Lean checks it. -/
import Derived.Test.YtnebapnfkolflaaG84b96e686c
import Derived.Test.YtnebapnfkolflaaG4313838eeb
import Derived.Test.YtnebapnfkolflaaG6fdbfe69ae
import Derived.Test.YtnebapnfkolflaaGf1ec054a45
import Derived.Test.YtnebapnfkolflaaG16bbdf7937
import Derived.Test.YtnebapnfkolflaaG2c309fcb96
import Derived.Test.YtnebapnfkolflaaGf10e44fb44
namespace Go.Proofs.Ytnebapnfkolflaa.P
open Go.RowKit Go.Proofs.YtnebapnfkolflaaW.PrintWords Go.Proofs.YtnebapnfkolflaaW.PrintLast Go.Proofs.YtnebapnfkolflaaW.PrintMore
attribute [local go_sem] max2_int min2_int max_two min_two max_three min_three max_four min_four   -- for this text's walks alone
set_option linter.unusedVariables false
set_option linter.unusedSimpArgs false

/-! ### spec_MostLegalSet: function 24 -/
mutual
def spec_MostLegalSet.j0 : Nat → List Int → Int → Bool → Int → List (S70) → Option (List Int)
 | 0, _, _, _, _, _ => none
 | k + 1, x1, x2, x19, x356000, x356001 => if x19 = true then (some ([] : List Int)) else ((spec_l05Burn.f k x356000 x356001 x1 x2).bind fun t358 => (spec_MostLegalSet.l0 k t358 (([] : List Int)) 0 x356000 x356001))
def spec_MostLegalSet.l0 : Nat → List Int → List Int → Int → Int → List (S70) → Option (List Int)
 | 0, _, _, _, _, _ => none
 | k + 1, x7, x8, x9, x356000, x356001 => if x9 < x356000 then ((spec_l02Has.f k x7 x9).bind fun t364 => (if t364 = true then (spec_MostLegalSet.l0 k x7 x8 (wrap64 (x9 + 1)) x356000 x356001) else (if x8.length < 17592186044416 then (spec_MostLegalSet.l0 k x7 (x8 ++ [x9]) (wrap64 (x9 + 1)) x356000 x356001) else (none)))) else (some x8)
end
def spec_MostLegalSet.f (k : Nat) (a0_0 : Int) (l0_1 : List (S70)) (l1 : List Int) (a2 : Int) : Option (List Int) := (spec_l05Ok.f k a0_0 l0_1 l1 a2).bind fun t356 => (if t356 = true then ((spec_l05Debt.f k l1 a2).bind fun t357 => (spec_MostLegalSet.j0 k l1 a2 t357 a0_0 l0_1)) else (spec_MostLegalSet.j0 k l1 a2 true a0_0 l0_1))
set_option maxHeartbeats 8000000 in
set_option maxRecDepth 100000 in
theorem spec_MostLegalSet.calls (k : Nat) (a0_0 : Int) (A0_1 : Option Addr) (c0_1 : Nat) (l0_1 : List (S70)) (A1 : Option Addr) (c1 : Nat) (l1 : List Int) (a2 : Int) (r : List Int) (w : World) (hr0_1 : Kd.C k70 w A0_1 l0_1.length l0_1) (hc0_1 : l0_1.length ≤ c0_1) (hr1 : Kd.C (Kd.int .i64) w A1 l1.length l1) (hc1 : l1.length ≤ c1) (h : spec_MostLegalSet.f k a0_0 l0_1 l1 a2 = some r) :
  Calls Try.prog 24 #[.agg #[.int .i64 a0_0, .slice A0_1 l0_1.length c0_1], .slice A1 l1.length c1, .int .i64 a2] w fun e w' => ∃ v0_ : Value, e = .returned (v0_) ∧ Kd.R (Kd.int .i64) 3 w' w.heap.size (fun _ => True) v0_ r ∧ Below w.heap.size w w' := by
 have hu25 := Try.underlying25
 have HR0_1 := Aside0.mk hr0_1
 have HC0_1 := Aside0.mk hc0_1
 clear hr0_1 hc0_1
 have HR1 := Aside0.mk hr1
 have HC1 := Aside0.mk hc1
 clear hr1 hc1
 have HB := Aside0.mk (Below.refl w.heap.size w)
 have H : ((spec_l05Ok.f k a0_0 l0_1 l1 a2).bind fun t356 => (if t356 = true then ((spec_l05Debt.f k l1 a2).bind fun t357 => (spec_MostLegalSet.j0 k l1 a2 t357 a0_0 l0_1)) else (spec_MostLegalSet.j0 k l1 a2 true a0_0 l0_1))) = some r := h
 clear h
 have HC4 := Aside0.mk H
 clear H
 go_enter Try.func24, Try.ntmps24
 go_upto_region 1 with (first | ((with_reducible refine gate_dst (N := 3) rfl ?_); refine box_event ?hg (N := 3) ?hd (cs := #[.int .i64 a0_0, .slice A0_1 l0_1.length c0_1]) (t := 25) ?hr ?_; (case hd => rfl); (case hg => rfl); (case hr => first | (go_simp; done) | (go_simp; rfl)); intro gb355 hg w5 hbox hb; have BK355 := Aside0.mk (hbox); have GW355 := Aside0.mk ((by rw [hg]; exact (below_size (Lz HB)) : w.heap.size ≤ gb355)); have GE355 := Aside0.mk ((by rw [hg]; exact (below_size (Lz HB)) : w.heap.size ≤ gb355)); replace HB := Aside0.mk (below_step (Lz HB) hb); clear hb hbox hg))
 (try simp only [Act.put, List.setIfInBounds_toArray, List.set_cons_zero, List.set_cons_succ])
 go_cut [19] (fun v19 wc => ∃ (kq : Nat) (x19_3 : Bool), v19 = .bool x19_3 ∧ Aside0 (spec_MostLegalSet.j0 kq l1 a2 x19_3 a0_0 l0_1 = some r) ∧ Aside0 (kq ≤ k) ∧ Aside0 (wc.heap[gb355]? = some (.cells #[.int .i64 a0_0, (.slice A0_1 l0_1.length c0_1)] 25 (0, 0))) ∧ Aside0 (Below w.heap.size w wc))
 case first =>
  have H := HC4.out
  clear HC4
  replace H := Option.bind_eq_some_iff.mp H
  obtain ⟨t356, A60, H⟩ := H
  replace H : (if t356 = true then ((spec_l05Debt.f k l1 a2).bind fun t357 => (spec_MostLegalSet.j0 k l1 a2 t357 a0_0 l0_1)) else (spec_MostLegalSet.j0 k l1 a2 true a0_0 l0_1)) = some r := H
  have A6 := Aside0.mk A60
  clear A60
  by_cases c7 : t356 = true
  ·subst c7
   have H1 : ((spec_l05Debt.f k l1 a2).bind fun t357 => (spec_MostLegalSet.j0 k l1 a2 t357 a0_0 l0_1)) = some r := by rw [if_pos rfl] at H; exact H
   clear H
   have H := H1
   clear H1
   replace H := Option.bind_eq_some_iff.mp H
   obtain ⟨t357, A80, H⟩ := H
   replace H : (spec_MostLegalSet.j0 k l1 a2 t357 a0_0 l0_1) = some r := H
   have A8 := Aside0.mk A80
   clear A80
   have H' := Aside0.mk H
   clear H
   have hcz9_0 : w5.cell? ⟨gb355, 0, none⟩ = some (.int .i64 a0_0) := (blk_cell BK355.out 0).trans rfl
   have hcz9_1 : w5.cell? ⟨gb355, 1, none⟩ = some (.slice A0_1 l0_1.length c0_1) := (blk_cell BK355.out 1).trans rfl
   have hfz9_0 := blk_frozen BK355.out 0
   have hfz9_1 := blk_frozen BK355.out 1
   go_wp2_with (first | ((with_reducible refine gate_callee (f := 66) rfl ?_); refine goesM_ (some 13) rfl rfl Try.func66 (by kernel_rfl) rfl #[.agg #[.int .i64 a0_0, .slice A0_1 l0_1.length c0_1], .slice A1 l1.length c1, .int .i64 a2] rfl ?_; (with_reducible refine (spec_l05Ok.calls k a0_0 _ _ l0_1 _ _ l1 a2 true _ ?side1 ?side2 ?side3 ?side4 A6.out).mono ?_); (case side1 => exact Cz ((Kd.C_below HR0_1.out HB.out))); (case side2 => exact HC0_1.out); (case side3 => exact Cz ((Kd.C_below HR1.out HB.out))); (case side4 => exact HC1.out); rintro e w10 ⟨rfl, hb⟩; refine ⟨_, rfl, ?_⟩; replace BK355 := Aside0.mk (blk_below (g := gb355) (o := .cells #[.int .i64 a0_0, .slice A0_1 l0_1.length c0_1] 25 (0, 0)) (Bz BK355) hb); replace HB := Aside0.mk (below_step (by exact Lz1 HB GE355) hb); (try clear hb); (try clear hb2); (try clear hk); (try clear hi)) | (go_at_call 67; (with_reducible refine (spec_l05Debt.calls k _ _ l1 a2 t357 _ ?side1 ?side2 A8.out).mono ?_); (case side1 => exact Cz ((Kd.C_below HR1.out HB.out))); (case side2 => exact HC1.out); rintro e w' ⟨rfl, ⟨nd, rfl⟩⟩))
   go_meet
   case rel => exact ⟨_, (t357), (by first | rfl | (simp; done) | (simp [*]; done)), H', ⟨by first | omega | exact Nat.le_refl _⟩, ⟨by exact Bz BK355⟩, ⟨by exact Lz1 HB GE355⟩⟩
  replace c7 := Bool.eq_false_iff.mpr c7
  subst c7
  have H1 : (spec_MostLegalSet.j0 k l1 a2 true a0_0 l0_1) = some r := by rw [if_neg (show ¬ (false = true) by decide)] at H; exact H
  clear H
  have H := H1
  clear H1
  have H' := Aside0.mk H
  clear H
  have hcz11_0 : w5.cell? ⟨gb355, 0, none⟩ = some (.int .i64 a0_0) := (blk_cell BK355.out 0).trans rfl
  have hcz11_1 : w5.cell? ⟨gb355, 1, none⟩ = some (.slice A0_1 l0_1.length c0_1) := (blk_cell BK355.out 1).trans rfl
  have hfz11_0 := blk_frozen BK355.out 0
  have hfz11_1 := blk_frozen BK355.out 1
  go_wp2_with (first | ((with_reducible refine gate_callee (f := 66) rfl ?_); refine goesM_ (some 13) rfl rfl Try.func66 (by kernel_rfl) rfl #[.agg #[.int .i64 a0_0, .slice A0_1 l0_1.length c0_1], .slice A1 l1.length c1, .int .i64 a2] rfl ?_; (with_reducible refine (spec_l05Ok.calls k a0_0 _ _ l0_1 _ _ l1 a2 false _ ?side1 ?side2 ?side3 ?side4 A6.out).mono ?_); (case side1 => exact Cz ((Kd.C_below HR0_1.out HB.out))); (case side2 => exact HC0_1.out); (case side3 => exact Cz ((Kd.C_below HR1.out HB.out))); (case side4 => exact HC1.out); rintro e w12 ⟨rfl, hb⟩; refine ⟨_, rfl, ?_⟩; replace BK355 := Aside0.mk (blk_below (g := gb355) (o := .cells #[.int .i64 a0_0, .slice A0_1 l0_1.length c0_1] 25 (0, 0)) (Bz BK355) hb); replace HB := Aside0.mk (below_step (by exact Lz1 HB GE355) hb); (try clear hb); (try clear hb2); (try clear hk); (try clear hi)))
  go_meet
  case rel => exact ⟨_, (true), (by first | rfl | (simp; done) | (simp [*]; done)), H', ⟨by first | omega | exact Nat.le_refl _⟩, ⟨by exact Bz BK355⟩, ⟨by exact Lz1 HB GE355⟩⟩
 case rest =>
  clear HC4
  try clear c1
  try clear c7
  obtain ⟨kq, x19_3, rfl, HA, HJ3, BK355, HB⟩ := hcut
  cases kq with
  | zero => exact absurd HA.out (by simp [spec_MostLegalSet.j0])
  | succ kj3 =>
   have H := HA.out
   clear HA
   simp only [spec_MostLegalSet.j0] at H
   by_cases c13 : x19_3 = true
   ·subst c13
    have H1 : (some ([] : List Int)) = some r := by rw [if_pos rfl] at H; exact H
    clear H
    have H := H1
    clear H1
    obtain rfl := Option.some.inj H
    go_wp2
    go_ret
    exact ⟨_, by first | rfl | (simp [errW_none, errW_some] <;> rfl) | (simp [*, errW_none, errW_some] <;> rfl), by first | exact Kd.R_nil _ _ _ _ _ | exact Kd.N_nil _ _ _ _ _ | exact Kd.V_nil _ _ _ _ _ | exact Kd.Q_nil _ _ _ _ _ | exact Kd.S_nil _ _ _ _ _, by exact Lz1 HB GE355⟩
   replace c13 := Bool.eq_false_iff.mpr c13
   subst c13
   have H1 : ((spec_l05Burn.f kj3 a0_0 l0_1 l1 a2).bind fun t358 => (spec_MostLegalSet.l0 kj3 t358 (([] : List Int)) 0 a0_0 l0_1)) = some r := by rw [if_neg (show ¬ (false = true) by decide)] at H; exact H
   clear H
   have H := H1
   clear H1
   replace H := Option.bind_eq_some_iff.mp H
   obtain ⟨t358, A140, H⟩ := H
   replace H : (spec_MostLegalSet.l0 kj3 t358 (([] : List Int)) 0 a0_0 l0_1) = some r := H
   have A14 := Aside0.mk A140
   clear A140
   obtain ⟨y361, hy361⟩ : ∃ y_ : List Int, y_ = (([] : List Int)) := ⟨_, rfl⟩
   replace H : (spec_MostLegalSet.l0 kj3 t358 y361 0 a0_0 l0_1) = some r := by first | (rw [hy361]; with_reducible exact H) | (have H2_ := (Option.bind_some _ _).symm.trans H; rw [hy361]; with_reducible exact H2_) | (have H2_ := (Option.bind_some _ _).symm.trans H; with_reducible exact H2_) | with_reducible exact H | (rw [hy361]; exact H) | exact H
   have Ny361 := Aside0.mk hy361
   clear hy361
   have H' := Aside0.mk H
   clear H
   have hcz15_0 : wc.cell? ⟨gb355, 0, none⟩ = some (.int .i64 a0_0) := (blk_cell BK355.out 0).trans rfl
   have hcz15_1 : wc.cell? ⟨gb355, 1, none⟩ = some (.slice A0_1 l0_1.length c0_1) := (blk_cell BK355.out 1).trans rfl
   have hfz15_0 := blk_frozen BK355.out 0
   have hfz15_1 := blk_frozen BK355.out 1
   go_wp2_with (first | ((with_reducible refine gate_callee (f := 68) rfl ?_); refine goesM_ (some 23) rfl rfl Try.func68 (by kernel_rfl) rfl #[.agg #[.int .i64 a0_0, .slice A0_1 l0_1.length c0_1], .slice A1 l1.length c1, .int .i64 a2] rfl ?_; (with_reducible refine (spec_l05Burn.calls kj3 a0_0 _ _ l0_1 _ _ l1 a2 t358 _ ?side1 ?side2 ?side3 ?side4 A14.out).mono ?_); (case side1 => exact Cz ((Kd.C_below HR0_1.out HB.out))); (case side2 => exact HC0_1.out); (case side3 => exact Cz ((Kd.C_below HR1.out HB.out))); (case side4 => exact HC1.out); rintro e w16 ⟨v359, rfl, ho0, hb⟩; refine ⟨_, rfl, ?_⟩; have HO360 := Aside0.mk (Kd.R_lower ho0 (below_size (by exact Lz1 HB GE355))); replace BK355 := Aside0.mk (blk_below (g := gb355) (o := .cells #[.int .i64 a0_0, .slice A0_1 l0_1.length c0_1] 25 (0, 0)) (Bz BK355) hb); replace HB := Aside0.mk (below_step (by exact Lz1 HB GE355) hb); (try clear hb); (try clear ho0)) | ((with_reducible refine gate_dst (N := 24) rfl ?_); refine Kd.R_lit (Kd.int .i64) _ 3 ?hg (N := 24) ?hd (xs := ([] : List Int)) (inner := []) (ok := fun _ => True) (okp := fun _ => True) ?hr ?hp (fun _ hk => hk) trivial (Below.refl _ _) (Nat.le_refl _) (by simp) ?_; (case hd => rfl); (case hg => rfl); (case hr => first | (go_simp; done) | (go_simp; rfl)); (case hp => exact (Reps.none _ _)); intro v362 w17 ho18 hb hg_ hnew_; clear hg_ hnew_; (first | rw [← Ny361.out] at ho18 | (simp only [Int.reduceToNat] at ho18; rw [← Ny361.out] at ho18)); have HO363 := Aside0.mk (Kd.R_lower (Kd.R_new' ho18 (Kd.R_lt (Rz HO360))) (below_size (by exact Lz1 HB GE355))); replace HO360 := Aside0.mk (Kd.R_elder' (Rz HO360) (Kd.R_base ho18) hb); replace BK355 := Aside0.mk (blk_below (g := gb355) (o := .cells #[.int .i64 a0_0, .slice A0_1 l0_1.length c0_1] 25 (0, 0)) (Bz BK355) hb); replace HB := Aside0.mk (below_step (by exact Lz1 HB GE355) hb); clear hb ho18))
   go_loopg [8, 9] kj3 (fun kq v8 v9 w' => ∃ (x8_2 : List Int) (x9_2 : Int), v9 = .int .i64 x9_2 ∧ Aside0 (spec_MostLegalSet.l0 kq t358 x8_2 x9_2 a0_0 l0_1 = some r) ∧ Aside0 (kq ≤ kj3) ∧ Aside0 (Kd.R (Kd.int .i64) 3 w' w.heap.size (fun k_ => some k_ ≠ (v8 : Value).ownBlock) v359 t358) ∧ Aside0 (Kd.R (Kd.int .i64) 3 w' w.heap.size (fun k_ => some k_ ≠ (v359 : Value).ownBlock) v8 x8_2) ∧ Aside0 (w'.heap[gb355]? = some (.cells #[.int .i64 a0_0, (.slice A0_1 l0_1.length c0_1)] 25 (0, 0))) ∧ Aside0 (Below w.heap.size w w'))
   case atStart => exact ⟨(y361), (0), (by first | rfl | (simp; done) | (simp [*]; done)), H', ⟨Nat.le_refl _⟩, ⟨by (with_reducible repeat (first | apply Kd.R_alloc | apply Kd.R_drewN | apply Kd.R_drew)); exact Kd.R_mono HO360.out (fun _ hk => hk.2)⟩, ⟨by (with_reducible repeat (first | apply Kd.R_alloc | apply Kd.R_drewN | apply Kd.R_drew)); exact Kd.R_mono HO363.out (fun _ hk => hk.2)⟩, ⟨by exact Bz BK355⟩, ⟨by exact Lz1 HB GE355⟩⟩
   case round =>
    clear H'
    try clear c1
    try clear c7
    try clear c13
    obtain ⟨x8_2, x9_2, rfl, HA, HK2, HO_7, HO_8, BK355, HB⟩ := hrel
    cases gk with
    | zero => exact absurd HA.out (by simp [spec_MostLegalSet.l0])
    | succ k2 =>
     have H := HA.out
     clear HA
     simp only [spec_MostLegalSet.l0] at H
     by_cases c19 : x9_2 < a0_0
     ·rw [if_pos c19] at H
      have c19b0 : decide (x9_2 < a0_0) = true := decide_eq_true c19
      clear c19
      replace H := Option.bind_eq_some_iff.mp H
      obtain ⟨t364, A200, H⟩ := H
      replace H : (if t364 = true then (spec_MostLegalSet.l0 k2 t358 x8_2 (wrap64 (x9_2 + 1)) a0_0 l0_1) else (if x8_2.length < 17592186044416 then (spec_MostLegalSet.l0 k2 t358 (x8_2 ++ [x9_2]) (wrap64 (x9_2 + 1)) a0_0 l0_1) else (none))) = some r := H
      have A20 := Aside0.mk A200
      clear A200
      by_cases c21 : t364 = true
      ·subst c21
       have H1 : (spec_MostLegalSet.l0 k2 t358 x8_2 (wrap64 (x9_2 + 1)) a0_0 l0_1) = some r := by rw [if_pos rfl] at H; exact H
       clear H
       have H := H1
       clear H1
       have H' := Aside0.mk H
       clear H
       have hcz22_0 : wr.cell? ⟨gb355, 0, none⟩ = some (.int .i64 a0_0) := (blk_cell BK355.out 0).trans rfl
       have hcz22_1 : wr.cell? ⟨gb355, 1, none⟩ = some (.slice A0_1 l0_1.length c0_1) := (blk_cell BK355.out 1).trans rfl
       have hfz22_0 := blk_frozen BK355.out 0
       have hfz22_1 := blk_frozen BK355.out 1
       obtain ⟨Ao23, co23, eo23⟩ := Kd.R_slice HO_7.out
       subst eo23
       go_wp2_with (first | ((with_reducible refine gate_callee (f := 69) rfl ?_); refine goesM_ (some 33) rfl rfl Try.func69 (by kernel_rfl) rfl #[.slice Ao23 t358.length co23, .int .i64 x9_2] rfl ?_; (with_reducible refine (spec_l02Has.calls k2 _ _ t358 x9_2 true _ ?side1 ?side2 A20.out).mono ?_); (case side1 => exact Cz ((Kd.R_reads' HO_7.out).2.2)); (case side2 => exact (Kd.R_reads' HO_7.out).2.1); rintro e w' ⟨rfl, ⟨nd, rfl⟩⟩; refine ⟨_, rfl, ?_⟩))
       go_roundg k2
       case measure => have := HJ3.out; have := HK2.out; omega
       case rel => exact ⟨(x8_2), (wrap64 (x9_2 + 1)), (by first | rfl | (simp; done) | (simp [*]; done)), H', ⟨by have := HJ3.out; have := HK2.out; omega⟩, ⟨by exact Rz HO_7⟩, ⟨by exact Rz HO_8⟩, ⟨by exact Bz BK355⟩, ⟨by exact Lz1 HB GE355⟩⟩
      replace c21 := Bool.eq_false_iff.mpr c21
      subst c21
      have H1 : (if x8_2.length < 17592186044416 then (spec_MostLegalSet.l0 k2 t358 (x8_2 ++ [x9_2]) (wrap64 (x9_2 + 1)) a0_0 l0_1) else (none)) = some r := by rw [if_neg (show ¬ (false = true) by decide)] at H; exact H
      clear H
      have H := H1
      clear H1
      by_cases c24 : x8_2.length < 17592186044416
      ·rw [if_pos c24] at H
       have LMc24 := Aside0.mk c24
       clear c24
       obtain ⟨y365, hy365⟩ : ∃ y_ : List Int, y_ = (x8_2 ++ [x9_2]) := ⟨_, rfl⟩
       replace H : (spec_MostLegalSet.l0 k2 t358 y365 (wrap64 (x9_2 + 1)) a0_0 l0_1) = some r := by first | (rw [hy365]; with_reducible exact H) | (have H2_ := (Option.bind_some _ _).symm.trans H; rw [hy365]; with_reducible exact H2_) | (have H2_ := (Option.bind_some _ _).symm.trans H; with_reducible exact H2_) | with_reducible exact H | (rw [hy365]; exact H) | exact H
       have Ny365 := Aside0.mk hy365
       clear hy365
       have H' := Aside0.mk H
       clear H
       have hcz25_0 : wr.cell? ⟨gb355, 0, none⟩ = some (.int .i64 a0_0) := (blk_cell BK355.out 0).trans rfl
       have hcz25_1 : wr.cell? ⟨gb355, 1, none⟩ = some (.slice A0_1 l0_1.length c0_1) := (blk_cell BK355.out 1).trans rfl
       have hfz25_0 := blk_frozen BK355.out 0
       have hfz25_1 := blk_frozen BK355.out 1
       obtain ⟨Ao26, co26, eo26⟩ := Kd.R_slice HO_7.out
       subst eo26
       go_wp2_with (first | ((with_reducible refine gate_callee (f := 69) rfl ?_); refine goesM_ (some 33) rfl rfl Try.func69 (by kernel_rfl) rfl #[.slice Ao26 t358.length co26, .int .i64 x9_2] rfl ?_; (with_reducible refine (spec_l02Has.calls k2 _ _ t358 x9_2 false _ ?side1 ?side2 A20.out).mono ?_); (case side1 => exact Cz ((Kd.R_reads' HO_7.out).2.2)); (case side2 => exact (Kd.R_reads' HO_7.out).2.1); rintro e w' ⟨rfl, ⟨nd, rfl⟩⟩; refine ⟨_, rfl, ?_⟩) | ((with_reducible refine gate_builtin (b := .append) (xs := #[.tmp 35, .tmp 37]) rfl ?_); at_builtin; refine Kd.R_append (Kd.int .i64) (w0 := w) w.heap.size rfl (.tmp 35) (.tmp 37) 27 3 (.int .i64 0) 8 rfl Try.underlying27 info3 rfl (by decide) (by omega) u8 x8_2 x9_2 [.int .i64 x9_2] (fun k_ => some k_ ≠ (.slice Ao26 t358.length co26 : Value).ownBlock) (fun _ => False) rfl rfl ?aP (fun _ hk => hk.elim) ?aF ?aO ?aB ?aS ?aL ?_; (case aP => exact rfl); (case aB => exact (by exact Lz1 HB GE355)); (case aF => exact (fun k_ hk => Kd.fresh' (Kd.R_lt (Rz HO_7)) k_ hk)); (case aO => exact (Rz HO_8)); (case aS => exact (below_size (by exact Lz1 HB GE355))); (case aL => have := LMc24.out; omega); intro v366 w27 ho hb hg hat; rw [← Ny365.out] at ho; replace HO_7 := Aside0.mk (Kd.R_after (ok := (fun _ => True)) (by (with_reducible repeat (first | apply Kd.R_alloc | apply Kd.R_drewN | apply Kd.R_drew)); exact Kd.R_mono HO_7.out (fun _ hk => ⟨trivial, hk⟩)) hg hat); replace BK355 := Aside0.mk (blk_grown (g := gb355) (o := .cells #[.int .i64 a0_0, .slice A0_1 l0_1.length c0_1] 25 (0, 0)) (Bz BK355) hg (Kd.R_ne HO_8.out BK355.out (by decide))); replace HB := Aside0.mk (hb); have HO367 := Aside0.mk (ho); clear HO_8; clear ho hb hg hat))
       go_roundg k2
       case measure => have := HJ3.out; have := HK2.out; omega
       case rel => exact ⟨(y365), (wrap64 (x9_2 + 1)), (by first | rfl | (simp; done) | (simp [*]; done)), H', ⟨by have := HJ3.out; have := HK2.out; omega⟩, ⟨by (with_reducible repeat (first | apply Kd.R_alloc | apply Kd.R_drewN | apply Kd.R_drew)); exact Kd.R_mono HO_7.out (fun _ hk => hk.2)⟩, ⟨by exact Rz HO367⟩, ⟨by exact Bz BK355⟩, ⟨by exact Lz1 HB GE355⟩⟩
      rw [if_neg c24] at H
      exact absurd H (by simp)
     rw [if_neg c19] at H
     have c19b0 : decide (x9_2 < a0_0) = false := decide_eq_false c19
     clear c19
     obtain rfl := Option.some.inj H
     have hcz28_0 : wr.cell? ⟨gb355, 0, none⟩ = some (.int .i64 a0_0) := (blk_cell BK355.out 0).trans rfl
     have hcz28_1 : wr.cell? ⟨gb355, 1, none⟩ = some (.slice A0_1 l0_1.length c0_1) := (blk_cell BK355.out 1).trans rfl
     have hfz28_0 := blk_frozen BK355.out 0
     have hfz28_1 := blk_frozen BK355.out 1
     go_wp2
     go_ret
     exact ⟨_, by first | rfl | (simp [errW_none, errW_some] <;> rfl) | (simp [*, errW_none, errW_some] <;> rfl), by (with_reducible repeat (first | apply Kd.R_alloc | apply Kd.R_drewN | apply Kd.R_drew)); exact Kd.R_mono HO_8.out (fun _ hk => trivial), by exact Lz1 HB GE355⟩

/-! ### impl_BurnFrom: function 71 -/
def impl_BurnFrom.f (k : Nat) (a0_0 : Int) (l0_1 : List (S70)) (l1 : List Int) (a2 : Int) : Option (List Int × Bool) := (impl_DivisorOk.f k a0_0 l0_1 l1).bind fun t406 => (if t406 = true then ((impl_isVertex.f k a0_0 l0_1 a2).bind fun t407 => (if t407 = true then ((impl_burn.f k a0_0 l0_1 l1 a2).bind fun t408 => (some (t408, true))) else (some (([] : List Int), false)))) else (some (([] : List Int), false)))
set_option maxHeartbeats 8000000 in
set_option maxRecDepth 100000 in
theorem impl_BurnFrom.calls (k : Nat) (a0_0 : Int) (A0_1 : Option Addr) (c0_1 : Nat) (l0_1 : List (S70)) (A1 : Option Addr) (c1 : Nat) (l1 : List Int) (a2 : Int) (r1 : List Int) (r2 : Bool) (w : World) (hr0_1 : Kd.C k70 w A0_1 l0_1.length l0_1) (hc0_1 : l0_1.length ≤ c0_1) (hr1 : Kd.C (Kd.int .i64) w A1 l1.length l1) (hc1 : l1.length ≤ c1) (h : impl_BurnFrom.f k a0_0 l0_1 l1 a2 = some (r1, r2)) :
  Calls Try.prog 71 #[.agg #[.int .i64 a0_0, .slice A0_1 l0_1.length c0_1], .slice A1 l1.length c1, .int .i64 a2] w fun e w' => ∃ v0_ : Value, e = .returned (.tuple #[v0_, .bool r2]) ∧ Kd.R (Kd.int .i64) 3 w' w.heap.size (fun _ => True) v0_ r1 ∧ Below w.heap.size w w' := by
 have hu25 := Try.underlying25
 have HR0_1 := Aside0.mk hr0_1
 have HC0_1 := Aside0.mk hc0_1
 clear hr0_1 hc0_1
 have HR1 := Aside0.mk hr1
 have HC1 := Aside0.mk hc1
 clear hr1 hc1
 have HB := Aside0.mk (Below.refl w.heap.size w)
 have H : ((impl_DivisorOk.f k a0_0 l0_1 l1).bind fun t406 => (if t406 = true then ((impl_isVertex.f k a0_0 l0_1 a2).bind fun t407 => (if t407 = true then ((impl_burn.f k a0_0 l0_1 l1 a2).bind fun t408 => (some (t408, true))) else (some (([] : List Int), false)))) else (some (([] : List Int), false)))) = some (r1, r2) := h
 clear h
 replace H := Option.bind_eq_some_iff.mp H
 obtain ⟨t406, A40, H⟩ := H
 replace H : (if t406 = true then ((impl_isVertex.f k a0_0 l0_1 a2).bind fun t407 => (if t407 = true then ((impl_burn.f k a0_0 l0_1 l1 a2).bind fun t408 => (some (t408, true))) else (some (([] : List Int), false)))) else (some (([] : List Int), false))) = some (r1, r2) := H
 have A4 := Aside0.mk A40
 clear A40
 by_cases c5 : t406 = true
 ·subst c5
  have H1 : ((impl_isVertex.f k a0_0 l0_1 a2).bind fun t407 => (if t407 = true then ((impl_burn.f k a0_0 l0_1 l1 a2).bind fun t408 => (some (t408, true))) else (some (([] : List Int), false)))) = some (r1, r2) := by rw [if_pos rfl] at H; exact H
  clear H
  have H := H1
  clear H1
  replace H := Option.bind_eq_some_iff.mp H
  obtain ⟨t407, A60, H⟩ := H
  replace H : (if t407 = true then ((impl_burn.f k a0_0 l0_1 l1 a2).bind fun t408 => (some (t408, true))) else (some (([] : List Int), false))) = some (r1, r2) := H
  have A6 := Aside0.mk A60
  clear A60
  by_cases c7 : t407 = true
  ·subst c7
   have H1 : ((impl_burn.f k a0_0 l0_1 l1 a2).bind fun t408 => (some (t408, true))) = some (r1, r2) := by rw [if_pos rfl] at H; exact H
   clear H
   have H := H1
   clear H1
   replace H := Option.bind_eq_some_iff.mp H
   obtain ⟨t408, A80, H⟩ := H
   replace H : (some (t408, true)) = some (r1, r2) := H
   have A8 := Aside0.mk A80
   clear A80
   simp only [Option.some.injEq, Prod.mk.injEq] at H
   obtain ⟨rfl, rfl⟩ := H
   go_enter Try.func71, Try.ntmps71
   go_wp2_with (first | ((with_reducible refine gate_dst (N := 3) rfl ?_); refine box_event ?hg (N := 3) ?hd (cs := #[.int .i64 a0_0, .slice A0_1 l0_1.length c0_1]) (t := 25) ?hr ?_; (case hd => rfl); (case hg => rfl); (case hr => first | (go_simp; done) | (go_simp; rfl)); intro gb405 hg w9 hbox hb; have BK405 := Aside0.mk (hbox); have GW405 := Aside0.mk ((by rw [hg]; exact (below_size (Lz HB)) : w.heap.size ≤ gb405)); have GE405 := Aside0.mk ((by rw [hg]; exact (below_size (Lz HB)) : w.heap.size ≤ gb405)); replace HB := Aside0.mk (below_step (Lz HB) hb); clear hb hbox hg; have hcz10_0 : w9.cell? ⟨gb405, 0, none⟩ = some (.int .i64 a0_0) := (blk_cell BK405.out 0).trans rfl; have hcz10_1 : w9.cell? ⟨gb405, 1, none⟩ = some (.slice A0_1 l0_1.length c0_1) := (blk_cell BK405.out 1).trans rfl; have hfz10_0 := blk_frozen BK405.out 0; have hfz10_1 := blk_frozen BK405.out 1) | ((with_reducible refine gate_callee (f := 85) rfl ?_); refine goesM_ (some 10) rfl rfl Try.func85 (by kernel_rfl) rfl #[.agg #[.int .i64 a0_0, .slice A0_1 l0_1.length c0_1], .slice A1 l1.length c1] rfl ?_; (with_reducible refine (impl_DivisorOk.calls k a0_0 _ _ l0_1 _ _ l1 true _ ?side1 ?side2 ?side3 ?side4 A4.out).mono ?_); (case side1 => exact Cz ((Kd.C_below HR0_1.out HB.out))); (case side2 => exact HC0_1.out); (case side3 => exact Cz ((Kd.C_below HR1.out HB.out))); (case side4 => exact HC1.out); rintro e w11 ⟨rfl, hb⟩; refine ⟨_, rfl, ?_⟩; replace BK405 := Aside0.mk (blk_below (g := gb405) (o := .cells #[.int .i64 a0_0, .slice A0_1 l0_1.length c0_1] 25 (0, 0)) (Bz BK405) hb); replace HB := Aside0.mk (below_step (by exact Lz1 HB GE405) hb); (try clear hb); (try clear hb2); (try clear hk); (try clear hi); have hcz12_0 : w11.cell? ⟨gb405, 0, none⟩ = some (.int .i64 a0_0) := (blk_cell BK405.out 0).trans rfl; have hcz12_1 : w11.cell? ⟨gb405, 1, none⟩ = some (.slice A0_1 l0_1.length c0_1) := (blk_cell BK405.out 1).trans rfl; have hfz12_0 := blk_frozen BK405.out 0; have hfz12_1 := blk_frozen BK405.out 1) | (go_at_call 81; (with_reducible refine (impl_isVertex.calls k a0_0 _ _ l0_1 a2 true _ ?side1 ?side2 A6.out).mono ?_); (case side1 => exact Cz ((Kd.C_below HR0_1.out HB.out))); (case side2 => exact HC0_1.out); rintro e w13 ⟨rfl, hb⟩; replace BK405 := Aside0.mk (blk_below (g := gb405) (o := .cells #[.int .i64 a0_0, .slice A0_1 l0_1.length c0_1] 25 (0, 0)) (Bz BK405) hb); replace HB := Aside0.mk (below_step (by exact Lz1 HB GE405) hb); (try clear hb); (try clear hb2); (try clear hk); (try clear hi); have hcz14_0 : w13.cell? ⟨gb405, 0, none⟩ = some (.int .i64 a0_0) := (blk_cell BK405.out 0).trans rfl; have hcz14_1 : w13.cell? ⟨gb405, 1, none⟩ = some (.slice A0_1 l0_1.length c0_1) := (blk_cell BK405.out 1).trans rfl; have hfz14_0 := blk_frozen BK405.out 0; have hfz14_1 := blk_frozen BK405.out 1) | ((with_reducible refine gate_callee (f := 99) rfl ?_); refine goesM_ (some 21) rfl rfl Try.func99 (by kernel_rfl) rfl #[.agg #[.int .i64 a0_0, .slice A0_1 l0_1.length c0_1], .slice A1 l1.length c1, .int .i64 a2] rfl ?_; (with_reducible refine (impl_burn.calls k a0_0 _ _ l0_1 _ _ l1 a2 t408 _ ?side1 ?side2 ?side3 ?side4 A8.out).mono ?_); (case side1 => exact Cz ((Kd.C_below HR0_1.out HB.out))); (case side2 => exact HC0_1.out); (case side3 => exact Cz ((Kd.C_below HR1.out HB.out))); (case side4 => exact HC1.out); rintro e w15 ⟨v409, rfl, ho0, hb⟩; refine ⟨_, rfl, ?_⟩; have HO410 := Aside0.mk (Kd.R_lower ho0 (below_size (by exact Lz1 HB GE405))); replace BK405 := Aside0.mk (blk_below (g := gb405) (o := .cells #[.int .i64 a0_0, .slice A0_1 l0_1.length c0_1] 25 (0, 0)) (Bz BK405) hb); replace HB := Aside0.mk (below_step (by exact Lz1 HB GE405) hb); (try clear hb); (try clear ho0)))
   go_ret2
   exact ⟨_, by first | rfl | (simp [errW_none, errW_some] <;> rfl) | (simp [*, errW_none, errW_some] <;> rfl), by exact Rz HO410, by exact Lz1 HB GE405⟩
  replace c7 := Bool.eq_false_iff.mpr c7
  subst c7
  have H1 : (some (([] : List Int), false)) = some (r1, r2) := by rw [if_neg (show ¬ (false = true) by decide)] at H; exact H
  clear H
  have H := H1
  clear H1
  simp only [Option.some.injEq, Prod.mk.injEq] at H
  obtain ⟨rfl, rfl⟩ := H
  go_enter Try.func71, Try.ntmps71
  go_wp2_with (first | ((with_reducible refine gate_dst (N := 3) rfl ?_); refine box_event ?hg (N := 3) ?hd (cs := #[.int .i64 a0_0, .slice A0_1 l0_1.length c0_1]) (t := 25) ?hr ?_; (case hd => rfl); (case hg => rfl); (case hr => first | (go_simp; done) | (go_simp; rfl)); intro gb405 hg w16 hbox hb; have BK405 := Aside0.mk (hbox); have GW405 := Aside0.mk ((by rw [hg]; exact (below_size (Lz HB)) : w.heap.size ≤ gb405)); have GE405 := Aside0.mk ((by rw [hg]; exact (below_size (Lz HB)) : w.heap.size ≤ gb405)); replace HB := Aside0.mk (below_step (Lz HB) hb); clear hb hbox hg; have hcz17_0 : w16.cell? ⟨gb405, 0, none⟩ = some (.int .i64 a0_0) := (blk_cell BK405.out 0).trans rfl; have hcz17_1 : w16.cell? ⟨gb405, 1, none⟩ = some (.slice A0_1 l0_1.length c0_1) := (blk_cell BK405.out 1).trans rfl; have hfz17_0 := blk_frozen BK405.out 0; have hfz17_1 := blk_frozen BK405.out 1) | ((with_reducible refine gate_callee (f := 85) rfl ?_); refine goesM_ (some 10) rfl rfl Try.func85 (by kernel_rfl) rfl #[.agg #[.int .i64 a0_0, .slice A0_1 l0_1.length c0_1], .slice A1 l1.length c1] rfl ?_; (with_reducible refine (impl_DivisorOk.calls k a0_0 _ _ l0_1 _ _ l1 true _ ?side1 ?side2 ?side3 ?side4 A4.out).mono ?_); (case side1 => exact Cz ((Kd.C_below HR0_1.out HB.out))); (case side2 => exact HC0_1.out); (case side3 => exact Cz ((Kd.C_below HR1.out HB.out))); (case side4 => exact HC1.out); rintro e w18 ⟨rfl, hb⟩; refine ⟨_, rfl, ?_⟩; replace BK405 := Aside0.mk (blk_below (g := gb405) (o := .cells #[.int .i64 a0_0, .slice A0_1 l0_1.length c0_1] 25 (0, 0)) (Bz BK405) hb); replace HB := Aside0.mk (below_step (by exact Lz1 HB GE405) hb); (try clear hb); (try clear hb2); (try clear hk); (try clear hi); have hcz19_0 : w18.cell? ⟨gb405, 0, none⟩ = some (.int .i64 a0_0) := (blk_cell BK405.out 0).trans rfl; have hcz19_1 : w18.cell? ⟨gb405, 1, none⟩ = some (.slice A0_1 l0_1.length c0_1) := (blk_cell BK405.out 1).trans rfl; have hfz19_0 := blk_frozen BK405.out 0; have hfz19_1 := blk_frozen BK405.out 1) | (go_at_call 81; (with_reducible refine (impl_isVertex.calls k a0_0 _ _ l0_1 a2 false _ ?side1 ?side2 A6.out).mono ?_); (case side1 => exact Cz ((Kd.C_below HR0_1.out HB.out))); (case side2 => exact HC0_1.out); rintro e w20 ⟨rfl, hb⟩; replace BK405 := Aside0.mk (blk_below (g := gb405) (o := .cells #[.int .i64 a0_0, .slice A0_1 l0_1.length c0_1] 25 (0, 0)) (Bz BK405) hb); replace HB := Aside0.mk (below_step (by exact Lz1 HB GE405) hb); (try clear hb); (try clear hb2); (try clear hk); (try clear hi)))
  go_ret2
  exact ⟨_, by first | rfl | (simp [errW_none, errW_some] <;> rfl) | (simp [*, errW_none, errW_some] <;> rfl), by first | exact Kd.R_nil _ _ _ _ _ | exact Kd.N_nil _ _ _ _ _ | exact Kd.V_nil _ _ _ _ _ | exact Kd.Q_nil _ _ _ _ _ | exact Kd.S_nil _ _ _ _ _, by exact Lz1 HB GE405⟩
 replace c5 := Bool.eq_false_iff.mpr c5
 subst c5
 have H1 : (some (([] : List Int), false)) = some (r1, r2) := by rw [if_neg (show ¬ (false = true) by decide)] at H; exact H
 clear H
 have H := H1
 clear H1
 simp only [Option.some.injEq, Prod.mk.injEq] at H
 obtain ⟨rfl, rfl⟩ := H
 go_enter Try.func71, Try.ntmps71
 go_wp2_with (first | ((with_reducible refine gate_dst (N := 3) rfl ?_); refine box_event ?hg (N := 3) ?hd (cs := #[.int .i64 a0_0, .slice A0_1 l0_1.length c0_1]) (t := 25) ?hr ?_; (case hd => rfl); (case hg => rfl); (case hr => first | (go_simp; done) | (go_simp; rfl)); intro gb405 hg w21 hbox hb; have BK405 := Aside0.mk (hbox); have GW405 := Aside0.mk ((by rw [hg]; exact (below_size (Lz HB)) : w.heap.size ≤ gb405)); have GE405 := Aside0.mk ((by rw [hg]; exact (below_size (Lz HB)) : w.heap.size ≤ gb405)); replace HB := Aside0.mk (below_step (Lz HB) hb); clear hb hbox hg; have hcz22_0 : w21.cell? ⟨gb405, 0, none⟩ = some (.int .i64 a0_0) := (blk_cell BK405.out 0).trans rfl; have hcz22_1 : w21.cell? ⟨gb405, 1, none⟩ = some (.slice A0_1 l0_1.length c0_1) := (blk_cell BK405.out 1).trans rfl; have hfz22_0 := blk_frozen BK405.out 0; have hfz22_1 := blk_frozen BK405.out 1) | ((with_reducible refine gate_callee (f := 85) rfl ?_); refine goesM_ (some 10) rfl rfl Try.func85 (by kernel_rfl) rfl #[.agg #[.int .i64 a0_0, .slice A0_1 l0_1.length c0_1], .slice A1 l1.length c1] rfl ?_; (with_reducible refine (impl_DivisorOk.calls k a0_0 _ _ l0_1 _ _ l1 false _ ?side1 ?side2 ?side3 ?side4 A4.out).mono ?_); (case side1 => exact Cz ((Kd.C_below HR0_1.out HB.out))); (case side2 => exact HC0_1.out); (case side3 => exact Cz ((Kd.C_below HR1.out HB.out))); (case side4 => exact HC1.out); rintro e w23 ⟨rfl, hb⟩; refine ⟨_, rfl, ?_⟩; replace BK405 := Aside0.mk (blk_below (g := gb405) (o := .cells #[.int .i64 a0_0, .slice A0_1 l0_1.length c0_1] 25 (0, 0)) (Bz BK405) hb); replace HB := Aside0.mk (below_step (by exact Lz1 HB GE405) hb); (try clear hb); (try clear hb2); (try clear hk); (try clear hi)))
 go_ret2
 exact ⟨_, by first | rfl | (simp [errW_none, errW_some] <;> rfl) | (simp [*, errW_none, errW_some] <;> rfl), by first | exact Kd.R_nil _ _ _ _ _ | exact Kd.N_nil _ _ _ _ _ | exact Kd.V_nil _ _ _ _ _ | exact Kd.Q_nil _ _ _ _ _ | exact Kd.S_nil _ _ _ _ _, by exact Lz1 HB GE405⟩

/-! ### impl_MostLegalSet: function 27 -/
mutual
def impl_MostLegalSet.j0 : Nat → List Int → List Int → Bool → Option (List Int)
 | 0, _, _, _ => none
 | k + 1, x1, x7, x25 => if x25 = true then (some ([] : List Int)) else (impl_MostLegalSet.l0 k x7 ([] : List Int) (x1.length : Int) 0)
def impl_MostLegalSet.l0 : Nat → List Int → List Int → Int → Int → Option (List Int)
 | 0, _, _, _, _ => none
 | k + 1, x7, x9, x27, x28 => if x28 < x27 then ((slices_Contains_int_int.f k x7 x28).bind fun t418 => (if t418 = true then (impl_MostLegalSet.l0 k x7 x9 x27 (wrap64 (x28 + 1))) else (if x9.length < 17592186044416 then (impl_MostLegalSet.l0 k x7 (x9 ++ [x28]) x27 (wrap64 (x28 + 1))) else (none)))) else (some x9)
end
def impl_MostLegalSet.f (k : Nat) (a0_0 : Int) (l0_1 : List (S70)) (l1 : List Int) (a2 : Int) : Option (List Int) := (impl_BurnFrom.f k a0_0 l0_1 l1 a2).bind fun bt413 => (if bt413.2 = true then ((impl_inDebt.f k l1 a2).bind fun t417 => (impl_MostLegalSet.j0 k l1 bt413.1 (decide (t417 ≥ 0)))) else (impl_MostLegalSet.j0 k l1 bt413.1 true))
set_option maxHeartbeats 8000000 in
set_option maxRecDepth 100000 in
theorem impl_MostLegalSet.calls (k : Nat) (a0_0 : Int) (A0_1 : Option Addr) (c0_1 : Nat) (l0_1 : List (S70)) (A1 : Option Addr) (c1 : Nat) (l1 : List Int) (a2 : Int) (r : List Int) (w : World) (hr0_1 : Kd.C k70 w A0_1 l0_1.length l0_1) (hc0_1 : l0_1.length ≤ c0_1) (hr1 : Kd.C (Kd.int .i64) w A1 l1.length l1) (hc1 : l1.length ≤ c1) (h : impl_MostLegalSet.f k a0_0 l0_1 l1 a2 = some r) :
  Calls Try.prog 27 #[.agg #[.int .i64 a0_0, .slice A0_1 l0_1.length c0_1], .slice A1 l1.length c1, .int .i64 a2] w fun e w' => ∃ v0_ : Value, e = .returned (v0_) ∧ Kd.R (Kd.int .i64) 3 w' w.heap.size (fun _ => True) v0_ r ∧ Below w.heap.size w w' := by
 have hu25 := Try.underlying25
 have HR0_1 := Aside0.mk hr0_1
 have HC0_1 := Aside0.mk hc0_1
 clear hr0_1 hc0_1
 have HR1 := Aside0.mk hr1
 have HC1 := Aside0.mk hc1
 clear hr1 hc1
 have HB := Aside0.mk (Below.refl w.heap.size w)
 have H : ((impl_BurnFrom.f k a0_0 l0_1 l1 a2).bind fun bt413 => (if bt413.2 = true then ((impl_inDebt.f k l1 a2).bind fun t417 => (impl_MostLegalSet.j0 k l1 bt413.1 (decide (t417 ≥ 0)))) else (impl_MostLegalSet.j0 k l1 bt413.1 true))) = some r := h
 clear h
 replace H := Option.bind_eq_some_iff.mp H
 obtain ⟨⟨t413, t416⟩, A40, H⟩ := H
 replace H : (if t416 = true then ((impl_inDebt.f k l1 a2).bind fun t417 => (impl_MostLegalSet.j0 k l1 t413 (decide (t417 ≥ 0)))) else (impl_MostLegalSet.j0 k l1 t413 true)) = some r := H
 have A4 := Aside0.mk A40
 clear A40
 have HC5 := Aside0.mk H
 clear H
 go_enter Try.func27, Try.ntmps27
 go_upto_region 2 with (first | ((with_reducible refine gate_dst (N := 3) rfl ?_); refine box_event ?hg (N := 3) ?hd (cs := #[.int .i64 a0_0, .slice A0_1 l0_1.length c0_1]) (t := 25) ?hr ?_; (case hd => rfl); (case hg => rfl); (case hr => first | (go_simp; done) | (go_simp; rfl)); intro gb412 hg w6 hbox hb; have BK412 := Aside0.mk (hbox); have GW412 := Aside0.mk ((by rw [hg]; exact (below_size (Lz HB)) : w.heap.size ≤ gb412)); have GE412 := Aside0.mk ((by rw [hg]; exact (below_size (Lz HB)) : w.heap.size ≤ gb412)); replace HB := Aside0.mk (below_step (Lz HB) hb); clear hb hbox hg; have hcz7_0 : w6.cell? ⟨gb412, 0, none⟩ = some (.int .i64 a0_0) := (blk_cell BK412.out 0).trans rfl; have hcz7_1 : w6.cell? ⟨gb412, 1, none⟩ = some (.slice A0_1 l0_1.length c0_1) := (blk_cell BK412.out 1).trans rfl; have hfz7_0 := blk_frozen BK412.out 0; have hfz7_1 := blk_frozen BK412.out 1) | ((with_reducible refine gate_callee (f := 71) rfl ?_); refine goesM_ (some 15) rfl rfl Try.func71 (by kernel_rfl) rfl #[.agg #[.int .i64 a0_0, .slice A0_1 l0_1.length c0_1], .slice A1 l1.length c1, .int .i64 a2] rfl ?_; (with_reducible refine (impl_BurnFrom.calls k a0_0 _ _ l0_1 _ _ l1 a2 t413 t416 _ ?side1 ?side2 ?side3 ?side4 A4.out).mono ?_); (case side1 => exact Cz ((Kd.C_below HR0_1.out HB.out))); (case side2 => exact HC0_1.out); (case side3 => exact Cz ((Kd.C_below HR1.out HB.out))); (case side4 => exact HC1.out); rintro e w8 ⟨v414, rfl, ho0, hb⟩; refine ⟨_, rfl, ?_⟩; have HO415 := Aside0.mk (Kd.R_lower ho0 (below_size (by exact Lz1 HB GE412))); replace BK412 := Aside0.mk (blk_below (g := gb412) (o := .cells #[.int .i64 a0_0, .slice A0_1 l0_1.length c0_1] 25 (0, 0)) (Bz BK412) hb); replace HB := Aside0.mk (below_step (by exact Lz1 HB GE412) hb); (try clear hb); (try clear ho0)))
 (try simp only [Act.put, List.setIfInBounds_toArray, List.set_cons_zero, List.set_cons_succ])
 go_cut [25] (fun v25 wc => ∃ (kq : Nat) (x25_4 : Bool), v25 = .bool x25_4 ∧ Aside0 (impl_MostLegalSet.j0 kq l1 t413 x25_4 = some r) ∧ Aside0 (kq ≤ k) ∧ Aside0 (Kd.R (Kd.int .i64) 3 wc w.heap.size (fun _ => True) v414 t413) ∧ Aside0 (wc.heap[gb412]? = some (.cells #[.int .i64 a0_0, (.slice A0_1 l0_1.length c0_1)] 25 (0, 0))) ∧ Aside0 (Below w.heap.size w wc))
 case first =>
  have H := HC5.out
  clear HC5
  by_cases c9 : t416 = true
  ·subst c9
   have H1 : ((impl_inDebt.f k l1 a2).bind fun t417 => (impl_MostLegalSet.j0 k l1 t413 (decide (t417 ≥ 0)))) = some r := by rw [if_pos rfl] at H; exact H
   clear H
   have H := H1
   clear H1
   replace H := Option.bind_eq_some_iff.mp H
   obtain ⟨t417, A100, H⟩ := H
   replace H : (impl_MostLegalSet.j0 k l1 t413 (decide (t417 ≥ 0))) = some r := H
   have A10 := Aside0.mk A100
   clear A100
   have H' := Aside0.mk H
   clear H
   go_wp2_with (first | (go_at_call 72; (with_reducible refine (impl_inDebt.calls k _ _ l1 a2 t417 _ ?side1 ?side2 A10.out).mono ?_); (case side1 => exact Cz ((Kd.C_below HR1.out HB.out))); (case side2 => exact HC1.out); rintro e w' ⟨rfl, ⟨nd, rfl⟩⟩))
   go_meet
   case rel => exact ⟨_, (decide (t417 ≥ 0)), (by first | rfl | (simp; done) | (simp [*]; done)), H', ⟨by first | omega | exact Nat.le_refl _⟩, ⟨by exact Rz HO415⟩, ⟨by exact Bz BK412⟩, ⟨by exact Lz1 HB GE412⟩⟩
  replace c9 := Bool.eq_false_iff.mpr c9
  subst c9
  have H1 : (impl_MostLegalSet.j0 k l1 t413 true) = some r := by rw [if_neg (show ¬ (false = true) by decide)] at H; exact H
  clear H
  have H := H1
  clear H1
  have H' := Aside0.mk H
  clear H
  go_wp2
  go_meet
  case rel => exact ⟨_, (true), (by first | rfl | (simp; done) | (simp [*]; done)), H', ⟨by first | omega | exact Nat.le_refl _⟩, ⟨by exact Rz HO415⟩, ⟨by exact Bz BK412⟩, ⟨by exact Lz1 HB GE412⟩⟩
 case rest =>
  clear HC5
  try clear c1
  try clear c9
  obtain ⟨kq, x25_4, rfl, HA, HJ4, HO_7, BK412, HB⟩ := hcut
  cases kq with
  | zero => exact absurd HA.out (by simp [impl_MostLegalSet.j0])
  | succ kj4 =>
   have H := HA.out
   clear HA
   simp only [impl_MostLegalSet.j0] at H
   by_cases c11 : x25_4 = true
   ·subst c11
    have H1 : (some ([] : List Int)) = some r := by rw [if_pos rfl] at H; exact H
    clear H
    have H := H1
    clear H1
    obtain rfl := Option.some.inj H
    go_wp2
    go_ret
    exact ⟨_, by first | rfl | (simp [errW_none, errW_some] <;> rfl) | (simp [*, errW_none, errW_some] <;> rfl), by first | exact Kd.R_nil _ _ _ _ _ | exact Kd.N_nil _ _ _ _ _ | exact Kd.V_nil _ _ _ _ _ | exact Kd.Q_nil _ _ _ _ _ | exact Kd.S_nil _ _ _ _ _, by exact Lz1 HB GE412⟩
   replace c11 := Bool.eq_false_iff.mpr c11
   subst c11
   have H1 : (impl_MostLegalSet.l0 kj4 t413 ([] : List Int) (l1.length : Int) 0) = some r := by rw [if_neg (show ¬ (false = true) by decide)] at H; exact H
   clear H
   have H := H1
   clear H1
   have H' := Aside0.mk H
   clear H
   go_wp2
   go_loopg [9, 28] kj4 (fun kq v9 v28 w' => ∃ (x9_2 : List Int) (x28_2 : Int), v28 = .int .i64 x28_2 ∧ Aside0 (impl_MostLegalSet.l0 kq t413 x9_2 (l1.length : Int) x28_2 = some r) ∧ Aside0 (kq ≤ kj4) ∧ Aside0 (Kd.R (Kd.int .i64) 3 w' w.heap.size (fun k_ => some k_ ≠ (v9 : Value).ownBlock) v414 t413) ∧ Aside0 (Kd.R (Kd.int .i64) 3 w' w.heap.size (fun k_ => some k_ ≠ (v414 : Value).ownBlock) v9 x9_2) ∧ Aside0 (w'.heap[gb412]? = some (.cells #[.int .i64 a0_0, (.slice A0_1 l0_1.length c0_1)] 25 (0, 0))) ∧ Aside0 (Below w.heap.size w w'))
   case atStart => exact ⟨(([] : List Int)), (0), (by first | rfl | (simp; done) | (simp [*]; done)), H', ⟨Nat.le_refl _⟩, ⟨by (with_reducible repeat (first | apply Kd.R_alloc | apply Kd.R_drewN | apply Kd.R_drew)); exact Kd.R_mono HO_7.out (fun _ hk => (by simp [Value.ownBlock]))⟩, ⟨by first | exact Kd.R_nil _ _ _ _ _ | exact Kd.N_nil _ _ _ _ _ | exact Kd.V_nil _ _ _ _ _ | exact Kd.Q_nil _ _ _ _ _ | exact Kd.S_nil _ _ _ _ _⟩, ⟨by exact Bz BK412⟩, ⟨by exact Lz1 HB GE412⟩⟩
   case round =>
    clear H'
    try clear c1
    try clear c9
    try clear c11
    obtain ⟨x9_2, x28_2, rfl, HA, HK2, HO_7, HO_9, BK412, HB⟩ := hrel
    cases gk with
    | zero => exact absurd HA.out (by simp [impl_MostLegalSet.l0])
    | succ k2 =>
     have H := HA.out
     clear HA
     simp only [impl_MostLegalSet.l0] at H
     by_cases c12 : x28_2 < (l1.length : Int)
     ·rw [if_pos c12] at H
      have c12b0 : decide (x28_2 < (l1.length : Int)) = true := decide_eq_true c12
      clear c12
      replace H := Option.bind_eq_some_iff.mp H
      obtain ⟨t418, A130, H⟩ := H
      replace H : (if t418 = true then (impl_MostLegalSet.l0 k2 t413 x9_2 (l1.length : Int) (wrap64 (x28_2 + 1))) else (if x9_2.length < 17592186044416 then (impl_MostLegalSet.l0 k2 t413 (x9_2 ++ [x28_2]) (l1.length : Int) (wrap64 (x28_2 + 1))) else (none))) = some r := H
      have A13 := Aside0.mk A130
      clear A130
      by_cases c14 : t418 = true
      ·subst c14
       have H1 : (impl_MostLegalSet.l0 k2 t413 x9_2 (l1.length : Int) (wrap64 (x28_2 + 1))) = some r := by rw [if_pos rfl] at H; exact H
       clear H
       have H := H1
       clear H1
       have H' := Aside0.mk H
       clear H
       obtain ⟨Ao15, co15, eo15⟩ := Kd.R_slice HO_7.out
       subst eo15
       go_wp2_with (first | ((with_reducible refine gate_callee (f := 73) rfl ?_); refine goesM_ (some 33) rfl rfl Try.func73 (by kernel_rfl) rfl #[.slice Ao15 t413.length co15, .int .i64 x28_2] rfl ?_; (with_reducible refine (slices_Contains_int_int.calls k2 _ _ t413 x28_2 true _ ?side1 ?side2 A13.out).mono ?_); (case side1 => exact Cz ((Kd.R_reads' HO_7.out).2.2)); (case side2 => exact (Kd.R_reads' HO_7.out).2.1); rintro e w' ⟨rfl, ⟨nd, rfl⟩⟩; refine ⟨_, rfl, ?_⟩))
       go_roundg k2
       case measure => have := HJ4.out; have := HK2.out; omega
       case rel => exact ⟨(x9_2), (wrap64 (x28_2 + 1)), (by first | rfl | (simp; done) | (simp [*]; done)), H', ⟨by have := HJ4.out; have := HK2.out; omega⟩, ⟨by exact Rz HO_7⟩, ⟨by exact Rz HO_9⟩, ⟨by exact Bz BK412⟩, ⟨by exact Lz1 HB GE412⟩⟩
      replace c14 := Bool.eq_false_iff.mpr c14
      subst c14
      have H1 : (if x9_2.length < 17592186044416 then (impl_MostLegalSet.l0 k2 t413 (x9_2 ++ [x28_2]) (l1.length : Int) (wrap64 (x28_2 + 1))) else (none)) = some r := by rw [if_neg (show ¬ (false = true) by decide)] at H; exact H
      clear H
      have H := H1
      clear H1
      by_cases c16 : x9_2.length < 17592186044416
      ·rw [if_pos c16] at H
       have LMc16 := Aside0.mk c16
       clear c16
       obtain ⟨y419, hy419⟩ : ∃ y_ : List Int, y_ = (x9_2 ++ [x28_2]) := ⟨_, rfl⟩
       replace H : (impl_MostLegalSet.l0 k2 t413 y419 (l1.length : Int) (wrap64 (x28_2 + 1))) = some r := by first | (rw [hy419]; with_reducible exact H) | (have H2_ := (Option.bind_some _ _).symm.trans H; rw [hy419]; with_reducible exact H2_) | (have H2_ := (Option.bind_some _ _).symm.trans H; with_reducible exact H2_) | with_reducible exact H | (rw [hy419]; exact H) | exact H
       have Ny419 := Aside0.mk hy419
       clear hy419
       have H' := Aside0.mk H
       clear H
       obtain ⟨Ao17, co17, eo17⟩ := Kd.R_slice HO_7.out
       subst eo17
       go_wp2_with (first | ((with_reducible refine gate_callee (f := 73) rfl ?_); refine goesM_ (some 33) rfl rfl Try.func73 (by kernel_rfl) rfl #[.slice Ao17 t413.length co17, .int .i64 x28_2] rfl ?_; (with_reducible refine (slices_Contains_int_int.calls k2 _ _ t413 x28_2 false _ ?side1 ?side2 A13.out).mono ?_); (case side1 => exact Cz ((Kd.R_reads' HO_7.out).2.2)); (case side2 => exact (Kd.R_reads' HO_7.out).2.1); rintro e w' ⟨rfl, ⟨nd, rfl⟩⟩; refine ⟨_, rfl, ?_⟩) | ((with_reducible refine gate_builtin (b := .append) (xs := #[.tmp 35, .tmp 37]) rfl ?_); at_builtin; refine Kd.R_append (Kd.int .i64) (w0 := w) w.heap.size rfl (.tmp 35) (.tmp 37) 27 3 (.int .i64 0) 8 rfl Try.underlying27 info3 rfl (by decide) (by omega) u9 x9_2 x28_2 [.int .i64 x28_2] (fun k_ => some k_ ≠ (.slice Ao17 t413.length co17 : Value).ownBlock) (fun _ => False) rfl rfl ?aP (fun _ hk => hk.elim) ?aF ?aO ?aB ?aS ?aL ?_; (case aP => exact rfl); (case aB => exact (by exact Lz1 HB GE412)); (case aF => exact (fun k_ hk => Kd.fresh' (Kd.R_lt (Rz HO_7)) k_ hk)); (case aO => exact (Rz HO_9)); (case aS => exact (below_size (by exact Lz1 HB GE412))); (case aL => have := LMc16.out; omega); intro v420 w18 ho hb hg hat; rw [← Ny419.out] at ho; replace HO_7 := Aside0.mk (Kd.R_after (ok := (fun _ => True)) (by (with_reducible repeat (first | apply Kd.R_alloc | apply Kd.R_drewN | apply Kd.R_drew)); exact Kd.R_mono HO_7.out (fun _ hk => ⟨trivial, hk⟩)) hg hat); replace BK412 := Aside0.mk (blk_grown (g := gb412) (o := .cells #[.int .i64 a0_0, .slice A0_1 l0_1.length c0_1] 25 (0, 0)) (Bz BK412) hg (Kd.R_ne HO_9.out BK412.out (by decide))); replace HB := Aside0.mk (hb); have HO421 := Aside0.mk (ho); clear HO_9; clear ho hb hg hat))
       go_roundg k2
       case measure => have := HJ4.out; have := HK2.out; omega
       case rel => exact ⟨(y419), (wrap64 (x28_2 + 1)), (by first | rfl | (simp; done) | (simp [*]; done)), H', ⟨by have := HJ4.out; have := HK2.out; omega⟩, ⟨by (with_reducible repeat (first | apply Kd.R_alloc | apply Kd.R_drewN | apply Kd.R_drew)); exact Kd.R_mono HO_7.out (fun _ hk => hk.2)⟩, ⟨by exact Rz HO421⟩, ⟨by exact Bz BK412⟩, ⟨by exact Lz1 HB GE412⟩⟩
      rw [if_neg c16] at H
      exact absurd H (by simp)
     rw [if_neg c12] at H
     have c12b0 : decide (x28_2 < (l1.length : Int)) = false := decide_eq_false c12
     clear c12
     obtain rfl := Option.some.inj H
     go_wp2
     go_ret
     exact ⟨_, by first | rfl | (simp [errW_none, errW_some] <;> rfl) | (simp [*, errW_none, errW_some] <;> rfl), by (with_reducible repeat (first | apply Kd.R_alloc | apply Kd.R_drewN | apply Kd.R_drew)); exact Kd.R_mono HO_9.out (fun _ hk => trivial), by exact Lz1 HB GE412⟩

/-! ### laws_FnExactMostLegalSet: function 4 -/
mutual
def laws_FnExactMostLegalSet.j0 : Nat → List Int → Int → Int → List (S95) → Option (Bool)
 | 0, _, _, _, _ => none
 | k + 1, x1, x2, x440000, x440001 => (laws_szGraph.f x440000 x440001 1048576).bind fun t440 => (if t440 < 0 then (some true) else (laws_FnExactMostLegalSet.j1 k x1 x2 x440000 x440001))
def laws_FnExactMostLegalSet.j1 : Nat → List Int → Int → Int → List (S95) → Option (Bool)
 | 0, _, _, _, _ => none
 | k + 1, x1, x2, x440000, x440001 => (laws_toGraph.f k x440000 x440001).bind fun bt441 => ((laws_toIntS.f k x1).bind fun t445 => ((spec_MostLegalSet.f k bt441.1 bt441.2 t445 x2).bind fun t448 => ((laws_toGraph.f k x440000 x440001).bind fun bt451 => ((laws_toIntS.f k x1).bind fun t456 => ((impl_MostLegalSet.f k bt451.1 bt451.2 t456 x2).bind fun t459 => ((laws_eqIntS.f k t459 t448).bind fun t462 => (if t462 = true then (laws_FnExactMostLegalSet.j2 k x1 x2 t448 t456 t459 x440000 x440001 bt451.1 bt451.2) else (some false))))))))
def laws_FnExactMostLegalSet.j2 : Nat → List Int → Int → List Int → List Int → List Int → Int → List (S95) → Int → List (S70) → Option (Bool)
 | 0, _, _, _, _, _, _, _, _, _ => none
 | k + 1, x1, x2, x8, x10, x11, x440000, x440001, x456000, x456001 => (laws_toGraph.f k x440000 x440001).bind fun bt463 => ((laws_eqGraph.f k x456000 x456001 bt463.1 bt463.2).bind fun t467 => (if t467 = true then (laws_FnExactMostLegalSet.j3 k x1 x2 x8 x10 x11 x440000 x440001 x456000 x456001) else (some false)))
def laws_FnExactMostLegalSet.j3 : Nat → List Int → Int → List Int → List Int → List Int → Int → List (S95) → Int → List (S70) → Option (Bool)
 | 0, _, _, _, _, _, _, _, _, _ => none
 | k + 1, x1, x2, x8, x10, x11, x440000, x440001, x456000, x456001 => (laws_toIntS.f k x1).bind fun t468 => ((laws_eqIntS.f k x10 t468).bind fun t471 => (if t471 = true then (laws_FnExactMostLegalSet.j4 k x1 x2 x8 x10 x11 x440000 x440001 x456000 x456001) else (some false)))
def laws_FnExactMostLegalSet.j4 : Nat → List Int → Int → List Int → List Int → List Int → Int → List (S95) → Int → List (S70) → Option (Bool)
 | 0, _, _, _, _, _, _, _, _, _ => none
 | k + 1, x1, x2, x8, x10, x11, x440000, x440001, x456000, x456001 => (laws_markGraph.f k x456000 x456001 1).bind fun bt472 => ((laws_markIntS.f k x10 bt472.1).bind fun bt474 => (if bt474.1 < 0 then (laws_FnExactMostLegalSet.j5 k x1 x2 x8 x11 true x440000 x440001) else ((laws_eqIntS.f k x11 x8).bind fun t476 => (laws_FnExactMostLegalSet.j5 k x1 x2 x8 x11 (!t476) x440000 x440001))))
def laws_FnExactMostLegalSet.j5 : Nat → List Int → Int → List Int → List Int → Bool → Int → List (S95) → Option (Bool)
 | 0, _, _, _, _, _, _, _ => none
 | k + 1, x1, x2, x8, x11, x65, x440000, x440001 => if x65 = true then (some false) else (laws_FnExactMostLegalSet.j6 k x1 x2 x8 x11 x440000 x440001)
def laws_FnExactMostLegalSet.j6 : Nat → List Int → Int → List Int → List Int → Int → List (S95) → Option (Bool)
 | 0, _, _, _, _, _, _ => none
 | k + 1, x1, x2, x8, x11, x440000, x440001 => (laws_markIntS.f k x11 1).bind fun bt477 => ((laws_heldIntS.f k bt477.2 1).bind fun t479 => (if t479 < 0 then (some false) else (laws_FnExactMostLegalSet.j7 k x1 x2 x8 bt477.2 bt477.1 t479 x440000 x440001)))
def laws_FnExactMostLegalSet.j7 : Nat → List Int → Int → List Int → List Int → Int → Int → Int → List (S95) → Option (Bool)
 | 0, _, _, _, _, _, _, _, _ => none
 | k + 1, x1, x2, x8, x11, x13, x14, x440000, x440001 => if x14 = x13 then (laws_FnExactMostLegalSet.j8 k x1 x2 x8 x11 x13 x440000 x440001) else (some false)
def laws_FnExactMostLegalSet.j8 : Nat → List Int → Int → List Int → List Int → Int → Int → List (S95) → Option (Bool)
 | 0, _, _, _, _, _, _, _ => none
 | k + 1, x1, x2, x8, x11, x13, x440000, x440001 => (laws_toGraph.f k x440000 x440001).bind fun bt480 => ((laws_toIntS.f k x1).bind fun t484 => ((impl_MostLegalSet.f k bt480.1 bt480.2 t484 x2).bind fun t487 => ((laws_eqIntS.f k t487 x8).bind fun t490 => (if t490 = true then (laws_FnExactMostLegalSet.j9 k x11 x13) else (some false)))))
def laws_FnExactMostLegalSet.j9 : Nat → List Int → Int → Option (Bool)
 | 0, _, _ => none
 | k + 1, x11, x13 => (laws_heldIntS.f k x11 1).bind fun t491 => (if t491 < 0 then (some false) else (laws_FnExactMostLegalSet.j10 k x13 t491))
def laws_FnExactMostLegalSet.j10 : Nat → Int → Int → Option (Bool)
 | 0, _, _ => none
 | k + 1, x13, x14 => if x14 = x13 then (some true) else (some false)
end
def laws_FnExactMostLegalSet.f (k : Nat) (a0_0 : Int) (l0_1 : List (S95)) (l1 : List Int) (a2 : Int) : Option (Bool) := if (l1.length : Int) > 1048576 then (some true) else (laws_FnExactMostLegalSet.j0 k l1 a2 a0_0 l0_1)
set_option maxHeartbeats 8000000 in
set_option maxRecDepth 100000 in
theorem laws_FnExactMostLegalSet.calls (k : Nat) (a0_0 : Int) (A0_1 : Option Addr) (c0_1 : Nat) (l0_1 : List (S95)) (A1 : Option Addr) (c1 : Nat) (l1 : List Int) (a2 : Int) (r : Bool) (w : World) (hr0_1 : Kd.C k95 w A0_1 l0_1.length l0_1) (hc0_1 : l0_1.length ≤ c0_1) (hr1 : Kd.C (Kd.int .i64) w A1 l1.length l1) (hc1 : l1.length ≤ c1) (h : laws_FnExactMostLegalSet.f k a0_0 l0_1 l1 a2 = some r) :
  Calls Try.prog 4 #[.agg #[.int .i64 a0_0, .slice A0_1 l0_1.length c0_1], .slice A1 l1.length c1, .int .i64 a2] w fun e w' => e = .returned (.bool r) ∧ Below w.heap.size w w' := by
 have hu37 := Try.underlying37
 have hu25 := Try.underlying25
 have HR0_1 := Aside0.mk hr0_1
 have HC0_1 := Aside0.mk hc0_1
 clear hr0_1 hc0_1
 have HR1 := Aside0.mk hr1
 have HC1 := Aside0.mk hc1
 clear hr1 hc1
 have HB := Aside0.mk (Below.refl w.heap.size w)
 have H : (if (l1.length : Int) > 1048576 then (some true) else (laws_FnExactMostLegalSet.j0 k l1 a2 a0_0 l0_1)) = some r := h
 clear h
 have HC4 := Aside0.mk H
 clear H
 go_enter Try.func4, Try.ntmps4
 go_upto_if 18 with (first | ((with_reducible refine gate_dst (N := 3) rfl ?_); refine box_event ?hg (N := 3) ?hd (cs := #[.int .i64 a0_0, .slice A0_1 l0_1.length c0_1]) (t := 37) ?hr ?_; (case hd => rfl); (case hg => rfl); (case hr => first | (go_simp; done) | (go_simp; rfl)); intro gb439 hg w5 hbox hb; have BK439 := Aside0.mk (hbox); have GW439 := Aside0.mk ((by rw [hg]; exact (below_size (Lz HB)) : w.heap.size ≤ gb439)); have GE439 := Aside0.mk ((by rw [hg]; exact (below_size (Lz HB)) : w.heap.size ≤ gb439)); replace HB := Aside0.mk (below_step (Lz HB) hb); clear hb hbox hg))
 (try simp only [Act.put, List.setIfInBounds_toArray, List.set_cons_zero, List.set_cons_succ])
 go_cut [] (fun wc => ∃ (kq : Nat), Aside0 (laws_FnExactMostLegalSet.j0 kq l1 a2 a0_0 l0_1 = some r) ∧ Aside0 (kq ≤ k) ∧ Aside0 (wc.heap[gb439]? = some (.cells #[.int .i64 a0_0, (.slice A0_1 l0_1.length c0_1)] 37 (0, 0))) ∧ Aside0 (Below w.heap.size w wc))
 case first =>
  have H := HC4.out
  clear HC4
  by_cases c6 : (l1.length : Int) > 1048576
  ·rw [if_pos c6] at H
   have c6b0 : decide (1048576 < (l1.length : Int)) = true := decide_eq_true c6
   (try simp only [hl456001_54, hl11_65] at c6b0)
   have c6b1 : decide (1048576 < l1.length) = true := decide_eq_true (by omega)
   (try simp only [hl456001_54, hl11_65] at c6b1)
   clear c6
   (first | rw [c6b0] | (simp only [i64_w, i32_w]; rw [c6b0]) | skip)
   obtain rfl := Option.some.inj H
   go_wp2
   go_ret
   exact ⟨by first | rfl | (simp [errW_none, errW_some] <;> rfl) | (simp [*, errW_none, errW_some] <;> rfl), by exact Lz1 HB GE439⟩
  rw [if_neg c6] at H
  have c6b0 : decide (1048576 < (l1.length : Int)) = false := decide_eq_false c6
  (try simp only [hl456001_54, hl11_65] at c6b0)
  have c6b1 : decide (1048576 < l1.length) = false := decide_eq_false (by omega)
  (try simp only [hl456001_54, hl11_65] at c6b1)
  clear c6
  (first | rw [c6b0] | (simp only [i64_w, i32_w]; rw [c6b0]) | skip)
  have H' := Aside0.mk H
  clear H
  go_wp2
  go_meet
  case rel => exact ⟨_, H', ⟨by first | omega | exact Nat.le_refl _⟩, ⟨by exact Bz BK439⟩, ⟨by exact Lz1 HB GE439⟩⟩
 case rest =>
  clear HC4
  try clear c1
  try clear c6
  try clear c6b0
  try clear c6b1
  obtain ⟨kq, HA, HJ3, BK439, HB⟩ := hcut
  cases kq with
  | zero => exact absurd HA.out (by simp [laws_FnExactMostLegalSet.j0])
  | succ kj3 =>
   have H := HA.out
   clear HA
   simp only [laws_FnExactMostLegalSet.j0] at H
   replace H := Option.bind_eq_some_iff.mp H
   obtain ⟨t440, A70, H⟩ := H
   replace H : (if t440 < 0 then (some true) else (laws_FnExactMostLegalSet.j1 kj3 l1 a2 a0_0 l0_1)) = some r := H
   have A7 := Aside0.mk A70
   clear A70
   have HC8 := Aside0.mk H
   clear H
   have hcz9_0 : wc.cell? ⟨gb439, 0, none⟩ = some (.int .i64 a0_0) := (blk_cell BK439.out 0).trans rfl
   have hcz9_1 : wc.cell? ⟨gb439, 1, none⟩ = some (.slice A0_1 l0_1.length c0_1) := (blk_cell BK439.out 1).trans rfl
   have hfz9_0 := blk_frozen BK439.out 0
   have hfz9_1 := blk_frozen BK439.out 1
   go_upto_if 23 with (first | ((with_reducible refine gate_callee (f := 23) rfl ?_); refine goesM_ (some 21) rfl rfl Try.func23 (by kernel_rfl) rfl #[.agg #[.int .i64 a0_0, .slice A0_1 l0_1.length c0_1], .int .i64 1048576] rfl ?_; (with_reducible refine (laws_szGraph.calls a0_0 _ _ l0_1 1048576 t440 _ ?side1 ?side2 A7.out).mono ?_); (case side1 => exact Cz ((Kd.C_below HR0_1.out HB.out))); (case side2 => exact HC0_1.out); rintro e w10 ⟨rfl, hb⟩; refine ⟨_, rfl, ?_⟩; replace BK439 := Aside0.mk (blk_below (g := gb439) (o := .cells #[.int .i64 a0_0, .slice A0_1 l0_1.length c0_1] 37 (0, 0)) (Bz BK439) hb); replace HB := Aside0.mk (below_step (by exact Lz1 HB GE439) hb); (try clear hb); (try clear hb2); (try clear hk); (try clear hi)))
   (try simp only [Act.put, List.setIfInBounds_toArray, List.set_cons_zero, List.set_cons_succ])
   go_cut [] (fun wc => ∃ (kq : Nat), Aside0 (laws_FnExactMostLegalSet.j1 kq l1 a2 a0_0 l0_1 = some r) ∧ Aside0 (kq ≤ kj3) ∧ Aside0 (wc.heap[gb439]? = some (.cells #[.int .i64 a0_0, (.slice A0_1 l0_1.length c0_1)] 37 (0, 0))) ∧ Aside0 (Below w.heap.size w wc))
   case first =>
    have H := HC8.out
    clear HC8
    by_cases c11 : t440 < 0
    ·rw [if_pos c11] at H
     have c11b0 : decide (t440 < 0) = true := decide_eq_true c11
     clear c11
     (first | rw [c11b0] | (simp only [i64_w, i32_w]; rw [c11b0]) | skip)
     obtain rfl := Option.some.inj H
     go_wp2
     go_ret
     exact ⟨by first | rfl | (simp [errW_none, errW_some] <;> rfl) | (simp [*, errW_none, errW_some] <;> rfl), by exact Lz1 HB GE439⟩
    rw [if_neg c11] at H
    have c11b0 : decide (t440 < 0) = false := decide_eq_false c11
    clear c11
    (first | rw [c11b0] | (simp only [i64_w, i32_w]; rw [c11b0]) | skip)
    have H' := Aside0.mk H
    clear H
    go_wp2
    go_meet
    case rel => exact ⟨_, H', ⟨by have := HJ3.out; first | omega | exact Nat.le_refl _⟩, ⟨by exact Bz BK439⟩, ⟨by exact Lz1 HB GE439⟩⟩
   case rest =>
    clear HC8
    try clear c1
    try clear c6
    try clear c6b0
    try clear c6b1
    try clear c11
    try clear c11b0
    obtain ⟨kq, HA, HJ7, BK439, HB⟩ := hcut
    cases kq with
    | zero => exact absurd HA.out (by simp [laws_FnExactMostLegalSet.j1])
    | succ kj7 =>
     have H := HA.out
     clear HA
     simp only [laws_FnExactMostLegalSet.j1] at H
     replace H := Option.bind_eq_some_iff.mp H
     obtain ⟨⟨t441, t442⟩, A120, H⟩ := H
     replace H : ((laws_toIntS.f kj7 l1).bind fun t445 => ((spec_MostLegalSet.f kj7 t441 t442 t445 a2).bind fun t448 => ((laws_toGraph.f kj7 a0_0 l0_1).bind fun bt451 => ((laws_toIntS.f kj7 l1).bind fun t456 => ((impl_MostLegalSet.f kj7 bt451.1 bt451.2 t456 a2).bind fun t459 => ((laws_eqIntS.f kj7 t459 t448).bind fun t462 => (if t462 = true then (laws_FnExactMostLegalSet.j2 kj7 l1 a2 t448 t456 t459 a0_0 l0_1 bt451.1 bt451.2) else (some false)))))))) = some r := H
     have A12 := Aside0.mk A120
     clear A120
     replace H := Option.bind_eq_some_iff.mp H
     obtain ⟨t445, A130, H⟩ := H
     replace H : ((spec_MostLegalSet.f kj7 t441 t442 t445 a2).bind fun t448 => ((laws_toGraph.f kj7 a0_0 l0_1).bind fun bt451 => ((laws_toIntS.f kj7 l1).bind fun t456 => ((impl_MostLegalSet.f kj7 bt451.1 bt451.2 t456 a2).bind fun t459 => ((laws_eqIntS.f kj7 t459 t448).bind fun t462 => (if t462 = true then (laws_FnExactMostLegalSet.j2 kj7 l1 a2 t448 t456 t459 a0_0 l0_1 bt451.1 bt451.2) else (some false))))))) = some r := H
     have A13 := Aside0.mk A130
     clear A130
     replace H := Option.bind_eq_some_iff.mp H
     obtain ⟨t448, A140, H⟩ := H
     replace H : ((laws_toGraph.f kj7 a0_0 l0_1).bind fun bt451 => ((laws_toIntS.f kj7 l1).bind fun t456 => ((impl_MostLegalSet.f kj7 bt451.1 bt451.2 t456 a2).bind fun t459 => ((laws_eqIntS.f kj7 t459 t448).bind fun t462 => (if t462 = true then (laws_FnExactMostLegalSet.j2 kj7 l1 a2 t448 t456 t459 a0_0 l0_1 bt451.1 bt451.2) else (some false)))))) = some r := H
     have A14 := Aside0.mk A140
     clear A140
     replace H := Option.bind_eq_some_iff.mp H
     obtain ⟨⟨t451, t452⟩, A150, H⟩ := H
     replace H : ((laws_toIntS.f kj7 l1).bind fun t456 => ((impl_MostLegalSet.f kj7 t451 t452 t456 a2).bind fun t459 => ((laws_eqIntS.f kj7 t459 t448).bind fun t462 => (if t462 = true then (laws_FnExactMostLegalSet.j2 kj7 l1 a2 t448 t456 t459 a0_0 l0_1 t451 t452) else (some false))))) = some r := H
     have A15 := Aside0.mk A150
     clear A150
     replace H := Option.bind_eq_some_iff.mp H
     obtain ⟨t456, A160, H⟩ := H
     replace H : ((impl_MostLegalSet.f kj7 t451 t452 t456 a2).bind fun t459 => ((laws_eqIntS.f kj7 t459 t448).bind fun t462 => (if t462 = true then (laws_FnExactMostLegalSet.j2 kj7 l1 a2 t448 t456 t459 a0_0 l0_1 t451 t452) else (some false)))) = some r := H
     have A16 := Aside0.mk A160
     clear A160
     replace H := Option.bind_eq_some_iff.mp H
     obtain ⟨t459, A170, H⟩ := H
     replace H : ((laws_eqIntS.f kj7 t459 t448).bind fun t462 => (if t462 = true then (laws_FnExactMostLegalSet.j2 kj7 l1 a2 t448 t456 t459 a0_0 l0_1 t451 t452) else (some false))) = some r := H
     have A17 := Aside0.mk A170
     clear A170
     replace H := Option.bind_eq_some_iff.mp H
     obtain ⟨t462, A180, H⟩ := H
     replace H : (if t462 = true then (laws_FnExactMostLegalSet.j2 kj7 l1 a2 t448 t456 t459 a0_0 l0_1 t451 t452) else (some false)) = some r := H
     have A18 := Aside0.mk A180
     clear A180
     have HC19 := Aside0.mk H
     clear H
     have hcz20_0 : wc.cell? ⟨gb439, 0, none⟩ = some (.int .i64 a0_0) := (blk_cell BK439.out 0).trans rfl
     have hcz20_1 : wc.cell? ⟨gb439, 1, none⟩ = some (.slice A0_1 l0_1.length c0_1) := (blk_cell BK439.out 1).trans rfl
     have hfz20_0 := blk_frozen BK439.out 0
     have hfz20_1 := blk_frozen BK439.out 1
     go_upto_if 41 with (first | ((with_reducible refine gate_callee (f := 25) rfl ?_); refine goesM_ (some 25) rfl rfl Try.func25 (by kernel_rfl) rfl #[.agg #[.int .i64 a0_0, .slice A0_1 l0_1.length c0_1]] rfl ?_; (with_reducible refine (laws_toGraph.calls kj7 a0_0 _ _ l0_1 t441 t442 _ ?side1 ?side2 A12.out).mono ?_); (case side1 => exact Cz ((Kd.C_below HR0_1.out HB.out))); (case side2 => exact HC0_1.out); rintro e w21 ⟨v443, rfl, ho0, hb⟩; refine ⟨_, rfl, ?_⟩; have HO444 := Aside0.mk (Kd.R_lower ho0 (below_size (by exact Lz1 HB GE439))); replace BK439 := Aside0.mk (blk_below (g := gb439) (o := .cells #[.int .i64 a0_0, .slice A0_1 l0_1.length c0_1] 37 (0, 0)) (Bz BK439) hb); replace HB := Aside0.mk (below_step (by exact Lz1 HB GE439) hb); (try clear hb); (try clear ho0)) | ((with_reducible refine gate_callee (f := 26) rfl ?_); refine goesM_ (some 27) rfl rfl Try.func26 (by kernel_rfl) rfl #[.slice A1 l1.length c1] rfl ?_; (with_reducible refine (laws_toIntS.calls kj7 _ _ l1 t445 _ ?side1 ?side2 A13.out).mono ?_); (case side1 => exact Cz ((Kd.C_below HR1.out HB.out))); (case side2 => exact HC1.out); rintro e w22 ⟨v446, rfl, ho0, hb⟩; refine ⟨_, rfl, ?_⟩; replace HO444 := Aside0.mk (Kd.R_below (Rz HO444) hb); have HO447 := Aside0.mk (Kd.R_lower ho0 (below_size (by exact Lz1 HB GE439))); replace BK439 := Aside0.mk (blk_below (g := gb439) (o := .cells #[.int .i64 a0_0, .slice A0_1 l0_1.length c0_1] 37 (0, 0)) (Bz BK439) hb); replace HB := Aside0.mk (below_step (by exact Lz1 HB GE439) hb); (try clear hb); (try clear ho0); obtain ⟨Ao23, co23, eo23⟩ := Kd.R_slice HO444.out; subst eo23; obtain ⟨Ao24, co24, eo24⟩ := Kd.R_slice HO447.out; subst eo24) | ((with_reducible refine gate_callee (f := 24) rfl ?_); refine goesM_ (some 29) rfl rfl Try.func24 (by kernel_rfl) rfl #[.agg #[.int .i64 t441, .slice Ao23 t442.length co23], .slice Ao24 t445.length co24, .int .i64 a2] rfl ?_; (with_reducible refine (spec_MostLegalSet.calls kj7 t441 _ _ t442 _ _ t445 a2 t448 _ ?side1 ?side2 ?side3 ?side4 A14.out).mono ?_); (case side1 => exact Cz ((Kd.R_reads' HO444.out).2.2)); (case side2 => exact (Kd.R_reads' HO444.out).2.1); (case side3 => exact Cz ((Kd.R_reads' HO447.out).2.2)); (case side4 => exact (Kd.R_reads' HO447.out).2.1); rintro e w25 ⟨v449, rfl, ho0, hb⟩; refine ⟨_, rfl, ?_⟩; replace HO444 := Aside0.mk (Kd.R_below (Rz HO444) hb); have HO450 := Aside0.mk (Kd.R_lower (Kd.R_new' ho0 (Kd.R_lt (Rz HO447))) (below_size (by exact Lz1 HB GE439))); replace HO447 := Aside0.mk (Kd.R_elder' (Rz HO447) (Kd.R_base ho0) hb); replace BK439 := Aside0.mk (blk_below (g := gb439) (o := .cells #[.int .i64 a0_0, .slice A0_1 l0_1.length c0_1] 37 (0, 0)) (Bz BK439) hb); replace HB := Aside0.mk (below_step (by exact Lz1 HB GE439) hb); (try clear hb); (try clear ho0); have hcz26_0 : w25.cell? ⟨gb439, 0, none⟩ = some (.int .i64 a0_0) := (blk_cell BK439.out 0).trans rfl; have hcz26_1 : w25.cell? ⟨gb439, 1, none⟩ = some (.slice A0_1 l0_1.length c0_1) := (blk_cell BK439.out 1).trans rfl; have hfz26_0 := blk_frozen BK439.out 0; have hfz26_1 := blk_frozen BK439.out 1) | ((with_reducible refine gate_callee (f := 25) rfl ?_); refine goesM_ (some 31) rfl rfl Try.func25 (by kernel_rfl) rfl #[.agg #[.int .i64 a0_0, .slice A0_1 l0_1.length c0_1]] rfl ?_; (with_reducible refine (laws_toGraph.calls kj7 a0_0 _ _ l0_1 t451 t452 _ ?side1 ?side2 A15.out).mono ?_); (case side1 => exact Cz ((Kd.C_below HR0_1.out HB.out))); (case side2 => exact HC0_1.out); rintro e w27 ⟨v453, rfl, ho0, hb⟩; refine ⟨_, rfl, ?_⟩; replace HO447 := Aside0.mk (Kd.R_below (Rz HO447) hb); replace HO450 := Aside0.mk (Kd.R_below (Rz HO450) hb); have HO454 := Aside0.mk (Kd.R_lower (Kd.R_new' ho0 (Kd.R_lt (Rz HO444))) (below_size (by exact Lz1 HB GE439))); replace HO444 := Aside0.mk (Kd.R_elder' (Rz HO444) (Kd.R_base ho0) hb); replace BK439 := Aside0.mk (blk_below (g := gb439) (o := .cells #[.int .i64 a0_0, .slice A0_1 l0_1.length c0_1] 37 (0, 0)) (Bz BK439) hb); replace HB := Aside0.mk (below_step (by exact Lz1 HB GE439) hb); (try clear hb); (try clear ho0)) | ((with_reducible refine gate_dst (N := 9) rfl ?_); refine box_event ?hg (N := 9) ?hd (cs := #[.int .i64 0, .slice none 0 0]) (t := 25) ?hr ?_; (case hd => rfl); (case hg => rfl); (case hr => first | (go_simp; done) | (go_simp; rfl)); intro gb455 hg w28 hbox hb; replace HO444 := Aside0.mk (Kd.R_below (Rz HO444) hb); replace HO447 := Aside0.mk (Kd.R_below (Rz HO447) hb); replace HO450 := Aside0.mk (Kd.R_below (Rz HO450) hb); replace HO454 := Aside0.mk (Kd.R_below (Rz HO454) hb); have BK455 := Aside0.mk (hbox); have GW455 := Aside0.mk ((by rw [hg]; exact (below_size (by exact Lz1 HB GE439)) : w.heap.size ≤ gb455)); have GE455 := Aside0.mk ((by rw [hg]; exact (below_size (by exact Lz1 HB GE439)) : w.heap.size ≤ gb455)); replace HB := Aside0.mk (below_step (by exact Lz1 HB GE439) hb); have NB439_455 := Aside0.mk ((by rw [hg]; exact Nat.ne_of_lt (blk_lt (g := gb439) (o := .cells #[.int .i64 a0_0, .slice A0_1 l0_1.length c0_1] 37 (0, 0)) (Bz BK439)) : gb439 ≠ gb455)); have NB455_439 := Aside0.mk ((by rw [hg]; exact Nat.ne_of_gt (blk_lt (g := gb439) (o := .cells #[.int .i64 a0_0, .slice A0_1 l0_1.length c0_1] 37 (0, 0)) (Bz BK439)) : gb455 ≠ gb439)); replace BK439 := Aside0.mk (blk_below (g := gb439) (o := .cells #[.int .i64 a0_0, .slice A0_1 l0_1.length c0_1] 37 (0, 0)) (Bz BK439) hb); clear hb hbox hg; have hnb29 := NB455_439.out; have hnc29 := NB439_455.out; have hcz30_0 : w28.cell? ⟨gb455, 0, none⟩ = some (.int .i64 0) := (blk_cell BK455.out 0).trans rfl; have hcz30_1 : w28.cell? ⟨gb455, 1, none⟩ = some (.slice none 0 0) := (blk_cell BK455.out 1).trans rfl; have hfz30_0 := blk_frozen BK455.out 0; have hfz30_1 := blk_frozen BK455.out 1; obtain ⟨Ao31, co31, eo31⟩ := Kd.R_slice HO454.out; subst eo31) | ((with_reducible refine gate_callee (f := 26) rfl ?_); refine goesM_ (some 33) rfl rfl Try.func26 (by kernel_rfl) rfl #[.slice A1 l1.length c1] rfl ?_; (with_reducible refine (laws_toIntS.calls kj7 _ _ l1 t456 _ ?side1 ?side2 A16.out).mono ?_); (case side1 => exact Kd.C_below HR1.out (by exact Lz2 HB GE439 GE455)); (case side2 => exact HC1.out); rintro e w32 ⟨v457, rfl, ho0, hb⟩; refine ⟨_, rfl, ?_⟩; replace HO444 := Aside0.mk (Kd.R_below (by (with_reducible repeat (first | apply Kd.R_alloc | apply Kd.R_drewN | apply Kd.R_drew)); exact (Kd.R_mono (Kd.R_far (p := ⟨gb455, 1, none⟩) (Kd.R_far (p := ⟨gb455, 0, none⟩) (Kd.R_types HO444.out BK455.out (by decide)) (fun _ hk => hk.2) (.int .i64 t451)) (fun _ hk => hk.2) (.slice Ao31 t452.length co31)) (fun _ h_ => h_.1))) hb); replace HO454 := Aside0.mk (Kd.R_below (by (with_reducible repeat (first | apply Kd.R_alloc | apply Kd.R_drewN | apply Kd.R_drew)); exact (Kd.R_mono (Kd.R_far (p := ⟨gb455, 1, none⟩) (Kd.R_far (p := ⟨gb455, 0, none⟩) (Kd.R_types HO454.out BK455.out (by decide)) (fun _ hk => hk.2) (.int .i64 t451)) (fun _ hk => hk.2) (.slice Ao31 t452.length co31)) (fun _ h_ => h_.1))) hb); have HO458 := Aside0.mk (Kd.R_lower (Kd.R_new' (Kd.R_new' ho0 (Kd.R_lt (by (with_reducible repeat (first | apply Kd.R_alloc | apply Kd.R_drewN | apply Kd.R_drew)); exact (Kd.R_mono (Kd.R_far (p := ⟨gb455, 1, none⟩) (Kd.R_far (p := ⟨gb455, 0, none⟩) (Kd.R_types HO447.out BK455.out (by decide)) (fun _ hk => hk.2) (.int .i64 t451)) (fun _ hk => hk.2) (.slice Ao31 t452.length co31)) (fun _ h_ => h_.1))))) (Kd.R_lt (by (with_reducible repeat (first | apply Kd.R_alloc | apply Kd.R_drewN | apply Kd.R_drew)); exact (Kd.R_mono (Kd.R_far (p := ⟨gb455, 1, none⟩) (Kd.R_far (p := ⟨gb455, 0, none⟩) (Kd.R_types HO450.out BK455.out (by decide)) (fun _ hk => hk.2) (.int .i64 t451)) (fun _ hk => hk.2) (.slice Ao31 t452.length co31)) (fun _ h_ => h_.1))))) (below_size (by exact Lz2 HB GE439 GE455))); replace HO447 := Aside0.mk (Kd.R_elder' (by (with_reducible repeat (first | apply Kd.R_alloc | apply Kd.R_drewN | apply Kd.R_drew)); exact (Kd.R_mono (Kd.R_far (p := ⟨gb455, 1, none⟩) (Kd.R_far (p := ⟨gb455, 0, none⟩) (Kd.R_types HO447.out BK455.out (by decide)) (fun _ hk => hk.2) (.int .i64 t451)) (fun _ hk => hk.2) (.slice Ao31 t452.length co31)) (fun _ h_ => h_.1))) (Kd.R_base ho0) hb); replace HO450 := Aside0.mk (Kd.R_elder' (by (with_reducible repeat (first | apply Kd.R_alloc | apply Kd.R_drewN | apply Kd.R_drew)); exact (Kd.R_mono (Kd.R_far (p := ⟨gb455, 1, none⟩) (Kd.R_far (p := ⟨gb455, 0, none⟩) (Kd.R_types HO450.out BK455.out (by decide)) (fun _ hk => hk.2) (.int .i64 t451)) (fun _ hk => hk.2) (.slice Ao31 t452.length co31)) (fun _ h_ => h_.1))) (Kd.R_base ho0) hb); replace BK439 := Aside0.mk (blk_below (g := gb439) (o := .cells #[.int .i64 a0_0, .slice A0_1 l0_1.length c0_1] 37 (0, 0)) (by (with_reducible repeat (first | refine blk_drewN ?_ _ | refine blk_drew ?_ | refine blk_alloc ?_ _)); refine blk_far ?_ NB439_455.out _; (with_reducible repeat (first | refine blk_drewN ?_ _ | refine blk_drew ?_ | refine blk_alloc ?_ _)); refine blk_far ?_ NB439_455.out _; exact Bz BK439) hb); replace BK455 := Aside0.mk (blk_below (g := gb455) (o := .cells #[.int .i64 t451, .slice Ao31 t452.length co31] 25 (0, 0)) (by (with_reducible repeat (first | refine blk_drewN ?_ _ | refine blk_drew ?_ | refine blk_alloc ?_ _)); refine blk_put (cs := #[.int .i64 t451, .slice none 0 0]) ?_ 1 _ rfl; (with_reducible repeat (first | refine blk_drewN ?_ _ | refine blk_drew ?_ | refine blk_alloc ?_ _)); refine blk_put (cs := #[.int .i64 0, .slice none 0 0]) ?_ 0 _ rfl; exact Bz BK455) hb); replace HB := Aside0.mk (below_step (by exact Lz2 HB GE439 GE455) hb); (try clear hb); (try clear ho0); have hcz33_0 : w32.cell? ⟨gb455, 0, none⟩ = some (.int .i64 t451) := (blk_cell BK455.out 0).trans rfl; have hcz33_1 : w32.cell? ⟨gb455, 1, none⟩ = some (.slice Ao31 t452.length co31) := (blk_cell BK455.out 1).trans rfl; have hfz33_0 := blk_frozen BK455.out 0; have hfz33_1 := blk_frozen BK455.out 1; obtain ⟨Ao34, co34, eo34⟩ := Kd.R_slice HO458.out; subst eo34) | ((with_reducible refine gate_callee (f := 27) rfl ?_); refine goesM_ (some 37) rfl rfl Try.func27 (by kernel_rfl) rfl #[.agg #[.int .i64 t451, .slice Ao31 t452.length co31], .slice Ao34 t456.length co34, .int .i64 a2] rfl ?_; (with_reducible refine (impl_MostLegalSet.calls kj7 t451 _ _ t452 _ _ t456 a2 t459 _ ?side1 ?side2 ?side3 ?side4 A17.out).mono ?_); (case side1 => exact Cz ((Kd.R_reads' HO454.out).2.2)); (case side2 => exact (Kd.R_reads' HO454.out).2.1); (case side3 => exact Cz ((Kd.R_reads' HO458.out).2.2)); (case side4 => exact (Kd.R_reads' HO458.out).2.1); rintro e w35 ⟨v460, rfl, ho0, hb⟩; refine ⟨_, rfl, ?_⟩; replace HO444 := Aside0.mk (Kd.R_below (Rz HO444) hb); replace HO454 := Aside0.mk (Kd.R_below (Rz HO454) hb); have HO461 := Aside0.mk (Kd.R_lower (Kd.R_new' (Kd.R_new' (Kd.R_new' ho0 (Kd.R_lt (Rz HO447))) (Kd.R_lt (Rz HO450))) (Kd.R_lt (Rz HO458))) (below_size (by exact Lz2 HB GE439 GE455))); replace HO447 := Aside0.mk (Kd.R_elder' (Rz HO447) (Kd.R_base ho0) hb); replace HO450 := Aside0.mk (Kd.R_elder' (Rz HO450) (Kd.R_base ho0) hb); replace HO458 := Aside0.mk (Kd.R_elder' (Rz HO458) (Kd.R_base ho0) hb); replace BK439 := Aside0.mk (blk_below (g := gb439) (o := .cells #[.int .i64 a0_0, .slice A0_1 l0_1.length c0_1] 37 (0, 0)) (Bz BK439) hb); replace BK455 := Aside0.mk (blk_below (g := gb455) (o := .cells #[.int .i64 t451, .slice Ao31 t452.length co31] 25 (0, 0)) (Bz BK455) hb); replace HB := Aside0.mk (below_step (by exact Lz2 HB GE439 GE455) hb); (try clear hb); (try clear ho0); obtain ⟨Ao36, co36, eo36⟩ := Kd.R_slice HO461.out; subst eo36; obtain ⟨Ao37, co37, eo37⟩ := Kd.R_slice HO450.out; subst eo37) | ((with_reducible refine gate_callee (f := 28) rfl ?_); refine goesM_ (some 40) rfl rfl Try.func28 (by kernel_rfl) rfl #[.slice Ao36 t459.length co36, .slice Ao37 t448.length co37] rfl ?_; (with_reducible refine (laws_eqIntS.calls kj7 _ _ t459 _ _ t448 t462 _ ?side1 ?side2 ?side3 ?side4 A18.out).mono ?_); (case side1 => exact Cz ((Kd.R_reads' HO461.out).2.2)); (case side2 => exact (Kd.R_reads' HO461.out).2.1); (case side3 => exact Cz ((Kd.R_reads' HO450.out).2.2)); (case side4 => exact (Kd.R_reads' HO450.out).2.1); rintro e w' ⟨rfl, ⟨nd, rfl⟩⟩; refine ⟨_, rfl, ?_⟩))
     (try simp only [Act.put, List.setIfInBounds_toArray, List.set_cons_zero, List.set_cons_succ])
     go_cut [] (fun wc => ∃ (kq : Nat), Aside0 (laws_FnExactMostLegalSet.j2 kq l1 a2 t448 t456 t459 a0_0 l0_1 t451 t452 = some r) ∧ Aside0 (kq ≤ kj7) ∧ Aside0 (Kd.R (Kd.int .i64) 3 wc w.heap.size (fun k_ => some k_ ≠ ((.slice Ao34 t456.length co34) : Value).ownBlock ∧ some k_ ≠ ((.slice Ao36 t459.length co36) : Value).ownBlock) (.slice Ao37 t448.length co37) t448) ∧ Aside0 (Kd.R (Kd.int .i64) 3 wc w.heap.size (fun k_ => some k_ ≠ ((.slice Ao37 t448.length co37) : Value).ownBlock ∧ some k_ ≠ ((.slice Ao36 t459.length co36) : Value).ownBlock) (.slice Ao34 t456.length co34) t456) ∧ Aside0 (Kd.R (Kd.int .i64) 3 wc w.heap.size (fun k_ => some k_ ≠ ((.slice Ao37 t448.length co37) : Value).ownBlock ∧ some k_ ≠ ((.slice Ao34 t456.length co34) : Value).ownBlock) (.slice Ao36 t459.length co36) t459) ∧ Aside0 (Kd.R k70 70 wc w.heap.size (fun _ => True) (.slice Ao31 t452.length co31) t452) ∧ Aside0 (wc.heap[gb439]? = some (.cells #[.int .i64 a0_0, (.slice A0_1 l0_1.length c0_1)] 37 (0, 0))) ∧ Aside0 (wc.heap[gb455]? = some (.cells #[.int .i64 t451, (.slice Ao31 t452.length co31)] 25 (0, 0))) ∧ Aside0 (Below w.heap.size w wc))
     case first =>
      have H := HC19.out
      clear HC19
      by_cases c38 : t462 = true
      ·subst c38
       have H1 : (laws_FnExactMostLegalSet.j2 kj7 l1 a2 t448 t456 t459 a0_0 l0_1 t451 t452) = some r := by rw [if_pos rfl] at H; exact H
       clear H
       have H := H1
       clear H1
       have H' := Aside0.mk H
       clear H
       go_wp2
       go_meet
       case rel => exact ⟨_, H', ⟨by have := HJ3.out; have := HJ7.out; first | omega | exact Nat.le_refl _⟩, ⟨by (with_reducible repeat (first | apply Kd.R_alloc | apply Kd.R_drewN | apply Kd.R_drew)); exact Kd.R_mono HO450.out (fun _ hk => ⟨hk.1.2, hk.2⟩)⟩, ⟨by (with_reducible repeat (first | apply Kd.R_alloc | apply Kd.R_drewN | apply Kd.R_drew)); exact Kd.R_mono HO458.out (fun _ hk => ⟨hk.1.2, hk.2⟩)⟩, ⟨by (with_reducible repeat (first | apply Kd.R_alloc | apply Kd.R_drewN | apply Kd.R_drew)); exact Kd.R_mono HO461.out (fun _ hk => ⟨hk.1.2, hk.2⟩)⟩, ⟨by (with_reducible repeat (first | apply Kd.R_alloc | apply Kd.R_drewN | apply Kd.R_drew)); exact Kd.R_mono HO454.out (fun _ hk => trivial)⟩, ⟨by exact Bz BK439⟩, ⟨by exact Bz BK455⟩, ⟨by exact Lz2 HB GE439 GE455⟩⟩
      replace c38 := Bool.eq_false_iff.mpr c38
      subst c38
      have H1 : (some false) = some r := by rw [if_neg (show ¬ (false = true) by decide)] at H; exact H
      clear H
      have H := H1
      clear H1
      obtain rfl := Option.some.inj H
      go_wp2
      go_ret
      exact ⟨by first | rfl | (simp [errW_none, errW_some] <;> rfl) | (simp [*, errW_none, errW_some] <;> rfl), by exact Lz2 HB GE439 GE455⟩
     case rest =>
      clear HC19
      try clear c1
      try clear c6
      try clear c6b0
      try clear c6b1
      try clear c11
      try clear c11b0
      try clear c38
      obtain ⟨kq, HA, HJ18, HO_8, HO_10, HO_11, HO_456001, BK439, BK455, HB⟩ := hcut
      cases kq with
      | zero => exact absurd HA.out (by simp [laws_FnExactMostLegalSet.j2])
      | succ kj18 =>
       have H := HA.out
       clear HA
       simp only [laws_FnExactMostLegalSet.j2] at H
       replace H := Option.bind_eq_some_iff.mp H
       obtain ⟨⟨t463, t464⟩, A390, H⟩ := H
       replace H : ((laws_eqGraph.f kj18 t451 t452 t463 t464).bind fun t467 => (if t467 = true then (laws_FnExactMostLegalSet.j3 kj18 l1 a2 t448 t456 t459 a0_0 l0_1 t451 t452) else (some false))) = some r := H
       have A39 := Aside0.mk A390
       clear A390
       replace H := Option.bind_eq_some_iff.mp H
       obtain ⟨t467, A400, H⟩ := H
       replace H : (if t467 = true then (laws_FnExactMostLegalSet.j3 kj18 l1 a2 t448 t456 t459 a0_0 l0_1 t451 t452) else (some false)) = some r := H
       have A40 := Aside0.mk A400
       clear A400
       have HC41 := Aside0.mk H
       clear H
       try go_wp2
       replace HO_8 := Aside0.mk (Kd.R_drew HO_8.out)
       replace HO_10 := Aside0.mk (Kd.R_drew HO_10.out)
       replace HO_11 := Aside0.mk (Kd.R_drew HO_11.out)
       replace HO_456001 := Aside0.mk (Kd.R_drew HO_456001.out)
       replace BK439 := Aside0.mk (blk_drew BK439.out)
       replace BK455 := Aside0.mk (blk_drew BK455.out)
       replace HB := Aside0.mk (below_drew1 HB.out)
       refine start_ (n := 5) (S := fun w' => w'.cell? ⟨gb455, 0, none⟩ = some (.int .i64 t451) ∧ w'.cell? ⟨gb455, 1, none⟩ = some (.slice Ao31 t452.length co31) ∧ w'.cell? ⟨gb439, 0, none⟩ = some (.int .i64 a0_0) ∧ w'.cell? ⟨gb439, 1, none⟩ = some (.slice A0_1 l0_1.length c0_1)) (ds := []) #[false, false, false, false, false] (by kernel_rfl) rfl rfl ⟨(blk_cell BK455.out 0).trans rfl, (blk_cell BK455.out 1).trans rfl, (blk_cell BK439.out 0).trans rfl, (blk_cell BK439.out 1).trans rfl⟩ (fun hHeld => ?_)
       generalize wc.drew = w42 at HO_8 HO_10 HO_11 HO_456001 BK439 BK455 HB hHeld ⊢
       refine take_ (i := 0) (N := some 42) (v := ?_) (a' := ?_) #[true, false, false, false, false] rfl rfl (by kernel_rfl) (fun _ _ _ h => h) (Or.inl ⟨by rfl, ?_⟩) hHeld ?_ ?_
       rotate_left
       ·rintro w' ⟨s0, s1, s2, s3⟩
        go_simp
        with_reducible rfl
       rotate_left
       ·simp only [Act.put, List.setIfInBounds_toArray, List.set_cons_zero, List.set_cons_succ, i64_w, i32_w]
        rfl
       refine take_ (i := 1) (N := some 43) (v := ?_) (a' := ?_) #[true, true, false, false, false] rfl rfl (by kernel_rfl) (fun _ _ _ h => h) (Or.inl ⟨by rfl, ?_⟩) hHeld ?_ ?_
       rotate_left
       ·rintro w' ⟨s0, s1, s2, s3⟩
        go_simp
        with_reducible rfl
       rotate_left
       ·simp only [Act.put, List.setIfInBounds_toArray, List.set_cons_zero, List.set_cons_succ, i64_w, i32_w]
        rfl
       refine one_ (i := 2) (N := some 44) #[true, true, true, false, false] rfl rfl (by kernel_rfl) (by decide) (fun K hK => ?_)
       refine goes_ Try.func25 (by kernel_rfl) rfl #[.agg #[.int .i64 a0_0, .slice A0_1 l0_1.length c0_1]] (by rfl) rfl rfl (by (try simp only [List.map_toArray, List.map_cons, List.map_nil]); first | done | rfl | (simp only [List.length_drop, List.length_take]; rfl)) ?_
       with_reducible refine (laws_toGraph.calls kj18 a0_0 _ _ l0_1 t463 t464 _ ?side1 ?side2 A39.out).mono ?_
       (case side1 => exact Cz ((Kd.C_below HR0_1.out HB.out)))
       (case side2 => exact HC0_1.out)
       rintro e w43 ⟨v465, rfl, ho0, hb⟩
       refine ⟨_, rfl, ?_⟩
       replace HO_8 := Aside0.mk (Kd.R_below (Rz HO_8) hb)
       replace HO_10 := Aside0.mk (Kd.R_below (Rz HO_10) hb)
       replace HO_11 := Aside0.mk (Kd.R_below (Rz HO_11) hb)
       have HO466 := Aside0.mk (Kd.R_lower (Kd.R_new' ho0 (Kd.R_lt (Rz HO_456001))) (below_size (by exact Lz2 HB GE439 GE455)))
       replace HO_456001 := Aside0.mk (Kd.R_elder' (Rz HO_456001) (Kd.R_base ho0) hb)
       replace BK439 := Aside0.mk (blk_below (g := gb439) (o := .cells #[.int .i64 a0_0, .slice A0_1 l0_1.length c0_1] 37 (0, 0)) (Bz BK439) hb)
       replace BK455 := Aside0.mk (blk_below (g := gb455) (o := .cells #[.int .i64 t451, .slice Ao31 t452.length co31] 25 (0, 0)) (Bz BK455) hb)
       replace HB := Aside0.mk (below_step (by exact Lz2 HB GE439 GE455) hb)
       (try clear hb)
       (try clear hb2)
       (try clear hk)
       (try clear hi)
       (try clear ho0)
       obtain ⟨Ao44, co44, eo44⟩ := Kd.R_slice HO466.out
       (first | subst eo44 | (injection eo44 with f1_ f2_ f3_; have f4_ := f1_.symm; have f5_ := f3_.symm; clear f1_ f2_ f3_; subst f4_; subst f5_))
       refine hK.out _ _ ⟨(blk_cell BK455.out 0).trans rfl, (blk_cell BK455.out 1).trans rfl, (blk_cell BK439.out 0).trans rfl, (blk_cell BK439.out 1).trans rfl⟩ (fun hHeld => ?_)
       clear hK K
       refine norm_ (a' := ?_) ?_ ?_
       rotate_left
       ·show Act.put _ (some 44) _ = _
        simp only [Act.put, List.setIfInBounds_toArray, List.set_cons_zero, List.set_cons_succ, i64_w, i32_w]
        rfl
       refine one_ (i := 3) (N := some 45) #[true, true, true, true, false] rfl rfl (by kernel_rfl) (by decide) (fun K hK => ?_)
       refine goes_ Try.func29 (by kernel_rfl) rfl #[.agg #[.int .i64 t451, .slice Ao31 t452.length co31], .agg #[.int .i64 t463, .slice Ao44 t464.length co44]] (by rfl) rfl rfl (by (try simp only [List.map_toArray, List.map_cons, List.map_nil]); first | done | rfl | (simp only [List.length_drop, List.length_take]; rfl)) ?_
       with_reducible refine (laws_eqGraph.calls kj18 t451 _ _ t452 t463 _ _ t464 t467 _ ?side1 ?side2 ?side3 ?side4 A40.out).mono ?_
       (case side1 => exact Cz ((Kd.R_reads' HO_456001.out).2.2))
       (case side2 => exact (Kd.R_reads' HO_456001.out).2.1)
       (case side3 => exact Cz ((Kd.R_reads' HO466.out).2.2))
       (case side4 => exact (Kd.R_reads' HO466.out).2.1)
       rintro e w45 ⟨rfl, hb⟩
       refine ⟨_, rfl, ?_⟩
       replace HO_8 := Aside0.mk (Kd.R_below (Rz HO_8) hb)
       replace HO_10 := Aside0.mk (Kd.R_below (Rz HO_10) hb)
       replace HO_11 := Aside0.mk (Kd.R_below (Rz HO_11) hb)
       replace HO_456001 := Aside0.mk (Kd.R_below (Rz HO_456001) hb)
       replace HO466 := Aside0.mk (Kd.R_below (Rz HO466) hb)
       replace BK439 := Aside0.mk (blk_below (g := gb439) (o := .cells #[.int .i64 a0_0, .slice A0_1 l0_1.length c0_1] 37 (0, 0)) (Bz BK439) hb)
       replace BK455 := Aside0.mk (blk_below (g := gb455) (o := .cells #[.int .i64 t451, .slice Ao31 t452.length co31] 25 (0, 0)) (Bz BK455) hb)
       replace HB := Aside0.mk (below_step (by exact Lz2 HB GE439 GE455) hb)
       (try clear hb)
       (try clear hb2)
       (try clear hk)
       (try clear hi)
       refine hK.out _ _ ⟨(blk_cell BK455.out 0).trans rfl, (blk_cell BK455.out 1).trans rfl, (blk_cell BK439.out 0).trans rfl, (blk_cell BK439.out 1).trans rfl⟩ (fun hHeld => ?_)
       clear hK K
       refine norm_ (a' := ?_) ?_ ?_
       rotate_left
       ·show Act.put _ (some 45) _ = _
        simp only [Act.put, List.setIfInBounds_toArray, List.set_cons_zero, List.set_cons_succ, i64_w, i32_w]
        rfl
       refine pure_ (i := 4) (N := some 46) (v := ?_) (a' := ?_) #[true, true, true, true, true] rfl rfl (by kernel_rfl) (fun _ _ _ h => h) (Or.inl ⟨by rfl, ?_⟩) ?_ ?_
       rotate_left
       ·intro w'
        go_simp
        with_reducible rfl
       rotate_left
       ·simp only [Act.put, List.setIfInBounds_toArray, List.set_cons_zero, List.set_cons_succ, i64_w, i32_w]
        rfl
       refine done_ (by kernel_rfl) ?_
       go_upto_if 46 with (fail)
       go_cut [] (fun wc => ∃ (kq : Nat), Aside0 (laws_FnExactMostLegalSet.j3 kq l1 a2 t448 t456 t459 a0_0 l0_1 t451 t452 = some r) ∧ Aside0 (kq ≤ kj18) ∧ Aside0 (Kd.R (Kd.int .i64) 3 wc w.heap.size (fun k_ => some k_ ≠ ((.slice Ao34 t456.length co34) : Value).ownBlock ∧ some k_ ≠ ((.slice Ao36 t459.length co36) : Value).ownBlock) (.slice Ao37 t448.length co37) t448) ∧ Aside0 (Kd.R (Kd.int .i64) 3 wc w.heap.size (fun k_ => some k_ ≠ ((.slice Ao37 t448.length co37) : Value).ownBlock ∧ some k_ ≠ ((.slice Ao36 t459.length co36) : Value).ownBlock) (.slice Ao34 t456.length co34) t456) ∧ Aside0 (Kd.R (Kd.int .i64) 3 wc w.heap.size (fun k_ => some k_ ≠ ((.slice Ao37 t448.length co37) : Value).ownBlock ∧ some k_ ≠ ((.slice Ao34 t456.length co34) : Value).ownBlock) (.slice Ao36 t459.length co36) t459) ∧ Aside0 (Kd.R k70 70 wc w.heap.size (fun _ => True) (.slice Ao31 t452.length co31) t452) ∧ Aside0 (wc.heap[gb439]? = some (.cells #[.int .i64 a0_0, (.slice A0_1 l0_1.length c0_1)] 37 (0, 0))) ∧ Aside0 (wc.heap[gb455]? = some (.cells #[.int .i64 t451, (.slice Ao31 t452.length co31)] 25 (0, 0))) ∧ Aside0 (Below w.heap.size w wc))
       case first =>
        have H := HC41.out
        clear HC41
        by_cases c46 : t467 = true
        ·subst c46
         have H1 : (laws_FnExactMostLegalSet.j3 kj18 l1 a2 t448 t456 t459 a0_0 l0_1 t451 t452) = some r := by rw [if_pos rfl] at H; exact H
         clear H
         have H := H1
         clear H1
         have H' := Aside0.mk H
         clear H
         go_wp2
         go_meet
         case rel => exact ⟨_, H', ⟨by have := HJ3.out; have := HJ7.out; have := HJ18.out; first | omega | exact Nat.le_refl _⟩, ⟨by exact Rz HO_8⟩, ⟨by exact Rz HO_10⟩, ⟨by exact Rz HO_11⟩, ⟨by (with_reducible repeat (first | apply Kd.R_alloc | apply Kd.R_drewN | apply Kd.R_drew)); exact Kd.R_mono HO_456001.out (fun _ hk => trivial)⟩, ⟨by exact Bz BK439⟩, ⟨by exact Bz BK455⟩, ⟨by exact Lz2 HB GE439 GE455⟩⟩
        replace c46 := Bool.eq_false_iff.mpr c46
        subst c46
        have H1 : (some false) = some r := by rw [if_neg (show ¬ (false = true) by decide)] at H; exact H
        clear H
        have H := H1
        clear H1
        obtain rfl := Option.some.inj H
        go_wp2
        go_ret
        exact ⟨by first | rfl | (simp [errW_none, errW_some] <;> rfl) | (simp [*, errW_none, errW_some] <;> rfl), by exact Lz2 HB GE439 GE455⟩
       case rest =>
        clear HC41
        try clear c1
        try clear c6
        try clear c6b0
        try clear c6b1
        try clear c11
        try clear c11b0
        try clear c38
        try clear c46
        obtain ⟨kq, HA, HJ40, HO_8, HO_10, HO_11, HO_456001, BK439, BK455, HB⟩ := hcut
        cases kq with
        | zero => exact absurd HA.out (by simp [laws_FnExactMostLegalSet.j3])
        | succ kj40 =>
         have H := HA.out
         clear HA
         simp only [laws_FnExactMostLegalSet.j3] at H
         replace H := Option.bind_eq_some_iff.mp H
         obtain ⟨t468, A470, H⟩ := H
         replace H : ((laws_eqIntS.f kj40 t456 t468).bind fun t471 => (if t471 = true then (laws_FnExactMostLegalSet.j4 kj40 l1 a2 t448 t456 t459 a0_0 l0_1 t451 t452) else (some false))) = some r := H
         have A47 := Aside0.mk A470
         clear A470
         replace H := Option.bind_eq_some_iff.mp H
         obtain ⟨t471, A480, H⟩ := H
         replace H : (if t471 = true then (laws_FnExactMostLegalSet.j4 kj40 l1 a2 t448 t456 t459 a0_0 l0_1 t451 t452) else (some false)) = some r := H
         have A48 := Aside0.mk A480
         clear A480
         have HC49 := Aside0.mk H
         clear H
         go_upto_if 51 with (first | ((with_reducible refine gate_callee (f := 26) rfl ?_); refine goesM_ (some 49) rfl rfl Try.func26 (by kernel_rfl) rfl #[.slice A1 l1.length c1] rfl ?_; (with_reducible refine (laws_toIntS.calls kj40 _ _ l1 t468 _ ?side1 ?side2 A47.out).mono ?_); (case side1 => exact Cz ((Kd.C_below HR1.out HB.out))); (case side2 => exact HC1.out); rintro e w50 ⟨v469, rfl, ho0, hb⟩; refine ⟨_, rfl, ?_⟩; replace HO_456001 := Aside0.mk (Kd.R_below (Rz HO_456001) hb); have HO470 := Aside0.mk (Kd.R_lower (Kd.R_new' (Kd.R_new' (Kd.R_new' ho0 (Kd.R_lt (Rz HO_8))) (Kd.R_lt (Rz HO_10))) (Kd.R_lt (Rz HO_11))) (below_size (by exact Lz2 HB GE439 GE455))); replace HO_8 := Aside0.mk (Kd.R_elder' (Rz HO_8) (Kd.R_base ho0) hb); replace HO_10 := Aside0.mk (Kd.R_elder' (Rz HO_10) (Kd.R_base ho0) hb); replace HO_11 := Aside0.mk (Kd.R_elder' (Rz HO_11) (Kd.R_base ho0) hb); replace BK439 := Aside0.mk (blk_below (g := gb439) (o := .cells #[.int .i64 a0_0, .slice A0_1 l0_1.length c0_1] 37 (0, 0)) (Bz BK439) hb); replace BK455 := Aside0.mk (blk_below (g := gb455) (o := .cells #[.int .i64 t451, .slice Ao31 t452.length co31] 25 (0, 0)) (Bz BK455) hb); replace HB := Aside0.mk (below_step (by exact Lz2 HB GE439 GE455) hb); (try clear hb); (try clear ho0); obtain ⟨Ao51, co51, eo51⟩ := Kd.R_slice HO470.out; subst eo51) | ((with_reducible refine gate_callee (f := 28) rfl ?_); refine goesM_ (some 50) rfl rfl Try.func28 (by kernel_rfl) rfl #[.slice Ao34 t456.length co34, .slice Ao51 t468.length co51] rfl ?_; (with_reducible refine (laws_eqIntS.calls kj40 _ _ t456 _ _ t468 t471 _ ?side1 ?side2 ?side3 ?side4 A48.out).mono ?_); (case side1 => exact Cz ((Kd.R_reads' HO_10.out).2.2)); (case side2 => exact (Kd.R_reads' HO_10.out).2.1); (case side3 => exact Cz ((Kd.R_reads' HO470.out).2.2)); (case side4 => exact (Kd.R_reads' HO470.out).2.1); rintro e w' ⟨rfl, ⟨nd, rfl⟩⟩; refine ⟨_, rfl, ?_⟩))
         (try simp only [Act.put, List.setIfInBounds_toArray, List.set_cons_zero, List.set_cons_succ])
         go_cut [] (fun wc => ∃ (kq : Nat), Aside0 (laws_FnExactMostLegalSet.j4 kq l1 a2 t448 t456 t459 a0_0 l0_1 t451 t452 = some r) ∧ Aside0 (kq ≤ kj40) ∧ Aside0 (Kd.R (Kd.int .i64) 3 wc w.heap.size (fun k_ => some k_ ≠ ((.slice Ao34 t456.length co34) : Value).ownBlock ∧ some k_ ≠ ((.slice Ao36 t459.length co36) : Value).ownBlock) (.slice Ao37 t448.length co37) t448) ∧ Aside0 (Kd.R (Kd.int .i64) 3 wc w.heap.size (fun k_ => some k_ ≠ ((.slice Ao37 t448.length co37) : Value).ownBlock ∧ some k_ ≠ ((.slice Ao36 t459.length co36) : Value).ownBlock) (.slice Ao34 t456.length co34) t456) ∧ Aside0 (Kd.R (Kd.int .i64) 3 wc w.heap.size (fun k_ => some k_ ≠ ((.slice Ao37 t448.length co37) : Value).ownBlock ∧ some k_ ≠ ((.slice Ao34 t456.length co34) : Value).ownBlock) (.slice Ao36 t459.length co36) t459) ∧ Aside0 (Kd.R k70 70 wc w.heap.size (fun _ => True) (.slice Ao31 t452.length co31) t452) ∧ Aside0 (wc.heap[gb439]? = some (.cells #[.int .i64 a0_0, (.slice A0_1 l0_1.length c0_1)] 37 (0, 0))) ∧ Aside0 (wc.heap[gb455]? = some (.cells #[.int .i64 t451, (.slice Ao31 t452.length co31)] 25 (0, 0))) ∧ Aside0 (Below w.heap.size w wc))
         case first =>
          have H := HC49.out
          clear HC49
          by_cases c52 : t471 = true
          ·subst c52
           have H1 : (laws_FnExactMostLegalSet.j4 kj40 l1 a2 t448 t456 t459 a0_0 l0_1 t451 t452) = some r := by rw [if_pos rfl] at H; exact H
           clear H
           have H := H1
           clear H1
           have H' := Aside0.mk H
           clear H
           go_wp2
           go_meet
           case rel => exact ⟨_, H', ⟨by have := HJ3.out; have := HJ7.out; have := HJ18.out; have := HJ40.out; first | omega | exact Nat.le_refl _⟩, ⟨by (with_reducible repeat (first | apply Kd.R_alloc | apply Kd.R_drewN | apply Kd.R_drew)); exact Kd.R_mono HO_8.out (fun _ hk => ⟨hk.1.1, hk.1.2⟩)⟩, ⟨by (with_reducible repeat (first | apply Kd.R_alloc | apply Kd.R_drewN | apply Kd.R_drew)); exact Kd.R_mono HO_10.out (fun _ hk => ⟨hk.1.1, hk.1.2⟩)⟩, ⟨by (with_reducible repeat (first | apply Kd.R_alloc | apply Kd.R_drewN | apply Kd.R_drew)); exact Kd.R_mono HO_11.out (fun _ hk => ⟨hk.1.1, hk.1.2⟩)⟩, ⟨by exact Rz HO_456001⟩, ⟨by exact Bz BK439⟩, ⟨by exact Bz BK455⟩, ⟨by exact Lz2 HB GE439 GE455⟩⟩
          replace c52 := Bool.eq_false_iff.mpr c52
          subst c52
          have H1 : (some false) = some r := by rw [if_neg (show ¬ (false = true) by decide)] at H; exact H
          clear H
          have H := H1
          clear H1
          obtain rfl := Option.some.inj H
          go_wp2
          go_ret
          exact ⟨by first | rfl | (simp [errW_none, errW_some] <;> rfl) | (simp [*, errW_none, errW_some] <;> rfl), by exact Lz2 HB GE439 GE455⟩
         case rest =>
          clear HC49
          try clear c1
          try clear c6
          try clear c6b0
          try clear c6b1
          try clear c11
          try clear c11b0
          try clear c38
          try clear c46
          try clear c52
          obtain ⟨kq, HA, HJ48, HO_8, HO_10, HO_11, HO_456001, BK439, BK455, HB⟩ := hcut
          cases kq with
          | zero => exact absurd HA.out (by simp [laws_FnExactMostLegalSet.j4])
          | succ kj48 =>
           have H := HA.out
           clear HA
           simp only [laws_FnExactMostLegalSet.j4] at H
           replace H := Option.bind_eq_some_iff.mp H
           obtain ⟨⟨t472, t473⟩, A530, H⟩ := H
           replace H : ((laws_markIntS.f kj48 t456 t472).bind fun bt474 => (if bt474.1 < 0 then (laws_FnExactMostLegalSet.j5 kj48 l1 a2 t448 t459 true a0_0 l0_1) else ((laws_eqIntS.f kj48 t459 t448).bind fun t476 => (laws_FnExactMostLegalSet.j5 kj48 l1 a2 t448 t459 (!t476) a0_0 l0_1)))) = some r := H
           have A53 := Aside0.mk A530
           clear A530
           replace H := Option.bind_eq_some_iff.mp H
           obtain ⟨⟨t474, t475⟩, A540, H⟩ := H
           replace H : (if t474 < 0 then (laws_FnExactMostLegalSet.j5 kj48 l1 a2 t448 t459 true a0_0 l0_1) else ((laws_eqIntS.f kj48 t459 t448).bind fun t476 => (laws_FnExactMostLegalSet.j5 kj48 l1 a2 t448 t459 (!t476) a0_0 l0_1))) = some r := H
           have A54 := Aside0.mk A540
           clear A540
           have HC55 := Aside0.mk H
           clear H
           have hnb56 := NB455_439.out
           have hnc56 := NB439_455.out
           have hcz57_0 : wc.cell? ⟨gb455, 0, none⟩ = some (.int .i64 t451) := (blk_cell BK455.out 0).trans rfl
           have hcz57_1 : wc.cell? ⟨gb455, 1, none⟩ = some (.slice Ao31 t452.length co31) := (blk_cell BK455.out 1).trans rfl
           have hfz57_0 := blk_frozen BK455.out 0
           have hfz57_1 := blk_frozen BK455.out 1
           go_upto_region 20 with (first | ((with_reducible refine gate_callee (f := 30) rfl ?_); refine goesM_ (some 54) rfl rfl Try.func30 (by kernel_rfl) rfl #[.agg #[.int .i64 t451, .slice Ao31 t452.length co31], .int .i64 1] rfl ?_; (with_reducible refine (laws_markGraph.calls kj48 t451 (fun k_ => some k_ = (.slice Ao31 t452.length co31 : Value).ownBlock) (.slice Ao31 t452.length co31) t452 1 t472 t473 w _ ?side1 ?side2 A53.out).mono ?_); (case side1 => exact Lz2 HB GE439 GE455); (case side2 => exact Kd.R_tight rfl HO_456001.out); rintro e w58 ⟨rfl, hy0, hb, hkp⟩; refine ⟨_, rfl, ?_⟩; replace HO_8 := Aside0.mk (Kd.R_mono (ok' := fun k_ => some k_ ≠ (.slice Ao34 t456.length co34 : Value).ownBlock ∧ some k_ ≠ (.slice Ao36 t459.length co36 : Value).ownBlock) (Kd.R_keptB ((Kd.R_apart' HO_8.out (Kd.R_typed HO_456001.out) (by decide))) hkp (fun k_ hk_ hs_ => (hk_.2) hs_)) (fun k_ hk_ => ⟨hk_.1.1.1, hk_.1.1.2⟩)); replace HO_10 := Aside0.mk (Kd.R_mono (ok' := fun k_ => some k_ ≠ (.slice Ao37 t448.length co37 : Value).ownBlock ∧ some k_ ≠ (.slice Ao36 t459.length co36 : Value).ownBlock) (Kd.R_keptB ((Kd.R_apart' HO_10.out (Kd.R_typed HO_456001.out) (by decide))) hkp (fun k_ hk_ hs_ => (hk_.2) hs_)) (fun k_ hk_ => ⟨hk_.1.1.1, hk_.1.1.2⟩)); replace HO_11 := Aside0.mk (Kd.R_mono (ok' := fun k_ => some k_ ≠ (.slice Ao37 t448.length co37 : Value).ownBlock ∧ some k_ ≠ (.slice Ao34 t456.length co34 : Value).ownBlock) (Kd.R_keptB ((Kd.R_apart' HO_11.out (Kd.R_typed HO_456001.out) (by decide))) hkp (fun k_ hk_ hs_ => (hk_.2) hs_)) (fun k_ hk_ => ⟨hk_.1.1.1, hk_.1.1.2⟩)); replace BK439 := Aside0.mk (blk_kept (Bz BK439) hkp (fun hs_ => (fun e_ => (Kd.R_ne HO_456001.out BK439.out (by decide)) e_) hs_)); replace BK455 := Aside0.mk (blk_kept (Bz BK455) hkp (fun hs_ => (fun e_ => (Kd.R_ne HO_456001.out BK455.out (by decide)) e_) hs_)); replace HO_456001 := Aside0.mk (Kd.R_reok rfl hy0 (fun k_ e_ => HO_456001.out.1 k_ e_)); replace HB := Aside0.mk (hb); (try clear hb); (try clear hkp); (try clear hy0)) | ((with_reducible refine gate_callee (f := 31) rfl ?_); refine goesM_ (some 57) rfl rfl Try.func31 (by kernel_rfl) rfl #[.slice Ao34 t456.length co34, .int .i64 t472] rfl ?_; (with_reducible refine (laws_markIntS.calls kj48 (fun k_ => some k_ = (.slice Ao34 t456.length co34 : Value).ownBlock) (.slice Ao34 t456.length co34) t456 t472 t474 t475 w _ ?side1 ?side2 A54.out).mono ?_); (case side1 => exact Lz2 HB GE439 GE455); (case side2 => exact Kd.R_tight rfl HO_10.out); rintro e w59 ⟨rfl, hy0, hb, hkp⟩; refine ⟨_, rfl, ?_⟩; replace HO_8 := Aside0.mk (Kd.R_mono (ok' := fun k_ => some k_ ≠ (.slice Ao34 t456.length co34 : Value).ownBlock ∧ some k_ ≠ (.slice Ao36 t459.length co36 : Value).ownBlock) (Kd.R_keptB (HO_8.out) hkp (fun k_ hk_ hs_ => (hk_.1) hs_)) (fun k_ hk_ => ⟨hk_.1.1, hk_.1.2⟩)); replace HO_11 := Aside0.mk (Kd.R_mono (ok' := fun k_ => some k_ ≠ (.slice Ao37 t448.length co37 : Value).ownBlock ∧ some k_ ≠ (.slice Ao34 t456.length co34 : Value).ownBlock) (Kd.R_keptB (HO_11.out) hkp (fun k_ hk_ hs_ => (hk_.2) hs_)) (fun k_ hk_ => ⟨hk_.1.1, hk_.1.2⟩)); replace HO_456001 := Aside0.mk (Kd.R_mono (ok' := fun k_ => True) (Kd.R_keptB ((Kd.R_apart' HO_456001.out (Kd.R_typed HO_10.out) (by decide))) hkp (fun k_ hk_ hs_ => (hk_.2) hs_)) (fun k_ hk_ => trivial)); replace BK439 := Aside0.mk (blk_kept (Bz BK439) hkp (fun hs_ => (fun e_ => (Kd.R_ne HO_10.out BK439.out (by decide)) e_) hs_)); replace BK455 := Aside0.mk (blk_kept (Bz BK455) hkp (fun hs_ => (fun e_ => (Kd.R_ne HO_10.out BK455.out (by decide)) e_) hs_)); replace HO_10 := Aside0.mk (Kd.R_reok rfl hy0 (fun k_ e_ => HO_10.out.1 k_ e_)); replace HB := Aside0.mk (hb); (try clear hb); (try clear hkp); (try clear hy0)))
           (try simp only [Act.put, List.setIfInBounds_toArray, List.set_cons_zero, List.set_cons_succ])
           go_cut [65] (fun v65 wc => ∃ (kq : Nat) (x65_54 : Bool), v65 = .bool x65_54 ∧ Aside0 (laws_FnExactMostLegalSet.j5 kq l1 a2 t448 t459 x65_54 a0_0 l0_1 = some r) ∧ Aside0 (kq ≤ kj48) ∧ Aside0 (Kd.R (Kd.int .i64) 3 wc w.heap.size (fun k_ => some k_ ≠ ((.slice Ao36 t459.length co36) : Value).ownBlock) (.slice Ao37 t448.length co37) t448) ∧ Aside0 (Kd.R (Kd.int .i64) 3 wc w.heap.size (fun k_ => some k_ ≠ ((.slice Ao37 t448.length co37) : Value).ownBlock) (.slice Ao36 t459.length co36) t459) ∧ Aside0 (Kd.R k70 70 wc w.heap.size (fun _ => True) (.slice Ao31 t452.length co31) t473) ∧ Aside0 (wc.heap[gb439]? = some (.cells #[.int .i64 a0_0, (.slice A0_1 l0_1.length c0_1)] 37 (0, 0))) ∧ Aside0 (wc.heap[gb455]? = some (.cells #[.int .i64 t451, (.slice Ao31 t452.length co31)] 25 (0, 0))) ∧ Aside0 (Below w.heap.size w wc))
           case first =>
            have H := HC55.out
            clear HC55
            by_cases c60 : t474 < 0
            ·rw [if_pos c60] at H
             have c60b0 : decide (t474 < 0) = true := decide_eq_true c60
             clear c60
             (first | rw [c60b0] | (simp only [i64_w, i32_w]; rw [c60b0]) | skip)
             have H' := Aside0.mk H
             clear H
             go_wp2
             go_meet
             case rel => exact ⟨_, (true), (by first | rfl | (simp; done) | (simp [*]; done)), H', ⟨by have := HJ3.out; have := HJ7.out; have := HJ18.out; have := HJ40.out; have := HJ48.out; first | omega | exact Nat.le_refl _⟩, ⟨by (with_reducible repeat (first | apply Kd.R_alloc | apply Kd.R_drewN | apply Kd.R_drew)); exact Kd.R_mono HO_8.out (fun _ hk => hk.2)⟩, ⟨by (with_reducible repeat (first | apply Kd.R_alloc | apply Kd.R_drewN | apply Kd.R_drew)); exact Kd.R_mono HO_11.out (fun _ hk => hk.1)⟩, ⟨by exact Rz HO_456001⟩, ⟨by exact Bz BK439⟩, ⟨by exact Bz BK455⟩, ⟨by exact Lz2 HB GE439 GE455⟩⟩
            rw [if_neg c60] at H
            have c60b0 : decide (t474 < 0) = false := decide_eq_false c60
            clear c60
            (first | rw [c60b0] | (simp only [i64_w, i32_w]; rw [c60b0]) | skip)
            replace H := Option.bind_eq_some_iff.mp H
            obtain ⟨t476, A610, H⟩ := H
            replace H : (laws_FnExactMostLegalSet.j5 kj48 l1 a2 t448 t459 (!t476) a0_0 l0_1) = some r := H
            have A61 := Aside0.mk A610
            clear A610
            have H' := Aside0.mk H
            clear H
            go_wp2_with (first | (go_at_call 28; (with_reducible refine (laws_eqIntS.calls kj48 _ _ t459 _ _ t448 t476 _ ?side1 ?side2 ?side3 ?side4 A61.out).mono ?_); (case side1 => exact Cz ((Kd.R_reads' HO_11.out).2.2)); (case side2 => exact (Kd.R_reads' HO_11.out).2.1); (case side3 => exact Cz ((Kd.R_reads' HO_8.out).2.2)); (case side4 => exact (Kd.R_reads' HO_8.out).2.1); rintro e w' ⟨rfl, ⟨nd, rfl⟩⟩))
            go_meet
            case rel => exact ⟨_, (!t476), (by first | rfl | (simp; done) | (simp [*]; done)), H', ⟨by have := HJ3.out; have := HJ7.out; have := HJ18.out; have := HJ40.out; have := HJ48.out; first | omega | exact Nat.le_refl _⟩, ⟨by (with_reducible repeat (first | apply Kd.R_alloc | apply Kd.R_drewN | apply Kd.R_drew)); exact Kd.R_mono HO_8.out (fun _ hk => hk.2)⟩, ⟨by (with_reducible repeat (first | apply Kd.R_alloc | apply Kd.R_drewN | apply Kd.R_drew)); exact Kd.R_mono HO_11.out (fun _ hk => hk.1)⟩, ⟨by exact Rz HO_456001⟩, ⟨by exact Bz BK439⟩, ⟨by exact Bz BK455⟩, ⟨by exact Lz2 HB GE439 GE455⟩⟩
           case rest =>
            clear HC55
            try clear c1
            try clear c6
            try clear c6b0
            try clear c6b1
            try clear c11
            try clear c11b0
            try clear c38
            try clear c46
            try clear c52
            try clear c60
            try clear c60b0
            obtain ⟨kq, x65_54, rfl, HA, HJ54, HO_8, HO_11, HO_456001, BK439, BK455, HB⟩ := hcut
            have hl456001_54 := (Kd.R_reads' HO_456001.out).1
            rw [hl456001_54] at HO_456001
            (try simp only [hl456001_54])
            (try simp only [hl456001_54] at BK439)
            (try simp only [hl456001_54] at BK455)
            (try simp only [hl456001_54] at HO_8)
            (try simp only [hl456001_54] at HO_11)
            cases kq with
            | zero => exact absurd HA.out (by simp [laws_FnExactMostLegalSet.j5])
            | succ kj54 =>
             have H := HA.out
             clear HA
             simp only [laws_FnExactMostLegalSet.j5] at H
             have HC62 := Aside0.mk H
             clear H
             go_upto_if 65 with (fail)
             go_cut [] (fun wc => ∃ (kq : Nat), Aside0 (laws_FnExactMostLegalSet.j6 kq l1 a2 t448 t459 a0_0 l0_1 = some r) ∧ Aside0 (kq ≤ kj54) ∧ Aside0 (Kd.R (Kd.int .i64) 3 wc w.heap.size (fun k_ => some k_ ≠ ((.slice Ao36 t459.length co36) : Value).ownBlock) (.slice Ao37 t448.length co37) t448) ∧ Aside0 (Kd.R (Kd.int .i64) 3 wc w.heap.size (fun k_ => some k_ ≠ ((.slice Ao37 t448.length co37) : Value).ownBlock) (.slice Ao36 t459.length co36) t459) ∧ Aside0 (Kd.R k70 70 wc w.heap.size (fun _ => True) (.slice Ao31 t473.length co31) t473) ∧ Aside0 (wc.heap[gb439]? = some (.cells #[.int .i64 a0_0, (.slice A0_1 l0_1.length c0_1)] 37 (0, 0))) ∧ Aside0 (wc.heap[gb455]? = some (.cells #[.int .i64 t451, (.slice Ao31 t473.length co31)] 25 (0, 0))) ∧ Aside0 (Below w.heap.size w wc))
             case first =>
              have H := HC62.out
              clear HC62
              by_cases c63 : x65_54 = true
              ·subst c63
               have H1 : (some false) = some r := by rw [if_pos rfl] at H; exact H
               clear H
               have H := H1
               clear H1
               obtain rfl := Option.some.inj H
               go_wp2
               go_ret
               exact ⟨by first | rfl | (simp [errW_none, errW_some] <;> rfl) | (simp [*, errW_none, errW_some] <;> rfl), by exact Lz2 HB GE439 GE455⟩
              replace c63 := Bool.eq_false_iff.mpr c63
              subst c63
              have H1 : (laws_FnExactMostLegalSet.j6 kj54 l1 a2 t448 t459 a0_0 l0_1) = some r := by rw [if_neg (show ¬ (false = true) by decide)] at H; exact H
              clear H
              have H := H1
              clear H1
              have H' := Aside0.mk H
              clear H
              go_wp2
              go_meet
              case rel => exact ⟨_, H', ⟨by have := HJ3.out; have := HJ7.out; have := HJ18.out; have := HJ40.out; have := HJ48.out; have := HJ54.out; first | omega | exact Nat.le_refl _⟩, ⟨by (try simp only [hl456001_54]); exact Rz HO_8⟩, ⟨by (try simp only [hl456001_54]); exact Rz HO_11⟩, ⟨by (try simp only [hl456001_54]); exact Rz HO_456001⟩, ⟨by (try simp only [hl456001_54]); exact Bz BK439⟩, ⟨by (try simp only [hl456001_54]); exact Bz BK455⟩, ⟨by exact Lz2 HB GE439 GE455⟩⟩
             case rest =>
              clear HC62
              try clear c1
              try clear c6
              try clear c6b0
              try clear c6b1
              try clear c11
              try clear c11b0
              try clear c38
              try clear c46
              try clear c52
              try clear c60
              try clear c60b0
              try clear c63
              obtain ⟨kq, HA, HJ61, HO_8, HO_11, HO_456001, BK439, BK455, HB⟩ := hcut
              cases kq with
              | zero => exact absurd HA.out (by simp [laws_FnExactMostLegalSet.j6])
              | succ kj61 =>
               have H := HA.out
               clear HA
               simp only [laws_FnExactMostLegalSet.j6] at H
               replace H := Option.bind_eq_some_iff.mp H
               obtain ⟨⟨t477, t478⟩, A640, H⟩ := H
               replace H : ((laws_heldIntS.f kj61 t478 1).bind fun t479 => (if t479 < 0 then (some false) else (laws_FnExactMostLegalSet.j7 kj61 l1 a2 t448 t478 t477 t479 a0_0 l0_1))) = some r := H
               have A64 := Aside0.mk A640
               clear A640
               replace H := Option.bind_eq_some_iff.mp H
               obtain ⟨t479, A650, H⟩ := H
               replace H : (if t479 < 0 then (some false) else (laws_FnExactMostLegalSet.j7 kj61 l1 a2 t448 t478 t477 t479 a0_0 l0_1)) = some r := H
               have A65 := Aside0.mk A650
               clear A650
               have HC66 := Aside0.mk H
               clear H
               go_upto_if 73 with (first | ((with_reducible refine gate_callee (f := 31) rfl ?_); refine goesM_ (some 68) rfl rfl Try.func31 (by kernel_rfl) rfl #[.slice Ao36 t459.length co36, .int .i64 1] rfl ?_; (with_reducible refine (laws_markIntS.calls kj61 (fun k_ => some k_ = (.slice Ao36 t459.length co36 : Value).ownBlock) (.slice Ao36 t459.length co36) t459 1 t477 t478 w _ ?side1 ?side2 A64.out).mono ?_); (case side1 => exact Lz2 HB GE439 GE455); (case side2 => exact Kd.R_tight rfl HO_11.out); rintro e w67 ⟨rfl, hy0, hb, hkp⟩; refine ⟨_, rfl, ?_⟩; replace HO_8 := Aside0.mk (Kd.R_mono (ok' := fun k_ => some k_ ≠ (.slice Ao36 t459.length co36 : Value).ownBlock) (Kd.R_keptB (HO_8.out) hkp (fun k_ hk_ hs_ => (hk_) hs_)) (fun k_ hk_ => hk_.1)); replace HO_456001 := Aside0.mk (Kd.R_mono (ok' := fun k_ => True) (Kd.R_keptB ((Kd.R_apart' HO_456001.out (Kd.R_typed HO_11.out) (by decide))) hkp (fun k_ hk_ hs_ => (hk_.2) hs_)) (fun k_ hk_ => trivial)); replace BK439 := Aside0.mk (blk_kept (Bz BK439) hkp (fun hs_ => (fun e_ => (Kd.R_ne HO_11.out BK439.out (by decide)) e_) hs_)); replace BK455 := Aside0.mk (blk_kept (Bz BK455) hkp (fun hs_ => (fun e_ => (Kd.R_ne HO_11.out BK455.out (by decide)) e_) hs_)); replace HO_11 := Aside0.mk (Kd.R_reok rfl hy0 (fun k_ e_ => HO_11.out.1 k_ e_)); replace HB := Aside0.mk (hb); (try clear hb); (try clear hkp); (try clear hy0)) | ((with_reducible refine gate_callee (f := 32) rfl ?_); refine goesL_ (some 71) rfl rfl Try.func32 (by kernel_rfl) rfl #[.slice Ao36 t478.length co36, .int .i64 1] rfl (by (try simp only [List.map_toArray, List.map_cons, List.map_nil]); first | done | (rw [show t478.length = t459.length from (Kd.R_reads' HO_11.out).1.symm] <;> rfl) | rfl | (simp only [List.length_drop, List.length_take]; rfl)) ?_; (with_reducible refine (laws_heldIntS.calls kj61 _ _ t478 1 t479 _ ?side1 ?side2 A65.out).mono ?_); (case side1 => exact Cz ((Kd.R_reads' HO_11.out).2.2)); (case side2 => rw [show t478.length = t459.length from (Kd.R_reads' HO_11.out).1.symm]; exact (Kd.R_reads' HO_11.out).2.1); rintro e w' ⟨rfl, ⟨nd, rfl⟩⟩; refine ⟨_, rfl, ?_⟩))
               (try simp only [Act.put, List.setIfInBounds_toArray, List.set_cons_zero, List.set_cons_succ])
               go_cut [] (fun wc => ∃ (kq : Nat), Aside0 (laws_FnExactMostLegalSet.j7 kq l1 a2 t448 t478 t477 t479 a0_0 l0_1 = some r) ∧ Aside0 (kq ≤ kj61) ∧ Aside0 (Kd.R (Kd.int .i64) 3 wc w.heap.size (fun k_ => some k_ ≠ ((.slice Ao36 t459.length co36) : Value).ownBlock) (.slice Ao37 t448.length co37) t448) ∧ Aside0 (Kd.R (Kd.int .i64) 3 wc w.heap.size (fun k_ => some k_ ≠ ((.slice Ao37 t448.length co37) : Value).ownBlock) (.slice Ao36 t459.length co36) t478) ∧ Aside0 (Kd.R k70 70 wc w.heap.size (fun _ => True) (.slice Ao31 t473.length co31) t473) ∧ Aside0 (wc.heap[gb439]? = some (.cells #[.int .i64 a0_0, (.slice A0_1 l0_1.length c0_1)] 37 (0, 0))) ∧ Aside0 (wc.heap[gb455]? = some (.cells #[.int .i64 t451, (.slice Ao31 t473.length co31)] 25 (0, 0))) ∧ Aside0 (Below w.heap.size w wc))
               case first =>
                have H := HC66.out
                clear HC66
                by_cases c68 : t479 < 0
                ·rw [if_pos c68] at H
                 have c68b0 : decide (t479 < 0) = true := decide_eq_true c68
                 clear c68
                 (first | rw [c68b0] | (simp only [i64_w, i32_w]; rw [c68b0]) | skip)
                 obtain rfl := Option.some.inj H
                 go_wp2
                 go_ret
                 exact ⟨by first | rfl | (simp [errW_none, errW_some] <;> rfl) | (simp [*, errW_none, errW_some] <;> rfl), by exact Lz2 HB GE439 GE455⟩
                rw [if_neg c68] at H
                have c68b0 : decide (t479 < 0) = false := decide_eq_false c68
                clear c68
                (first | rw [c68b0] | (simp only [i64_w, i32_w]; rw [c68b0]) | skip)
                have H' := Aside0.mk H
                clear H
                go_wp2
                go_meet
                case rel => exact ⟨_, H', ⟨by have := HJ3.out; have := HJ7.out; have := HJ18.out; have := HJ40.out; have := HJ48.out; have := HJ54.out; have := HJ61.out; first | omega | exact Nat.le_refl _⟩, ⟨by (try simp only [hl456001_54]); exact Rz HO_8⟩, ⟨by (try simp only [hl456001_54]); exact Rz HO_11⟩, ⟨by (try simp only [hl456001_54]); exact Rz HO_456001⟩, ⟨by (try simp only [hl456001_54]); exact Bz BK439⟩, ⟨by (try simp only [hl456001_54]); exact Bz BK455⟩, ⟨by exact Lz2 HB GE439 GE455⟩⟩
               case rest =>
                clear HC66
                try clear c1
                try clear c6
                try clear c6b0
                try clear c6b1
                try clear c11
                try clear c11b0
                try clear c38
                try clear c46
                try clear c52
                try clear c60
                try clear c60b0
                try clear c63
                try clear c68
                try clear c68b0
                obtain ⟨kq, HA, HJ65, HO_8, HO_11, HO_456001, BK439, BK455, HB⟩ := hcut
                have hl11_65 := (Kd.R_reads' HO_11.out).1
                rw [hl11_65] at HO_11
                (try simp only [hl11_65])
                (try simp only [hl11_65] at BK439)
                (try simp only [hl11_65] at BK455)
                (try simp only [hl11_65] at HO_8)
                (try simp only [hl11_65] at HO_456001)
                cases kq with
                | zero => exact absurd HA.out (by simp [laws_FnExactMostLegalSet.j7])
                | succ kj65 =>
                 have H := HA.out
                 clear HA
                 simp only [laws_FnExactMostLegalSet.j7] at H
                 have HC69 := Aside0.mk H
                 clear H
                 go_upto_if 76 with (fail)
                 go_cut [] (fun wc => ∃ (kq : Nat), Aside0 (laws_FnExactMostLegalSet.j8 kq l1 a2 t448 t478 t477 a0_0 l0_1 = some r) ∧ Aside0 (kq ≤ kj65) ∧ Aside0 (Kd.R (Kd.int .i64) 3 wc w.heap.size (fun k_ => some k_ ≠ ((.slice Ao36 t478.length co36) : Value).ownBlock) (.slice Ao37 t448.length co37) t448) ∧ Aside0 (Kd.R (Kd.int .i64) 3 wc w.heap.size (fun k_ => some k_ ≠ ((.slice Ao37 t448.length co37) : Value).ownBlock) (.slice Ao36 t478.length co36) t478) ∧ Aside0 (Kd.R k70 70 wc w.heap.size (fun _ => True) (.slice Ao31 t473.length co31) t473) ∧ Aside0 (wc.heap[gb439]? = some (.cells #[.int .i64 a0_0, (.slice A0_1 l0_1.length c0_1)] 37 (0, 0))) ∧ Aside0 (wc.heap[gb455]? = some (.cells #[.int .i64 t451, (.slice Ao31 t473.length co31)] 25 (0, 0))) ∧ Aside0 (Below w.heap.size w wc))
                 case first =>
                  have H := HC69.out
                  clear HC69
                  by_cases c70 : t479 = t477
                  ·rw [if_pos c70] at H
                   have c70b0 : (t479 == t477) = true := beq_iff_eq.mpr c70
                   have c70b1 : (t479 != t477) = false := bne_eq_false_iff_eq.mpr c70
                   clear c70
                   (first | rw [c70b0] | (simp only [i64_w, i32_w]; rw [c70b0]) | skip)
                   have H' := Aside0.mk H
                   clear H
                   go_wp2
                   go_meet
                   case rel => exact ⟨_, H', ⟨by have := HJ3.out; have := HJ7.out; have := HJ18.out; have := HJ40.out; have := HJ48.out; have := HJ54.out; have := HJ61.out; have := HJ65.out; first | omega | exact Nat.le_refl _⟩, ⟨by (try simp only [hl456001_54]); (try simp only [hl11_65]); exact Rz HO_8⟩, ⟨by (try simp only [hl456001_54]); (try simp only [hl11_65]); exact Rz HO_11⟩, ⟨by (try simp only [hl456001_54]); (try simp only [hl11_65]); exact Rz HO_456001⟩, ⟨by (try simp only [hl456001_54]); (try simp only [hl11_65]); exact Bz BK439⟩, ⟨by (try simp only [hl456001_54]); (try simp only [hl11_65]); exact Bz BK455⟩, ⟨by exact Lz2 HB GE439 GE455⟩⟩
                  rw [if_neg c70] at H
                  have c70b0 : (t479 == t477) = false := beq_eq_false_iff_ne.mpr c70
                  have c70b1 : (t479 != t477) = true := bne_iff_ne.mpr c70
                  (first | rw [c70b0] | (simp only [i64_w, i32_w]; rw [c70b0]) | skip)
                  obtain rfl := Option.some.inj H
                  go_wp2
                  go_ret
                  exact ⟨by first | rfl | (simp [errW_none, errW_some] <;> rfl) | (simp [*, errW_none, errW_some] <;> rfl), by exact Lz2 HB GE439 GE455⟩
                 case rest =>
                  clear HC69
                  try clear c1
                  try clear c6
                  try clear c6b0
                  try clear c6b1
                  try clear c11
                  try clear c11b0
                  try clear c38
                  try clear c46
                  try clear c52
                  try clear c60
                  try clear c60b0
                  try clear c63
                  try clear c68
                  try clear c68b0
                  try clear c70
                  try clear c70b0
                  try clear c70b1
                  obtain ⟨kq, HA, HJ68, HO_8, HO_11, HO_456001, BK439, BK455, HB⟩ := hcut
                  cases kq with
                  | zero => exact absurd HA.out (by simp [laws_FnExactMostLegalSet.j8])
                  | succ kj68 =>
                   have H := HA.out
                   clear HA
                   simp only [laws_FnExactMostLegalSet.j8] at H
                   replace H := Option.bind_eq_some_iff.mp H
                   obtain ⟨⟨t480, t481⟩, A710, H⟩ := H
                   replace H : ((laws_toIntS.f kj68 l1).bind fun t484 => ((impl_MostLegalSet.f kj68 t480 t481 t484 a2).bind fun t487 => ((laws_eqIntS.f kj68 t487 t448).bind fun t490 => (if t490 = true then (laws_FnExactMostLegalSet.j9 kj68 t478 t477) else (some false))))) = some r := H
                   have A71 := Aside0.mk A710
                   clear A710
                   replace H := Option.bind_eq_some_iff.mp H
                   obtain ⟨t484, A720, H⟩ := H
                   replace H : ((impl_MostLegalSet.f kj68 t480 t481 t484 a2).bind fun t487 => ((laws_eqIntS.f kj68 t487 t448).bind fun t490 => (if t490 = true then (laws_FnExactMostLegalSet.j9 kj68 t478 t477) else (some false)))) = some r := H
                   have A72 := Aside0.mk A720
                   clear A720
                   replace H := Option.bind_eq_some_iff.mp H
                   obtain ⟨t487, A730, H⟩ := H
                   replace H : ((laws_eqIntS.f kj68 t487 t448).bind fun t490 => (if t490 = true then (laws_FnExactMostLegalSet.j9 kj68 t478 t477) else (some false))) = some r := H
                   have A73 := Aside0.mk A730
                   clear A730
                   replace H := Option.bind_eq_some_iff.mp H
                   obtain ⟨t490, A740, H⟩ := H
                   replace H : (if t490 = true then (laws_FnExactMostLegalSet.j9 kj68 t478 t477) else (some false)) = some r := H
                   have A74 := Aside0.mk A740
                   clear A740
                   have HC75 := Aside0.mk H
                   clear H
                   have hnb76 := NB439_455.out
                   have hnc76 := NB455_439.out
                   have hcz77_0 : wc.cell? ⟨gb439, 0, none⟩ = some (.int .i64 a0_0) := (blk_cell BK439.out 0).trans rfl
                   have hcz77_1 : wc.cell? ⟨gb439, 1, none⟩ = some (.slice A0_1 l0_1.length c0_1) := (blk_cell BK439.out 1).trans rfl
                   have hfz77_0 := blk_frozen BK439.out 0
                   have hfz77_1 := blk_frozen BK439.out 1
                   go_upto_if 86 with (first | ((with_reducible refine gate_callee (f := 25) rfl ?_); refine goesM_ (some 78) rfl rfl Try.func25 (by kernel_rfl) rfl #[.agg #[.int .i64 a0_0, .slice A0_1 l0_1.length c0_1]] rfl ?_; (with_reducible refine (laws_toGraph.calls kj68 a0_0 _ _ l0_1 t480 t481 _ ?side1 ?side2 A71.out).mono ?_); (case side1 => exact Cz ((Kd.C_below HR0_1.out HB.out))); (case side2 => exact HC0_1.out); rintro e w78 ⟨v482, rfl, ho0, hb⟩; refine ⟨_, rfl, ?_⟩; replace HO_8 := Aside0.mk (Kd.R_below (Rz HO_8) hb); replace HO_11 := Aside0.mk (Kd.R_below (Rz HO_11) hb); have HO483 := Aside0.mk (Kd.R_lower (Kd.R_new' ho0 (Kd.R_lt (Rz HO_456001))) (below_size (by exact Lz2 HB GE439 GE455))); replace HO_456001 := Aside0.mk (Kd.R_elder' (Rz HO_456001) (Kd.R_base ho0) hb); replace BK439 := Aside0.mk (blk_below (g := gb439) (o := .cells #[.int .i64 a0_0, .slice A0_1 l0_1.length c0_1] 37 (0, 0)) (Bz BK439) hb); replace BK455 := Aside0.mk (blk_below (g := gb455) (o := .cells #[.int .i64 t451, .slice Ao31 t473.length co31] 25 (0, 0)) (Bz BK455) hb); replace HB := Aside0.mk (below_step (by exact Lz2 HB GE439 GE455) hb); (try clear hb); (try clear ho0)) | ((with_reducible refine gate_callee (f := 26) rfl ?_); refine goesM_ (some 80) rfl rfl Try.func26 (by kernel_rfl) rfl #[.slice A1 l1.length c1] rfl ?_; (with_reducible refine (laws_toIntS.calls kj68 _ _ l1 t484 _ ?side1 ?side2 A72.out).mono ?_); (case side1 => exact Cz ((Kd.C_below HR1.out HB.out))); (case side2 => exact HC1.out); rintro e w79 ⟨v485, rfl, ho0, hb⟩; refine ⟨_, rfl, ?_⟩; replace HO_456001 := Aside0.mk (Kd.R_below (Rz HO_456001) hb); replace HO483 := Aside0.mk (Kd.R_below (Rz HO483) hb); have HO486 := Aside0.mk (Kd.R_lower (Kd.R_new' (Kd.R_new' ho0 (Kd.R_lt (Rz HO_8))) (Kd.R_lt (Rz HO_11))) (below_size (by exact Lz2 HB GE439 GE455))); replace HO_8 := Aside0.mk (Kd.R_elder' (Rz HO_8) (Kd.R_base ho0) hb); replace HO_11 := Aside0.mk (Kd.R_elder' (Rz HO_11) (Kd.R_base ho0) hb); replace BK439 := Aside0.mk (blk_below (g := gb439) (o := .cells #[.int .i64 a0_0, .slice A0_1 l0_1.length c0_1] 37 (0, 0)) (Bz BK439) hb); replace BK455 := Aside0.mk (blk_below (g := gb455) (o := .cells #[.int .i64 t451, .slice Ao31 t473.length co31] 25 (0, 0)) (Bz BK455) hb); replace HB := Aside0.mk (below_step (by exact Lz2 HB GE439 GE455) hb); (try clear hb); (try clear ho0); obtain ⟨Ao80, co80, eo80⟩ := Kd.R_slice HO483.out; subst eo80; obtain ⟨Ao81, co81, eo81⟩ := Kd.R_slice HO486.out; subst eo81) | ((with_reducible refine gate_callee (f := 27) rfl ?_); refine goesM_ (some 82) rfl rfl Try.func27 (by kernel_rfl) rfl #[.agg #[.int .i64 t480, .slice Ao80 t481.length co80], .slice Ao81 t484.length co81, .int .i64 a2] rfl ?_; (with_reducible refine (impl_MostLegalSet.calls kj68 t480 _ _ t481 _ _ t484 a2 t487 _ ?side1 ?side2 ?side3 ?side4 A73.out).mono ?_); (case side1 => exact Cz ((Kd.R_reads' HO483.out).2.2)); (case side2 => exact (Kd.R_reads' HO483.out).2.1); (case side3 => exact Cz ((Kd.R_reads' HO486.out).2.2)); (case side4 => exact (Kd.R_reads' HO486.out).2.1); rintro e w82 ⟨v488, rfl, ho0, hb⟩; refine ⟨_, rfl, ?_⟩; replace HO_456001 := Aside0.mk (Kd.R_below (Rz HO_456001) hb); replace HO483 := Aside0.mk (Kd.R_below (Rz HO483) hb); have HO489 := Aside0.mk (Kd.R_lower (Kd.R_new' (Kd.R_new' (Kd.R_new' ho0 (Kd.R_lt (Rz HO_8))) (Kd.R_lt (Rz HO_11))) (Kd.R_lt (Rz HO486))) (below_size (by exact Lz2 HB GE439 GE455))); replace HO_8 := Aside0.mk (Kd.R_elder' (Rz HO_8) (Kd.R_base ho0) hb); replace HO_11 := Aside0.mk (Kd.R_elder' (Rz HO_11) (Kd.R_base ho0) hb); replace HO486 := Aside0.mk (Kd.R_elder' (Rz HO486) (Kd.R_base ho0) hb); replace BK439 := Aside0.mk (blk_below (g := gb439) (o := .cells #[.int .i64 a0_0, .slice A0_1 l0_1.length c0_1] 37 (0, 0)) (Bz BK439) hb); replace BK455 := Aside0.mk (blk_below (g := gb455) (o := .cells #[.int .i64 t451, .slice Ao31 t473.length co31] 25 (0, 0)) (Bz BK455) hb); replace HB := Aside0.mk (below_step (by exact Lz2 HB GE439 GE455) hb); (try clear hb); (try clear ho0); obtain ⟨Ao83, co83, eo83⟩ := Kd.R_slice HO489.out; subst eo83) | ((with_reducible refine gate_callee (f := 28) rfl ?_); refine goesM_ (some 85) rfl rfl Try.func28 (by kernel_rfl) rfl #[.slice Ao83 t487.length co83, .slice Ao37 t448.length co37] rfl ?_; (with_reducible refine (laws_eqIntS.calls kj68 _ _ t487 _ _ t448 t490 _ ?side1 ?side2 ?side3 ?side4 A74.out).mono ?_); (case side1 => exact Cz ((Kd.R_reads' HO489.out).2.2)); (case side2 => exact (Kd.R_reads' HO489.out).2.1); (case side3 => exact Cz ((Kd.R_reads' HO_8.out).2.2)); (case side4 => exact (Kd.R_reads' HO_8.out).2.1); rintro e w' ⟨rfl, ⟨nd, rfl⟩⟩; refine ⟨_, rfl, ?_⟩))
                   (try simp only [Act.put, List.setIfInBounds_toArray, List.set_cons_zero, List.set_cons_succ])
                   go_cut [] (fun wc => ∃ (kq : Nat), Aside0 (laws_FnExactMostLegalSet.j9 kq t478 t477 = some r) ∧ Aside0 (kq ≤ kj68) ∧ Aside0 (Kd.R (Kd.int .i64) 3 wc w.heap.size (fun _ => True) (.slice Ao36 t478.length co36) t478) ∧ Aside0 (Kd.R k70 70 wc w.heap.size (fun _ => True) (.slice Ao31 t473.length co31) t473) ∧ Aside0 (wc.heap[gb439]? = some (.cells #[.int .i64 a0_0, (.slice A0_1 l0_1.length c0_1)] 37 (0, 0))) ∧ Aside0 (wc.heap[gb455]? = some (.cells #[.int .i64 t451, (.slice Ao31 t473.length co31)] 25 (0, 0))) ∧ Aside0 (Below w.heap.size w wc))
                   case first =>
                    have H := HC75.out
                    clear HC75
                    by_cases c84 : t490 = true
                    ·subst c84
                     have H1 : (laws_FnExactMostLegalSet.j9 kj68 t478 t477) = some r := by rw [if_pos rfl] at H; exact H
                     clear H
                     have H := H1
                     clear H1
                     have H' := Aside0.mk H
                     clear H
                     go_wp2
                     go_meet
                     case rel => exact ⟨_, H', ⟨by have := HJ3.out; have := HJ7.out; have := HJ18.out; have := HJ40.out; have := HJ48.out; have := HJ54.out; have := HJ61.out; have := HJ65.out; have := HJ68.out; first | omega | exact Nat.le_refl _⟩, ⟨by (try simp only [hl456001_54]); (try simp only [hl11_65]); (with_reducible repeat (first | apply Kd.R_alloc | apply Kd.R_drewN | apply Kd.R_drew)); exact Kd.R_mono HO_11.out (fun _ hk => trivial)⟩, ⟨by (try simp only [hl456001_54]); (try simp only [hl11_65]); (with_reducible repeat (first | apply Kd.R_alloc | apply Kd.R_drewN | apply Kd.R_drew)); exact Kd.R_mono HO_456001.out (fun _ hk => trivial)⟩, ⟨by (try simp only [hl456001_54]); (try simp only [hl11_65]); exact Bz BK439⟩, ⟨by (try simp only [hl456001_54]); (try simp only [hl11_65]); exact Bz BK455⟩, ⟨by exact Lz2 HB GE439 GE455⟩⟩
                    replace c84 := Bool.eq_false_iff.mpr c84
                    subst c84
                    have H1 : (some false) = some r := by rw [if_neg (show ¬ (false = true) by decide)] at H; exact H
                    clear H
                    have H := H1
                    clear H1
                    obtain rfl := Option.some.inj H
                    go_wp2
                    go_ret
                    exact ⟨by first | rfl | (simp [errW_none, errW_some] <;> rfl) | (simp [*, errW_none, errW_some] <;> rfl), by exact Lz2 HB GE439 GE455⟩
                   case rest =>
                    clear HC75
                    try clear c1
                    try clear c6
                    try clear c6b0
                    try clear c6b1
                    try clear c11
                    try clear c11b0
                    try clear c38
                    try clear c46
                    try clear c52
                    try clear c60
                    try clear c60b0
                    try clear c63
                    try clear c68
                    try clear c68b0
                    try clear c70
                    try clear c70b0
                    try clear c70b1
                    try clear c84
                    obtain ⟨kq, HA, HJ74, HO_11, HO_456001, BK439, BK455, HB⟩ := hcut
                    cases kq with
                    | zero => exact absurd HA.out (by simp [laws_FnExactMostLegalSet.j9])
                    | succ kj74 =>
                     have H := HA.out
                     clear HA
                     simp only [laws_FnExactMostLegalSet.j9] at H
                     replace H := Option.bind_eq_some_iff.mp H
                     obtain ⟨t491, A850, H⟩ := H
                     replace H : (if t491 < 0 then (some false) else (laws_FnExactMostLegalSet.j10 kj74 t477 t491)) = some r := H
                     have A85 := Aside0.mk A850
                     clear A850
                     have HC86 := Aside0.mk H
                     clear H
                     go_upto_if 91 with (first | ((with_reducible refine gate_callee (f := 32) rfl ?_); refine goesM_ (some 89) rfl rfl Try.func32 (by kernel_rfl) rfl #[.slice Ao36 t478.length co36, .int .i64 1] rfl ?_; (with_reducible refine (laws_heldIntS.calls kj74 _ _ t478 1 t491 _ ?side1 ?side2 A85.out).mono ?_); (case side1 => exact Cz ((Kd.R_reads' HO_11.out).2.2)); (case side2 => exact (Kd.R_reads' HO_11.out).2.1); rintro e w' ⟨rfl, ⟨nd, rfl⟩⟩; refine ⟨_, rfl, ?_⟩))
                     (try simp only [Act.put, List.setIfInBounds_toArray, List.set_cons_zero, List.set_cons_succ])
                     go_cut [] (fun wc => ∃ (kq : Nat), Aside0 (laws_FnExactMostLegalSet.j10 kq t477 t491 = some r) ∧ Aside0 (kq ≤ kj74) ∧ Aside0 (Kd.R k70 70 wc w.heap.size (fun _ => True) (.slice Ao31 t473.length co31) t473) ∧ Aside0 (wc.heap[gb439]? = some (.cells #[.int .i64 a0_0, (.slice A0_1 l0_1.length c0_1)] 37 (0, 0))) ∧ Aside0 (wc.heap[gb455]? = some (.cells #[.int .i64 t451, (.slice Ao31 t473.length co31)] 25 (0, 0))) ∧ Aside0 (Below w.heap.size w wc))
                     case first =>
                      have H := HC86.out
                      clear HC86
                      by_cases c87 : t491 < 0
                      ·rw [if_pos c87] at H
                       have c87b0 : decide (t491 < 0) = true := decide_eq_true c87
                       clear c87
                       (first | rw [c87b0] | (simp only [i64_w, i32_w]; rw [c87b0]) | skip)
                       obtain rfl := Option.some.inj H
                       go_wp2
                       go_ret
                       exact ⟨by first | rfl | (simp [errW_none, errW_some] <;> rfl) | (simp [*, errW_none, errW_some] <;> rfl), by exact Lz2 HB GE439 GE455⟩
                      rw [if_neg c87] at H
                      have c87b0 : decide (t491 < 0) = false := decide_eq_false c87
                      clear c87
                      (first | rw [c87b0] | (simp only [i64_w, i32_w]; rw [c87b0]) | skip)
                      have H' := Aside0.mk H
                      clear H
                      go_wp2
                      go_meet
                      case rel => exact ⟨_, H', ⟨by have := HJ3.out; have := HJ7.out; have := HJ18.out; have := HJ40.out; have := HJ48.out; have := HJ54.out; have := HJ61.out; have := HJ65.out; have := HJ68.out; have := HJ74.out; first | omega | exact Nat.le_refl _⟩, ⟨by (try simp only [hl456001_54]); (try simp only [hl11_65]); exact Rz HO_456001⟩, ⟨by (try simp only [hl456001_54]); (try simp only [hl11_65]); exact Bz BK439⟩, ⟨by (try simp only [hl456001_54]); (try simp only [hl11_65]); exact Bz BK455⟩, ⟨by exact Lz2 HB GE439 GE455⟩⟩
                     case rest =>
                      clear HC86
                      try clear c1
                      try clear c6
                      try clear c6b0
                      try clear c6b1
                      try clear c11
                      try clear c11b0
                      try clear c38
                      try clear c46
                      try clear c52
                      try clear c60
                      try clear c60b0
                      try clear c63
                      try clear c68
                      try clear c68b0
                      try clear c70
                      try clear c70b0
                      try clear c70b1
                      try clear c84
                      try clear c87
                      try clear c87b0
                      obtain ⟨kq, HA, HJ85, HO_456001, BK439, BK455, HB⟩ := hcut
                      cases kq with
                      | zero => exact absurd HA.out (by simp [laws_FnExactMostLegalSet.j10])
                      | succ kj85 =>
                       have H := HA.out
                       clear HA
                       simp only [laws_FnExactMostLegalSet.j10] at H
                       by_cases c88 : t491 = t477
                       ·rw [if_pos c88] at H
                        have c88b0 : (t491 == t477) = true := beq_iff_eq.mpr c88
                        have c88b1 : (t491 != t477) = false := bne_eq_false_iff_eq.mpr c88
                        clear c88
                        obtain rfl := Option.some.inj H
                        go_wp2
                        go_ret
                        exact ⟨by first | rfl | (simp [errW_none, errW_some] <;> rfl) | (simp [*, errW_none, errW_some] <;> rfl), by exact Lz2 HB GE439 GE455⟩
                       rw [if_neg c88] at H
                       have c88b0 : (t491 == t477) = false := beq_eq_false_iff_ne.mpr c88
                       have c88b1 : (t491 != t477) = true := bne_iff_ne.mpr c88
                       obtain rfl := Option.some.inj H
                       go_wp2
                       go_ret
                       exact ⟨by first | rfl | (simp [errW_none, errW_some] <;> rfl) | (simp [*, errW_none, errW_some] <;> rfl), by exact Lz2 HB GE439 GE455⟩

end Go.Proofs.Ytnebapnfkolflaa.P
