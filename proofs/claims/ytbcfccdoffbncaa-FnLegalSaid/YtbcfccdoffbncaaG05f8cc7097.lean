/- Functions of the program as plain Lean functions and that the machine's calls answer as they do, the words of the print that these use, lemmas and plain proofs of laws. Put together by a program of this work that leaves out what nothing uses; Lean checks it. -/
import Derived.Test.YtbcfccdoffbncaaG9c6b992078
import Derived.Test.YtbcfccdoffbncaaGc83b03f08c
import Derived.Test.YtbcfccdoffbncaaG1633c61cc1
import Derived.Test.YtbcfccdoffbncaaG4ecab7aab0
import Derived.Test.YtbcfccdoffbncaaGa6b61c0ea3
import Derived.Test.YtbcfccdoffbncaaG8103af978d
section
namespace Go.Proofs.Ytbcfccdoffbncaa.P
open Go.RowKit Go.Proofs.YtbcfccdoffbncaaW.PrintWords Go.Proofs.YtbcfccdoffbncaaW.PrintLast Go.Proofs.YtbcfccdoffbncaaW.PrintMore
attribute [local go_sem] max2_int min2_int max_two min_two max_three min_three max_four min_four
set_option linter.unusedVariables false
set_option linter.unusedSimpArgs false
def spec_l10Draw.l0 : Nat → Int → List Int → Int → List Int → Int → Int → Int → List (S67) → Option (List Int × Int × Int)
 | 0, _, _, _, _, _, _, _, _ => none
 | k + 1, x2, x7, x8, x1000, x1001, x1002, x871000, x871001 => if x8 < x871000 then ((spec_l01Below.f x1000 x1001 x1002 7).bind fun bt874 => (if x7.length < 17592186044416 then (spec_l10Draw.l0 k x2 (x7 ++ [bt874.1]) (wrap64 (x8 + 1)) x1000 bt874.2.1 bt874.2.2 x871000 x871001) else (none))) else (if x2 ≥ 0 then (if x2 < (x7.length : Int) then (if 0 ≤ x2 then (some ((x7.set (x2 : Int).toNat 0), x1001, x1002)) else (none)) else (some (x7, x1001, x1002))) else (some (x7, x1001, x1002)))
def spec_l10Draw.f (k : Nat) (s0_0 : List Int) (s0_1 : Int) (s0_2 : Int) (a1_0 : Int) (l1_1 : List (S67)) (a2 : Int) : Option (List Int × Int × Int) := spec_l10Draw.l0 k a2 (([] : List Int)) 0 s0_0 s0_1 s0_2 a1_0 l1_1
set_option maxHeartbeats 8000000 in
set_option maxRecDepth 100000 in
theorem spec_l10Draw.calls (k : Nat) (g : Nat) (s0_0 : List Int) (s0_1 : Int) (s0_2 : Int) (a1_0 : Int) (A1_1 : Option Addr) (c1_1 : Nat) (l1_1 : List (S67)) (a2 : Int) (r1 : List Int) (r2 : Int) (r3 : Int) (w0 w : World) (hI : IsS101 w0 w g s0_0 s0_1 s0_2) (hB : Below w0.heap.size w0 w) (hr1_1 : ∀ W_, KeepBut w W_ g none → Kd.C k67 W_ A1_1 l1_1.length l1_1) (hc1_1 : l1_1.length ≤ c1_1) (h : spec_l10Draw.f k s0_0 s0_1 s0_2 a1_0 l1_1 a2 = some (r1, r2, r3)) :
  Calls Try.prog 77 #[.pointer (some ⟨g, 0, none⟩), .agg #[.int .i64 a1_0, .slice A1_1 l1_1.length c1_1], .int .i64 a2] w fun e w' => ∃ v0_ : Value, e = .returned (v0_) ∧ Kd.R (Kd.int .i64) 3 w' w.heap.size (fun _ => True) v0_ r1 ∧ IsS101 w0 w' g s0_0 r2 r3 ∧ Below w0.heap.size w0 w' ∧ KeepBut w w' g none := by
 have hu31 := Try.underlying31
 have HR1_1 := Aside0.mk hr1_1
 have HC1_1 := Aside0.mk hc1_1
 clear hr1_1 hc1_1
 have HI0 := Aside0.mk hI
 have HK := Aside0.mk (KeepBut.refl w g none)
 have HL := Aside0.mk hB.size
 clear hI
 have HW0 := Aside0.mk hB.size
 have HB := Aside0.mk hB
 clear hB
 have H : (spec_l10Draw.l0 k a2 (([] : List Int)) 0 s0_0 s0_1 s0_2 a1_0 l1_1) = some (r1, r2, r3) := h
 clear h
 obtain ⟨y871, hy871⟩ : ∃ y_ : List Int, y_ = (([] : List Int)) := ⟨_, rfl⟩
 replace H : (spec_l10Draw.l0 k a2 y871 0 s0_0 s0_1 s0_2 a1_0 l1_1) = some (r1, r2, r3) := by first | (rw [hy871]; with_reducible exact H) | (have H2_ := (Option.bind_some _ _).symm.trans H; rw [hy871]; with_reducible exact H2_) | (have H2_ := (Option.bind_some _ _).symm.trans H; with_reducible exact H2_) | with_reducible exact H | (rw [hy871]; exact H) | exact H
 have Ny871 := Aside0.mk hy871
 clear hy871
 have H' := Aside0.mk H
 clear H
 go_enter Try.func77, Try.ntmps77
 go_wp2_with (first | ((with_reducible refine gate_dst (N := 4) rfl ?_); (try (refine gate_guard (by rfl) ?_; dsimp only)); refine box_event ?hg (N := 4) ?hd (cs := #[.int .i64 a1_0, .slice A1_1 l1_1.length c1_1]) (t := 31) ?hr ?_; (case hd => rfl); (case hg => rfl); (case hr => first | (go_simp; done) | (go_simp; rfl)); intro gb870 hg w4 hbox hb; replace HB := Aside0.mk (below_step (by repeat (first | (with_reducible first | exact HB.out | apply below_alloc | apply pw_below_drewN | apply below_drew1 | refine below_set ?_ (IsS101.ge HI0.out)) | exact HB.out)) hb); have BK870 := Aside0.mk (hbox); have GW870 := Aside0.mk ((by rw [hg]; exact (keep_size (w := w) (g := g) (row := none) (by repeat (first | (with_reducible first | exact HK.out | apply KeepBut.set_ | apply keep_drewN | apply keep_drew | apply keep_alloc) | exact HK.out))) : w.heap.size ≤ gb870)); have GE870 := Aside0.mk ((Nat.le_trans HW0.out (by rw [hg]; exact (keep_size (w := w) (g := g) (row := none) (by repeat (first | (with_reducible first | exact HK.out | apply KeepBut.set_ | apply keep_drewN | apply keep_drew | apply keep_alloc) | exact HK.out))) : w.heap.size ≤ gb870) : w0.heap.size ≤ gb870)); replace HK := Aside0.mk (KeepBut.trans (by repeat (first | (with_reducible first | exact HK.out | apply KeepBut.set_ | apply keep_drewN | apply keep_drew | apply keep_alloc) | exact HK.out)) (KeepBut.of_below hb g none) (.inl rfl)); have NB0_870 := Aside0.mk ((by rw [hg]; exact Nat.ne_of_lt (IsS101.lt (show IsS101 w0 _ g s0_0 s0_1 s0_2 from by repeat (first | (with_reducible first | exact HI0.out | apply IsS101.alloc | apply IsS101.drewN | apply IsS101.drew | apply IsS101.set_1 | apply IsS101.set_2) | exact HI0.out))) : g ≠ gb870)); have NB870_0 := Aside0.mk ((by rw [hg]; exact Nat.ne_of_gt (IsS101.lt (show IsS101 w0 _ g s0_0 s0_1 s0_2 from by repeat (first | (with_reducible first | exact HI0.out | apply IsS101.alloc | apply IsS101.drewN | apply IsS101.drew | apply IsS101.set_1 | apply IsS101.set_2) | exact HI0.out))) : gb870 ≠ g)); replace HI0 := Aside0.mk (IsS101.below (by repeat (first | (with_reducible first | exact HI0.out | apply IsS101.alloc | apply IsS101.drewN | apply IsS101.drew | apply IsS101.set_1 | apply IsS101.set_2) | exact HI0.out)) hb); clear hb hbox hg) | ((with_reducible refine gate_dst (N := 9) rfl ?_); (try (refine gate_guard (by rfl) ?_; dsimp only)); refine Kd.R_lit (Kd.int .i64) _ 3 ?hg (N := 9) ?hd (xs := ([] : List Int)) (inner := []) (ok := fun _ => True) (okp := fun _ => True) ?hr ?hp (fun _ hk => hk) trivial (Below.refl _ _) (Nat.le_refl _) (by simp) ?_; (case hd => rfl); (case hg => rfl); (case hr => first | (go_simp; done) | (go_simp; rfl)); (case hp => exact (Reps.none _ _)); intro v872 w5 ho6 hb hg_ hnew_; clear hg_ hnew_; (first | rw [← Ny871.out] at ho6 | (simp only [Int.reduceToNat] at ho6; rw [← Ny871.out] at ho6)); have HO873 := Aside0.mk (Kd.R_lower ho6 (keep_size (w := w) (g := g) (row := none) (by repeat (first | (with_reducible first | exact HK.out | apply KeepBut.set_ | apply keep_drewN | apply keep_drew | apply keep_alloc | refine keep_far ?_ GW870.out _) | exact HK.out)))); replace BK870 := Aside0.mk (blk_below (g := gb870) (o := .cells #[.int .i64 a1_0, .slice A1_1 l1_1.length c1_1] 31 (0, 0)) (Bz BK870) hb); replace HK := Aside0.mk (KeepBut.trans (by repeat (first | (with_reducible first | exact HK.out | apply KeepBut.set_ | apply keep_drewN | apply keep_drew | apply keep_alloc | refine keep_far ?_ GW870.out _) | exact HK.out)) (KeepBut.of_below hb g none) (.inl rfl)); replace HB := Aside0.mk (below_step (by repeat (first | (with_reducible first | exact HB.out | apply below_alloc | apply pw_below_drewN | apply below_drew1 | refine below_set ?_ (IsS101.ge HI0.out) | refine below_set ?_ GE870.out) | exact HB.out)) hb); replace HI0 := Aside0.mk (IsS101.below (by repeat (first | (with_reducible first | exact HI0.out | apply IsS101.alloc | apply IsS101.drewN | apply IsS101.drew | apply IsS101.set_1 | apply IsS101.set_2 | refine IsS101.far ?_ NB0_870.out _) | exact HI0.out)) hb); clear hb ho6))
 go_loopg [7, 8] k (fun kq v7 v8 w' => ∃ (x7_1 : List Int) (x8_1 : Int) (x1001_1 : Int) (x1002_1 : Int), v8 = .int .i64 x8_1 ∧ Aside0 (spec_l10Draw.l0 kq a2 x7_1 x8_1 s0_0 x1001_1 x1002_1 a1_0 l1_1 = some (r1, r2, r3)) ∧ Aside0 (kq ≤ k) ∧ Aside0 (Kd.R (Kd.int .i64) 3 w' w.heap.size (fun _ => True) v7 x7_1) ∧ Aside0 (w'.heap[gb870]? = some (.cells #[.int .i64 a1_0, (.slice A1_1 l1_1.length c1_1)] 31 (0, 0))) ∧ Aside0 (IsS101 w0 w' g s0_0 x1001_1 x1002_1) ∧ Aside0 (KeepBut w w' g none) ∧ Aside0 (Below w0.heap.size w0 w'))
 case atStart => exact ⟨(y871), (0), (s0_1), (s0_2), eqA, H', ⟨Nat.le_refl _⟩, ⟨by exact Rz HO873⟩, ⟨by exact Bz BK870⟩, ⟨by repeat (first | (with_reducible first | exact HI0.out | apply IsS101.alloc | apply IsS101.drewN | apply IsS101.drew | apply IsS101.set_1 | apply IsS101.set_2 | refine IsS101.far ?_ NB0_870.out _) | exact HI0.out)⟩, ⟨by repeat (first | (with_reducible first | exact HK.out | apply KeepBut.set_ | apply keep_drewN | apply keep_drew | apply keep_alloc | refine keep_far ?_ GW870.out _) | exact HK.out)⟩, ⟨by repeat (first | (with_reducible first | exact HB.out | apply below_alloc | apply pw_below_drewN | apply below_drew1 | refine below_set ?_ (IsS101.ge HI0.out) | refine below_set ?_ GE870.out) | exact HB.out)⟩⟩
 case round =>
  clear H'
  obtain ⟨x7_1, x8_1, x1001_1, x1002_1, rfl, HA, HK1, HO_7, BK870, HI0, HK, HB⟩ := hrel
  cases gk with
  | zero => exact absurd HA.out (by simp [spec_l10Draw.l0])
  | succ k1 =>
   have H := HA.out
   clear HA
   simp only [spec_l10Draw.l0] at H
   by_cases c7 : x8_1 < a1_0
   ·rw [if_pos c7] at H
    have c7b0 : decide (x8_1 < a1_0) = true := decide_eq_true c7
    clear c7
    replace H := Option.bind_eq_some_iff.mp H
    obtain ⟨⟨t874, t875, t876⟩, A80, H⟩ := H
    replace H : (if x7_1.length < 17592186044416 then (spec_l10Draw.l0 k1 a2 (x7_1 ++ [t874]) (wrap64 (x8_1 + 1)) s0_0 t875 t876 a1_0 l1_1) else (none)) = some (r1, r2, r3) := H
    have A8 := Aside0.mk A80
    clear A80
    by_cases c9 : x7_1.length < 17592186044416
    ·rw [if_pos c9] at H
     have LMc9 := Aside0.mk c9
     clear c9
     obtain ⟨y877, hy877⟩ : ∃ y_ : List Int, y_ = (x7_1 ++ [t874]) := ⟨_, rfl⟩
     replace H : (spec_l10Draw.l0 k1 a2 y877 (wrap64 (x8_1 + 1)) s0_0 t875 t876 a1_0 l1_1) = some (r1, r2, r3) := by first | (rw [hy877]; with_reducible exact H) | (have H2_ := (Option.bind_some _ _).symm.trans H; rw [hy877]; with_reducible exact H2_) | (have H2_ := (Option.bind_some _ _).symm.trans H; with_reducible exact H2_) | with_reducible exact H | (rw [hy877]; exact H) | exact H
     have Ny877 := Aside0.mk hy877
     clear hy877
     have H' := Aside0.mk H
     clear H
     have hnb10 := NB870_0.out
     have hnc10 := NB0_870.out
     have hcz11_0 : wr.cell? ⟨gb870, 0, none⟩ = some (.int .i64 a1_0) := (blk_cell BK870.out 0).trans rfl
     have hcz11_1 : wr.cell? ⟨gb870, 1, none⟩ = some (.slice A1_1 l1_1.length c1_1) := (blk_cell BK870.out 1).trans rfl
     have hfz11_0 := blk_frozen BK870.out 0
     have hfz11_1 := blk_frozen BK870.out 1
     go_wp2_with (first | ((with_reducible refine gate_callee (f := 75) rfl ?_); refine goesM_ (some 18) rfl rfl Try.func75 (by kernel_rfl) rfl #[.pointer (some ⟨g, 0, none⟩), .int .i64 7] rfl ?_; (with_reducible refine (spec_l01Below.calls g s0_0 x1001_1 x1002_1 7 t874 t875 t876 w0 _ ?side1 ?side2 A8.out).mono ?_); (case side1 => repeat (first | (with_reducible first | exact HI0.out | apply IsS101.alloc | apply IsS101.drewN | apply IsS101.drew | apply IsS101.set_1 | apply IsS101.set_2 | refine IsS101.far ?_ NB0_870.out _) | exact HI0.out)); (case side2 => repeat (first | (with_reducible first | exact HB.out | apply below_alloc | apply pw_below_drewN | apply below_drew1 | refine below_set ?_ (IsS101.ge HI0.out) | refine below_set ?_ GE870.out) | exact HB.out)); rintro e w12 ⟨rfl, hi, hb, hk⟩; refine ⟨_, rfl, ?_⟩; replace HO_7 := Aside0.mk (Kd.R_mono (Kd.R_keep (IsS101.apart (show IsS101 w0 _ g s0_0 x1001_1 x1002_1 from by repeat (first | (with_reducible first | exact HI0.out | apply IsS101.alloc | apply IsS101.drewN | apply IsS101.drew | apply IsS101.set_1 | apply IsS101.set_2 | refine IsS101.far ?_ NB0_870.out _) | exact HI0.out)) (Rz HO_7) (by decide)) hk (fun _ h => h.2)) (fun _ h => h.1)); replace BK870 := Aside0.mk (KeepBut.blk hk (g' := gb870) (o := .cells #[.int .i64 a1_0, .slice A1_1 l1_1.length c1_1] 31 (0, 0)) (Bz BK870) NB870_0.out (by simp)); replace HK := Aside0.mk (KeepBut.trans (by repeat (first | (with_reducible first | exact HK.out | apply KeepBut.set_ | apply keep_drewN | apply keep_drew | apply keep_alloc | refine keep_far ?_ GW870.out _) | exact HK.out)) hk (.inl rfl)); replace HB := Aside0.mk (hb); replace HI0 := Aside0.mk (hi); (try clear hb); (try clear hb2); (try clear hk); (try clear hi)) | ((with_reducible refine gate_builtin (b := .append) (xs := #[.tmp 16, .tmp 19]) rfl ?_); (try (refine gate_guard (by rfl) ?_; dsimp only)); at_builtin; refine Kd.R_append (Kd.int .i64) w.heap.size rfl (.tmp 16) (.tmp 19) 25 3 (.int .i64 0) 8 rfl Try.underlying25 info3 rfl (by decide) (by omega) u7 x7_1 t874 [.int .i64 t874] (fun _ => True) (fun _ => False) rfl rfl ?aP (fun _ hk => hk.elim) ?aF ?aO (Below.refl _ _) ?aS ?aL ?_; (case aP => exact rfl); (case aF => exact (fun _ _ => trivial)); (case aO => exact (Rz HO_7)); (case aS => exact (keep_size (w := w) (g := g) (row := none) (by repeat (first | (with_reducible first | exact HK.out | apply KeepBut.set_ | apply keep_drewN | apply keep_drew | apply keep_alloc | refine keep_far ?_ GW870.out _) | exact HK.out)))); (case aL => have := LMc9.out; omega); intro v878 w13 ho hb hg hat; rw [← Ny877.out] at ho; replace BK870 := Aside0.mk (blk_grown (g := gb870) (o := .cells #[.int .i64 a1_0, .slice A1_1 l1_1.length c1_1] 31 (0, 0)) (Bz BK870) hg (Kd.R_ne HO_7.out BK870.out (by decide))); replace HB := Aside0.mk (below_weaken (by repeat (first | (with_reducible first | exact HB.out | apply below_alloc | apply pw_below_drewN | apply below_drew1 | refine below_set ?_ (IsS101.ge HI0.out) | refine below_set ?_ GE870.out) | exact HB.out)) HL.out hb); replace HI0 := Aside0.mk (IsS101.grownF HI0.out (by repeat (first | (with_reducible first | exact HI0.out | apply IsS101.alloc | apply IsS101.drewN | apply IsS101.drew | apply IsS101.set_1 | apply IsS101.set_2 | refine IsS101.far ?_ NB0_870.out _) | exact HI0.out)) hg (IsS101.own_ne HI0.out HO_7.out (by decide))); replace HK := Aside0.mk (KeepBut.trans (by repeat (first | (with_reducible first | exact HK.out | apply KeepBut.set_ | apply keep_drewN | apply keep_drew | apply keep_alloc | refine keep_far ?_ GW870.out _) | exact HK.out)) (KeepBut.of_grown hg g) (Kd.R_base2 HO_7.out)); have HO879 := Aside0.mk (ho); clear HO_7; clear ho hb hg hat))
     go_roundg k1
     case measure => have := HK1.out; omega
     case rel => exact ⟨(y877), (wrap64 (x8_1 + 1)), (t875), (t876), eqA, H', ⟨by have := HK1.out; omega⟩, ⟨by exact Rz HO879⟩, ⟨by exact Bz BK870⟩, ⟨by repeat (first | (with_reducible first | exact HI0.out | apply IsS101.alloc | apply IsS101.drewN | apply IsS101.drew | apply IsS101.set_1 | apply IsS101.set_2 | refine IsS101.far ?_ NB0_870.out _) | exact HI0.out)⟩, ⟨by repeat (first | (with_reducible first | exact HK.out | apply KeepBut.set_ | apply keep_drewN | apply keep_drew | apply keep_alloc | refine keep_far ?_ GW870.out _) | exact HK.out)⟩, ⟨by repeat (first | (with_reducible first | exact HB.out | apply below_alloc | apply pw_below_drewN | apply below_drew1 | refine below_set ?_ (IsS101.ge HI0.out) | refine below_set ?_ GE870.out) | exact HB.out)⟩⟩
    rw [if_neg c9] at H
    exact absurd H (by simp)
   rw [if_neg c7] at H
   have c7b0 : decide (x8_1 < a1_0) = false := decide_eq_false c7
   clear c7
   by_cases c14 : a2 ≥ 0
   ·rw [if_pos c14] at H
    have c14b0 : decide (0 ≤ a2) = true := decide_eq_true c14
    clear c14
    by_cases c15 : a2 < (x7_1.length : Int)
    ·rw [if_pos c15] at H
     have c15b0 : decide (a2 < (x7_1.length : Int)) = true := decide_eq_true c15
     clear c15
     by_cases c16 : 0 ≤ a2
     ·rw [if_pos c16] at H
      have c16b0 : decide (0 ≤ a2) = true := decide_eq_true c16
      clear c16
      obtain ⟨y880, hy880⟩ : ∃ y_ : List Int, y_ = (x7_1.set (a2 : Int).toNat 0) := ⟨_, rfl⟩
      replace H : (some (y880, x1001_1, x1002_1)) = some (r1, r2, r3) := by first | (rw [hy880]; with_reducible exact H) | (have H2_ := (Option.bind_some _ _).symm.trans H; rw [hy880]; with_reducible exact H2_) | (have H2_ := (Option.bind_some _ _).symm.trans H; with_reducible exact H2_) | with_reducible exact H | (rw [hy880]; exact H) | exact H
      have Ny880 := Aside0.mk hy880
      clear hy880
      simp only [Option.some.injEq, Prod.mk.injEq] at H
      obtain ⟨rfl, rfl, rfl⟩ := H
      have hnb18 := NB870_0.out
      have hnc18 := NB0_870.out
      have hcz19_0 : wr.cell? ⟨gb870, 0, none⟩ = some (.int .i64 a1_0) := (blk_cell BK870.out 0).trans rfl
      have hcz19_1 : wr.cell? ⟨gb870, 1, none⟩ = some (.slice A1_1 l1_1.length c1_1) := (blk_cell BK870.out 1).trans rfl
      have hfz19_0 := blk_frozen BK870.out 0
      have hfz19_1 := blk_frozen BK870.out 1
      obtain ⟨Ao20, co20, eo20⟩ := Kd.R_slice HO_7.out
      subst eo20
      have p17 : 0 ≤ (a2 : Int) := ofA
      have q17 : (a2 : Int) < ((x7_1.length : Int) : Int) := ofA
      obtain ⟨go17, co17, eo17, gb17, gl17, cl17, HG17⟩ := Kd.R_form HO_7.out (by omega)
      (first | cases eo17 | (injection eo17 with ea_ en_ ec_; (first | subst ea_ | (injection ea_ with ea_; subst ea_)); subst ec_; clear en_))
      have GB17 := Aside0.mk gb17
      have GG17 := Aside0.mk HG17
      clear gb17 gl17 HG17
      obtain ⟨hx17_0, hf17_0⟩ := Kd.R_celln 0 HO_7.out (a2 : Int) p17 q17
      replace p17 := eq_true p17
      replace q17 := eq_true q17
      have HP21 := Kd.R_putg HO_7.out (a2 : Int) 0
      go_wp2_with (first | ((with_reducible refine gate_store (t := 3) (p := 31) rfl ?_); refine store_event (t := 3) (p := 31) (v := ?vo_w22) (w1 := (wr.setCell ⟨go17, (a2 : Int).toNat, none⟩ (.int .i64 0))) ?hg ?ho ?hn ?hr ?_; (case ho => rfl); (case hg => rfl); (case hn => rfl); (case hr => first | (go_simp; done) | (go_simp; rfl)); intro w22 hw; have hg : wr.grownBy w22 (some go17) := (by rw [hw]; exact HP21.2); have hp_ : Kd.R (Kd.int .i64) 3 w22 w.heap.size (fun _ => True) (.slice (some ⟨go17, 0, none⟩) x7_1.length co20) y880 := (by rw [hw, Ny880.out]; exact HP21.1); clear HP21; replace BK870 := Aside0.mk (blk_grown (g := gb870) (o := .cells #[.int .i64 a1_0, .slice A1_1 l1_1.length c1_1] 31 (0, 0)) (Bz BK870) hg (Kd.R_ne HO_7.out BK870.out (by decide))); replace HI0 := Aside0.mk (IsS101.grownF HI0.out (by repeat (first | (with_reducible first | exact HI0.out | apply IsS101.alloc | apply IsS101.drewN | apply IsS101.drew | apply IsS101.set_1 | apply IsS101.set_2 | refine IsS101.far ?_ NB0_870.out _) | exact HI0.out)) hg (IsS101.own_ne HI0.out HO_7.out (by decide))); replace HB := Aside0.mk ((by rw [hw]; exact below_set (HB.out) (Nat.le_trans HL.out GB17.out) : Below w0.heap.size w0 w22)); replace HK := Aside0.mk (KeepBut.trans (by repeat (first | (with_reducible first | exact HK.out | apply KeepBut.set_ | apply keep_drewN | apply keep_drew | apply keep_alloc | refine keep_far ?_ GW870.out _) | exact HK.out)) (KeepBut.of_grown hg g) (Kd.R_base2 HO_7.out)); replace HO_7 := Aside0.mk (hp_); clear hg hw hp_))
      go_ret
      exact ⟨_, by first | rfl | (simp [errW_none, errW_some] <;> rfl) | (simp [*, errW_none, errW_some] <;> rfl), by exact Rz HO_7, by repeat (first | (with_reducible first | exact HI0.out | apply IsS101.alloc | apply IsS101.drewN | apply IsS101.drew | apply IsS101.set_1 | apply IsS101.set_2 | refine IsS101.far ?_ NB0_870.out _) | exact HI0.out), by repeat (first | (with_reducible first | exact HB.out | apply below_alloc | apply pw_below_drewN | apply below_drew1 | refine below_set ?_ (IsS101.ge HI0.out) | refine below_set ?_ GE870.out) | exact HB.out), by repeat (first | (with_reducible first | exact HK.out | apply KeepBut.set_ | apply keep_drewN | apply keep_drew | apply keep_alloc | refine keep_far ?_ GW870.out _) | exact HK.out)⟩
     rw [if_neg c16] at H
     exact absurd H (by simp)
    rw [if_neg c15] at H
    have c15b0 : decide (a2 < (x7_1.length : Int)) = false := decide_eq_false c15
    clear c15
    simp only [Option.some.injEq, Prod.mk.injEq] at H
    obtain ⟨rfl, rfl, rfl⟩ := H
    have hnb23 := NB870_0.out
    have hnc23 := NB0_870.out
    have hcz24_0 : wr.cell? ⟨gb870, 0, none⟩ = some (.int .i64 a1_0) := (blk_cell BK870.out 0).trans rfl
    have hcz24_1 : wr.cell? ⟨gb870, 1, none⟩ = some (.slice A1_1 l1_1.length c1_1) := (blk_cell BK870.out 1).trans rfl
    have hfz24_0 := blk_frozen BK870.out 0
    have hfz24_1 := blk_frozen BK870.out 1
    obtain ⟨Ao25, co25, eo25⟩ := Kd.R_slice HO_7.out
    subst eo25
    go_wp2
    go_ret
    exact ⟨_, by first | rfl | (simp [errW_none, errW_some] <;> rfl) | (simp [*, errW_none, errW_some] <;> rfl), by exact Rz HO_7, by repeat (first | (with_reducible first | exact HI0.out | apply IsS101.alloc | apply IsS101.drewN | apply IsS101.drew | apply IsS101.set_1 | apply IsS101.set_2 | refine IsS101.far ?_ NB0_870.out _) | exact HI0.out), by repeat (first | (with_reducible first | exact HB.out | apply below_alloc | apply pw_below_drewN | apply below_drew1 | refine below_set ?_ (IsS101.ge HI0.out) | refine below_set ?_ GE870.out) | exact HB.out), by repeat (first | (with_reducible first | exact HK.out | apply KeepBut.set_ | apply keep_drewN | apply keep_drew | apply keep_alloc | refine keep_far ?_ GW870.out _) | exact HK.out)⟩
   rw [if_neg c14] at H
   have c14b0 : decide (0 ≤ a2) = false := decide_eq_false c14
   clear c14
   simp only [Option.some.injEq, Prod.mk.injEq] at H
   obtain ⟨rfl, rfl, rfl⟩ := H
   have hnb26 := NB870_0.out
   have hnc26 := NB0_870.out
   have hcz27_0 : wr.cell? ⟨gb870, 0, none⟩ = some (.int .i64 a1_0) := (blk_cell BK870.out 0).trans rfl
   have hcz27_1 : wr.cell? ⟨gb870, 1, none⟩ = some (.slice A1_1 l1_1.length c1_1) := (blk_cell BK870.out 1).trans rfl
   have hfz27_0 := blk_frozen BK870.out 0
   have hfz27_1 := blk_frozen BK870.out 1
   go_wp2
   go_ret
   exact ⟨_, by first | rfl | (simp [errW_none, errW_some] <;> rfl) | (simp [*, errW_none, errW_some] <;> rfl), by exact Rz HO_7, by repeat (first | (with_reducible first | exact HI0.out | apply IsS101.alloc | apply IsS101.drewN | apply IsS101.drew | apply IsS101.set_1 | apply IsS101.set_2 | refine IsS101.far ?_ NB0_870.out _) | exact HI0.out), by repeat (first | (with_reducible first | exact HB.out | apply below_alloc | apply pw_below_drewN | apply below_drew1 | refine below_set ?_ (IsS101.ge HI0.out) | refine below_set ?_ GE870.out) | exact HB.out), by repeat (first | (with_reducible first | exact HK.out | apply KeepBut.set_ | apply keep_drewN | apply keep_drew | apply keep_alloc | refine keep_far ?_ GW870.out _) | exact HK.out)⟩
def spec_MakePile.f (k : Nat) (l0 : List Int) (a1 : Int) (a2_0 : Int) (l2_1 : List (S67)) (a3 : Int) : Option (List Int) := (spec_l21New.f k l0 a1).bind fun bt882 => ((spec_l10Draw.f k bt882.1 bt882.2.1 bt882.2.2 a2_0 l2_1 a3).bind fun bt886 => (some bt886.1))
set_option maxHeartbeats 8000000 in
set_option maxRecDepth 100000 in
theorem spec_MakePile.calls (k : Nat) (A0 : Option Addr) (c0 : Nat) (l0 : List Int) (a1 : Int) (a2_0 : Int) (A2_1 : Option Addr) (c2_1 : Nat) (l2_1 : List (S67)) (a3 : Int) (r : List Int) (w : World) (hr0 : Kd.C (Kd.int .u8) w A0 l0.length l0) (hc0 : l0.length ≤ c0) (hr2_1 : Kd.C k67 w A2_1 l2_1.length l2_1) (hc2_1 : l2_1.length ≤ c2_1) (h : spec_MakePile.f k l0 a1 a2_0 l2_1 a3 = some r) :
  Calls Try.prog 33 #[.slice A0 l0.length c0, .int .i64 a1, .agg #[.int .i64 a2_0, .slice A2_1 l2_1.length c2_1], .int .i64 a3] w fun e w' => ∃ v0_ : Value, e = .returned (v0_) ∧ Kd.R (Kd.int .i64) 3 w' w.heap.size (fun _ => True) v0_ r ∧ Below w.heap.size w w' := by
 have hu31 := Try.underlying31
 have HR0 := Aside0.mk hr0
 have HC0 := Aside0.mk hc0
 clear hr0 hc0
 have HR2_1 := Aside0.mk hr2_1
 have HC2_1 := Aside0.mk hc2_1
 clear hr2_1 hc2_1
 have HB := Aside0.mk (Below.refl w.heap.size w)
 have H : ((spec_l21New.f k l0 a1).bind fun bt882 => ((spec_l10Draw.f k bt882.1 bt882.2.1 bt882.2.2 a2_0 l2_1 a3).bind fun bt886 => (some bt886.1))) = some r := h
 clear h
 replace H := Option.bind_eq_some_iff.mp H
 obtain ⟨⟨t882, t883, t884⟩, A50, H⟩ := H
 replace H : ((spec_l10Draw.f k t882 t883 t884 a2_0 l2_1 a3).bind fun bt886 => (some bt886.1)) = some r := H
 have A5 := Aside0.mk A50
 clear A50
 replace H := Option.bind_eq_some_iff.mp H
 obtain ⟨⟨t886, t889, t890⟩, A60, H⟩ := H
 replace H : (some t886) = some r := H
 have A6 := Aside0.mk A60
 clear A60
 obtain rfl := Option.some.inj H
 go_enter Try.func33, Try.ntmps33
 try go_wp2_with (first | ((with_reducible refine gate_dst (N := 6) rfl ?_); refine box_event ?hg (N := 6) ?hd (cs := #[.int .i64 a2_0, .slice A2_1 l2_1.length c2_1]) (t := 31) ?hr ?_; (case hd => rfl); (case hg => rfl); (case hr => first | (go_simp; done) | (go_simp; rfl)); intro gb881 hg w7 hbox hb; have BK881 := Aside0.mk (hbox); have GW881 := Aside0.mk ((by rw [hg]; exact (below_size (Lz HB)) : w.heap.size ≤ gb881)); have GE881 := Aside0.mk ((by rw [hg]; exact (below_size (Lz HB)) : w.heap.size ≤ gb881)); replace HB := Aside0.mk (below_step (Lz HB) hb); clear hb hbox hg))
 replace BK881 := Aside0.mk (blk_drew BK881.out)
 replace HB := Aside0.mk (below_drew1 HB.out)
 refine start_ (n := 7) (S := fun w' => w'.cell? ⟨gb881, 0, none⟩ = some (.int .i64 a2_0) ∧ w'.cell? ⟨gb881, 1, none⟩ = some (.slice A2_1 l2_1.length c2_1)) (ds := []) #[false, false, false, false, false, false, false] (by kernel_rfl) rfl rfl ⟨(blk_cell BK881.out 0).trans rfl, (blk_cell BK881.out 1).trans rfl⟩ (fun hHeld => ?_)
 generalize w7.drew = w8 at BK881 HB hHeld ⊢
 refine pure_ (i := 0) (N := some 9) (v := ?_) (a' := ?_) #[true, false, false, false, false, false, false] rfl rfl (by kernel_rfl) (fun _ _ _ h => h) (Or.inl ⟨by rfl, ?_⟩) ?_ ?_
 rotate_left
 ·intro w'
  go_simp
  with_reducible rfl
 rotate_left
 ·simp only [Act.put, List.setIfInBounds_toArray, List.set_cons_zero, List.set_cons_succ, i64_w, i32_w]
  rfl
 refine pure_ (i := 1) (N := some 10) (v := ?_) (a' := ?_) #[true, true, false, false, false, false, false] rfl rfl (by kernel_rfl) (fun _ _ _ h => h) (Or.inl ⟨by rfl, ?_⟩) ?_ ?_
 rotate_left
 ·intro w'
  go_simp
  with_reducible rfl
 rotate_left
 ·simp only [Act.put, List.setIfInBounds_toArray, List.set_cons_zero, List.set_cons_succ, i64_w, i32_w]
  rfl
 refine pure_ (i := 4) (N := some 13) (v := ?_) (a' := ?_) #[true, true, false, false, true, false, false] rfl rfl (by kernel_rfl) (fun _ _ _ h => h) (Or.inl ⟨by rfl, ?_⟩) ?_ ?_
 rotate_left
 ·intro w'
  go_simp
  with_reducible rfl
 rotate_left
 ·simp only [Act.put, List.setIfInBounds_toArray, List.set_cons_zero, List.set_cons_succ, i64_w, i32_w]
  rfl
 refine take_ (i := 3) (N := some 12) (v := ?_) (a' := ?_) #[true, true, false, true, true, false, false] rfl rfl (by kernel_rfl) (fun _ _ _ h => h) (Or.inl ⟨by rfl, ?_⟩) hHeld ?_ ?_
 rotate_left
 ·rintro w' ⟨s0, s1⟩
  go_simp
  with_reducible rfl
 rotate_left
 ·simp only [Act.put, List.setIfInBounds_toArray, List.set_cons_zero, List.set_cons_succ, i64_w, i32_w]
  rfl
 refine one_ (i := 2) (N := some 11) #[true, true, true, true, true, false, false] rfl rfl (by kernel_rfl) (by decide) (fun K hK => ?_)
 refine goes_ Try.func69 (by kernel_rfl) rfl #[.slice A0 l0.length c0, .int .i64 a1] (by rfl) rfl rfl (by (try simp only [List.map_toArray, List.map_cons, List.map_nil]); first | done | rfl | (simp only [List.length_drop, List.length_take]; rfl)) ?_
 with_reducible refine (spec_l21New.calls k _ _ l0 a1 t882 t883 t884 w _ ?side1 ?side2 ?side3 A5.out).mono ?_
 (case side1 => exact Lz1 HB GE881)
 (case side2 => exact HR0.out)
 (case side3 => exact HC0.out)
 rintro e w9 ⟨g885, rfl, hi, hb, hb2⟩
 refine ⟨_, rfl, ?_⟩
 replace HB := Aside0.mk (hb)
 have HI885 := Aside0.mk (hi)
 have NB885_881 := Aside0.mk (IsS101.ne_blk hi (blk_below (g := gb881) (o := .cells #[.int .i64 a2_0, .slice A2_1 l2_1.length c2_1] 31 (0, 0)) (Bz BK881) hb2) (by decide))
 have NB881_885 := Aside0.mk (Ne.symm (IsS101.ne_blk hi (blk_below (g := gb881) (o := .cells #[.int .i64 a2_0, .slice A2_1 l2_1.length c2_1] 31 (0, 0)) (Bz BK881) hb2) (by decide)))
 replace BK881 := Aside0.mk (blk_below (g := gb881) (o := .cells #[.int .i64 a2_0, .slice A2_1 l2_1.length c2_1] 31 (0, 0)) (Bz BK881) hb2)
 (try clear hb)
 (try clear hb2)
 (try clear hk)
 (try clear hi)
 refine hK.out _ _ ⟨(blk_cell BK881.out 0).trans rfl, (blk_cell BK881.out 1).trans rfl⟩ (fun hHeld => ?_)
 clear hK K
 refine norm_ (a' := ?_) ?_ ?_
 rotate_left
 ·show Act.put _ (some 11) _ = _
  simp only [Act.put, List.setIfInBounds_toArray, List.set_cons_zero, List.set_cons_succ, i64_w, i32_w]
  rfl
 refine one_ (i := 5) (N := some 14) #[true, true, true, true, true, true, false] rfl rfl (by kernel_rfl) (by decide) (fun K hK => ?_)
 refine goes_ Try.func77 (by kernel_rfl) rfl #[.pointer (some ⟨g885, 0, none⟩), .agg #[.int .i64 a2_0, .slice A2_1 l2_1.length c2_1], .int .i64 a3] (by rfl) rfl rfl (by (try simp only [List.map_toArray, List.map_cons, List.map_nil]); first | done | rfl | (simp only [List.length_drop, List.length_take]; rfl)) ?_
 with_reducible refine (spec_l10Draw.calls k g885 t882 t883 t884 a2_0 _ _ l2_1 a3 t886 t889 t890 w _ ?side1 ?side2 ?side3 ?side4 A6.out).mono ?_
 (case side1 => repeat (first | (with_reducible first | exact HI885.out | apply IsS101.alloc | apply IsS101.drewN | apply IsS101.drew | apply IsS101.set_1 | apply IsS101.set_2 | refine IsS101.far ?_ NB885_881.out _) | exact HI885.out))
 (case side2 => repeat (first | (with_reducible first | exact HB.out | apply below_alloc | apply pw_below_drewN | apply below_drew1 | refine below_set ?_ (IsS101.ge HI885.out) | refine below_set ?_ GE881.out) | exact HB.out))
 (case side3 => exact Kd.C_foot_came k67_heap HR2_1.out (by repeat (first | (with_reducible first | exact HB.out | apply below_alloc | apply pw_below_drewN | apply below_drew1 | refine below_set ?_ (IsS101.ge HI885.out) | refine below_set ?_ GE881.out) | exact HB.out)) (IsS101.ge HI885.out))
 (case side4 => exact HC2_1.out)
 rintro e w10 ⟨v887, rfl, ho0, hi, hb, hk⟩
 refine ⟨_, rfl, ?_⟩
 replace BK881 := Aside0.mk (KeepBut.blk hk (g' := gb881) (o := .cells #[.int .i64 a2_0, .slice A2_1 l2_1.length c2_1] 31 (0, 0)) (Bz BK881) NB881_885.out (by simp))
 have HO888 := Aside0.mk (Kd.R_lower ho0 (below_size (by repeat (first | (with_reducible first | exact HB.out | apply below_alloc | apply pw_below_drewN | apply below_drew1 | refine below_set ?_ (IsS101.ge HI885.out) | refine below_set ?_ GE881.out) | exact HB.out))))
 replace HB := Aside0.mk (hb)
 replace HI885 := Aside0.mk (hi)
 (try clear hb)
 (try clear hb2)
 (try clear hk)
 (try clear hi)
 (try clear ho0)
 refine hK.out _ _ ⟨(blk_cell BK881.out 0).trans rfl, (blk_cell BK881.out 1).trans rfl⟩ (fun hHeld => ?_)
 clear hK K
 refine norm_ (a' := ?_) ?_ ?_
 rotate_left
 ·show Act.put _ (some 14) _ = _
  simp only [Act.put, List.setIfInBounds_toArray, List.set_cons_zero, List.set_cons_succ, i64_w, i32_w]
  rfl
 refine pure_ (i := 6) (N := some 8) (v := ?_) (a' := ?_) #[true, true, true, true, true, true, true] rfl rfl (by kernel_rfl) (fun _ _ _ h => h) (Or.inl ⟨by rfl, ?_⟩) ?_ ?_
 rotate_left
 ·intro w'
  go_simp
  with_reducible rfl
 rotate_left
 ·simp only [Act.put, List.setIfInBounds_toArray, List.set_cons_zero, List.set_cons_succ, i64_w, i32_w]
  rfl
 refine done_ (by kernel_rfl) ?_
 try go_wp2
 go_ret
 exact ⟨_, by first | rfl | (simp [errW_none, errW_some] <;> rfl) | (simp [*, errW_none, errW_some] <;> rfl), by exact Rz HO888, by repeat (first | (with_reducible first | exact HB.out | apply below_alloc | apply pw_below_drewN | apply below_drew1 | refine below_set ?_ (IsS101.ge HI885.out) | refine below_set ?_ GE881.out) | exact HB.out)⟩
def impl_FireSet.l0 : Nat → List Int → List Int → List Int → Int → Int → Int → List (S67) → Option (List Int × Bool)
 | 0, _, _, _, _, _, _, _ => none
 | k + 1, x1, x8, x18, x19, x20, x892000, x892001 => if x20 < x19 then (if 0 ≤ x20 then (if x20 < (x18.length : Int) then ((impl_within.f (rd x18 x20) 0 (wrap64 (x892000 - 1))).bind fun t900 => (if t900 = true then (if 0 ≤ (rd x18 x20) then (if (rd x18 x20) < (x8.length : Int) then (if (rd x8 (rd x18 x20)) = 1 then (some (([] : List Int), false)) else (impl_FireSet.l0 k x1 (x8.set ((rd x18 x20) : Int).toNat 1) x18 x19 (wrap64 (x20 + 1)) x892000 x892001)) else (none)) else (none)) else (some (([] : List Int), false)))) else (none)) else (none)) else ((impl_fired.f k x892000 x892001 x1 x8).bind fun t896 => (some (t896, true)))
def impl_FireSet.f (k : Nat) (a0_0 : Int) (l0_1 : List (S67)) (l1 : List Int) (l2 : List Int) : Option (List Int × Bool) := (impl_DivisorOk.f k a0_0 l0_1 l1).bind fun t892 => (if t892 = true then (if 0 ≤ a0_0 then (if (a0_0 : Int).toNat ≤ 35184372088832 then (impl_FireSet.l0 k l1 (List.replicate (a0_0 : Int).toNat 0) l2 (l2.length : Int) 0 a0_0 l0_1) else (none)) else (none)) else (some (([] : List Int), false)))
set_option maxHeartbeats 8000000 in
set_option maxRecDepth 100000 in
theorem impl_FireSet.calls (k : Nat) (a0_0 : Int) (A0_1 : Option Addr) (c0_1 : Nat) (l0_1 : List (S67)) (A1 : Option Addr) (c1 : Nat) (l1 : List Int) (A2 : Option Addr) (c2 : Nat) (l2 : List Int) (r1 : List Int) (r2 : Bool) (w : World) (hr0_1 : Kd.C k67 w A0_1 l0_1.length l0_1) (hc0_1 : l0_1.length ≤ c0_1) (hr1 : Kd.C (Kd.int .i64) w A1 l1.length l1) (hc1 : l1.length ≤ c1) (hr2 : Kd.C (Kd.int .i64) w A2 l2.length l2) (hc2 : l2.length ≤ c2) (h : impl_FireSet.f k a0_0 l0_1 l1 l2 = some (r1, r2)) :
  Calls Try.prog 41 #[.agg #[.int .i64 a0_0, .slice A0_1 l0_1.length c0_1], .slice A1 l1.length c1, .slice A2 l2.length c2] w fun e w' => ∃ v0_ : Value, e = .returned (.tuple #[v0_, .bool r2]) ∧ Kd.R (Kd.int .i64) 3 w' w.heap.size (fun _ => True) v0_ r1 ∧ Below w.heap.size w w' := by
 have hu31 := Try.underlying31
 have HR0_1 := Aside0.mk hr0_1
 have HC0_1 := Aside0.mk hc0_1
 clear hr0_1 hc0_1
 have HR1 := Aside0.mk hr1
 have HC1 := Aside0.mk hc1
 clear hr1 hc1
 have HR2 := Aside0.mk hr2
 have HC2 := Aside0.mk hc2
 clear hr2 hc2
 have HB := Aside0.mk (Below.refl w.heap.size w)
 have H : ((impl_DivisorOk.f k a0_0 l0_1 l1).bind fun t892 => (if t892 = true then (if 0 ≤ a0_0 then (if (a0_0 : Int).toNat ≤ 35184372088832 then (impl_FireSet.l0 k l1 (List.replicate (a0_0 : Int).toNat 0) l2 (l2.length : Int) 0 a0_0 l0_1) else (none)) else (none)) else (some (([] : List Int), false)))) = some (r1, r2) := h
 clear h
 replace H := Option.bind_eq_some_iff.mp H
 obtain ⟨t892, A40, H⟩ := H
 replace H : (if t892 = true then (if 0 ≤ a0_0 then (if (a0_0 : Int).toNat ≤ 35184372088832 then (impl_FireSet.l0 k l1 (List.replicate (a0_0 : Int).toNat 0) l2 (l2.length : Int) 0 a0_0 l0_1) else (none)) else (none)) else (some (([] : List Int), false))) = some (r1, r2) := H
 have A4 := Aside0.mk A40
 clear A40
 by_cases c5 : t892 = true
 ·subst c5
  have H1 : (if 0 ≤ a0_0 then (if (a0_0 : Int).toNat ≤ 35184372088832 then (impl_FireSet.l0 k l1 (List.replicate (a0_0 : Int).toNat 0) l2 (l2.length : Int) 0 a0_0 l0_1) else (none)) else (none)) = some (r1, r2) := by rw [if_pos rfl] at H; exact H
  clear H
  have H := H1
  clear H1
  by_cases c6 : 0 ≤ a0_0
  ·rw [if_pos c6] at H
   have c6b0 := eq_true c6
   have c6b1 : decide (0 ≤ a0_0) = true := decide_eq_true c6
   clear c6
   by_cases c7 : (a0_0 : Int).toNat ≤ 35184372088832
   ·rw [if_pos c7] at H
    have c7b0 := eq_true c7
    have c7b1 : decide ((a0_0 : Int).toNat ≤ 35184372088832) = true := decide_eq_true c7
    clear c7
    obtain ⟨y893, hy893⟩ : ∃ y_ : List Int, y_ = (List.replicate (a0_0 : Int).toNat 0) := ⟨_, rfl⟩
    replace H : (impl_FireSet.l0 k l1 y893 l2 (l2.length : Int) 0 a0_0 l0_1) = some (r1, r2) := by first | (rw [hy893]; with_reducible exact H) | (have H2_ := (Option.bind_some _ _).symm.trans H; rw [hy893]; with_reducible exact H2_) | (have H2_ := (Option.bind_some _ _).symm.trans H; with_reducible exact H2_) | with_reducible exact H | (rw [hy893]; exact H) | exact H
    have Ny893 := Aside0.mk hy893
    clear hy893
    have H' := Aside0.mk H
    clear H
    go_enter Try.func41, Try.ntmps41
    go_wp2_with (first | ((with_reducible refine gate_dst (N := 3) rfl ?_); refine box_event ?hg (N := 3) ?hd (cs := #[.int .i64 a0_0, .slice A0_1 l0_1.length c0_1]) (t := 31) ?hr ?_; (case hd => rfl); (case hg => rfl); (case hr => first | (go_simp; done) | (go_simp; rfl)); intro gb891 hg w8 hbox hb; have BK891 := Aside0.mk (hbox); have GW891 := Aside0.mk ((by rw [hg]; exact (below_size (Lz HB)) : w.heap.size ≤ gb891)); have GE891 := Aside0.mk ((by rw [hg]; exact (below_size (Lz HB)) : w.heap.size ≤ gb891)); replace HB := Aside0.mk (below_step (Lz HB) hb); clear hb hbox hg; have hcz9_0 : w8.cell? ⟨gb891, 0, none⟩ = some (.int .i64 a0_0) := (blk_cell BK891.out 0).trans rfl; have hcz9_1 : w8.cell? ⟨gb891, 1, none⟩ = some (.slice A0_1 l0_1.length c0_1) := (blk_cell BK891.out 1).trans rfl; have hfz9_0 := blk_frozen BK891.out 0; have hfz9_1 := blk_frozen BK891.out 1) | ((with_reducible refine gate_callee (f := 71) rfl ?_); refine goesM_ (some 13) rfl rfl Try.func71 (by kernel_rfl) rfl #[.agg #[.int .i64 a0_0, .slice A0_1 l0_1.length c0_1], .slice A1 l1.length c1] rfl ?_; (with_reducible refine (impl_DivisorOk.calls k a0_0 _ _ l0_1 _ _ l1 true _ ?side1 ?side2 ?side3 ?side4 A4.out).mono ?_); (case side1 => exact Cz ((Kd.C_below HR0_1.out HB.out))); (case side2 => exact HC0_1.out); (case side3 => exact Cz ((Kd.C_below HR1.out HB.out))); (case side4 => exact HC1.out); rintro e w10 ⟨rfl, hb⟩; refine ⟨_, rfl, ?_⟩; replace BK891 := Aside0.mk (blk_below (g := gb891) (o := .cells #[.int .i64 a0_0, .slice A0_1 l0_1.length c0_1] 31 (0, 0)) (Bz BK891) hb); replace HB := Aside0.mk (below_step (by exact Lz1 HB GE891) hb); (try clear hb); (try clear hb2); (try clear hk); (try clear hi); have hcz11_0 : w10.cell? ⟨gb891, 0, none⟩ = some (.int .i64 a0_0) := (blk_cell BK891.out 0).trans rfl; have hcz11_1 : w10.cell? ⟨gb891, 1, none⟩ = some (.slice A0_1 l0_1.length c0_1) := (blk_cell BK891.out 1).trans rfl; have hfz11_0 := blk_frozen BK891.out 0; have hfz11_1 := blk_frozen BK891.out 1) | ((with_reducible refine gate_dst (N := 17) rfl ?_); refine Kd.R_make (Kd.int .i64) _ 3 rfl (N := 17) rfl 25 _ _ rfl a0_0 rfl rfl Try.underlying25 (.int .i64 0) 8 info3 rfl (by decide) (by omega) 0 (ok := fun _ => True) (okp := fun _ => True) rfl (fun _ hk => hk) trivial (ofA) (Nat.le_trans (Nat.mul_le_mul_right _ (ofA : a0_0.toNat ≤ 35184372088832)) (by omega)) (Below.refl _ _) (Nat.le_refl _) ?_; intro v894 w12 ho13 hb hg_ hnew_; clear hg_ hnew_; (first | rw [← Ny893.out] at ho13 | (simp only [Int.reduceToNat] at ho13; rw [← Ny893.out] at ho13)); have HO895 := Aside0.mk (Kd.R_lower ho13 (below_size (by exact Lz1 HB GE891))); replace BK891 := Aside0.mk (blk_below (g := gb891) (o := .cells #[.int .i64 a0_0, .slice A0_1 l0_1.length c0_1] 31 (0, 0)) (Bz BK891) hb); replace HB := Aside0.mk (below_step (by exact Lz1 HB GE891) hb); clear hb ho13))
    go_loopg [20] k (fun kq v20 w' => ∃ (x8_1 : List Int) (x20_1 : Int), v20 = .int .i64 x20_1 ∧ Aside0 (impl_FireSet.l0 kq l1 x8_1 l2 (l2.length : Int) x20_1 a0_0 l0_1 = some (r1, r2)) ∧ Aside0 (kq ≤ k) ∧ Aside0 (Kd.R (Kd.int .i64) 3 w' w.heap.size (fun _ => True) v894 x8_1) ∧ Aside0 (w'.heap[gb891]? = some (.cells #[.int .i64 a0_0, (.slice A0_1 l0_1.length c0_1)] 31 (0, 0))) ∧ Aside0 (Below w.heap.size w w'))
    case atStart => exact ⟨(y893), (0), eqA, H', ⟨Nat.le_refl _⟩, ⟨by exact Rz HO895⟩, ⟨by exact Bz BK891⟩, ⟨by exact Lz1 HB GE891⟩⟩
    case round =>
     clear H'
     try clear c1
     try clear c2
     try clear c5
     try clear c6
     try clear c6b0
     try clear c6b1
     try clear c7
     try clear c7b0
     try clear c7b1
     obtain ⟨x8_1, x20_1, rfl, HA, HK1, HO_8, BK891, HB⟩ := hrel
     cases gk with
     | zero => exact absurd HA.out (by simp [impl_FireSet.l0])
     | succ k1 =>
      have H := HA.out
      clear HA
      simp only [impl_FireSet.l0] at H
      by_cases c14 : x20_1 < (l2.length : Int)
      ·rw [if_pos c14] at H
       have c14b0 : decide (x20_1 < (l2.length : Int)) = true := decide_eq_true c14
       clear c14
       by_cases c15 : 0 ≤ x20_1
       ·rw [if_pos c15] at H
        have c15b0 : decide (0 ≤ x20_1) = true := decide_eq_true c15
        clear c15
        by_cases c16 : x20_1 < (l2.length : Int)
        ·rw [if_pos c16] at H
         have c16b0 : decide (x20_1 < (l2.length : Int)) = true := decide_eq_true c16
         clear c16
         replace H := Option.bind_eq_some_iff.mp H
         obtain ⟨t900, A170, H⟩ := H
         replace H : (if t900 = true then (if 0 ≤ (rd l2 x20_1) then (if (rd l2 x20_1) < (x8_1.length : Int) then (if (rd x8_1 (rd l2 x20_1)) = 1 then (some (([] : List Int), false)) else (impl_FireSet.l0 k1 l1 (x8_1.set ((rd l2 x20_1) : Int).toNat 1) l2 (l2.length : Int) (wrap64 (x20_1 + 1)) a0_0 l0_1)) else (none)) else (none)) else (some (([] : List Int), false))) = some (r1, r2) := H
         have A17 := Aside0.mk A170
         clear A170
         by_cases c18 : t900 = true
         ·subst c18
          have H1 : (if 0 ≤ (rd l2 x20_1) then (if (rd l2 x20_1) < (x8_1.length : Int) then (if (rd x8_1 (rd l2 x20_1)) = 1 then (some (([] : List Int), false)) else (impl_FireSet.l0 k1 l1 (x8_1.set ((rd l2 x20_1) : Int).toNat 1) l2 (l2.length : Int) (wrap64 (x20_1 + 1)) a0_0 l0_1)) else (none)) else (none)) = some (r1, r2) := by rw [if_pos rfl] at H; exact H
          clear H
          have H := H1
          clear H1
          by_cases c19 : 0 ≤ (rd l2 x20_1)
          ·rw [if_pos c19] at H
           have c19b0 : decide (0 ≤ (rd l2 x20_1)) = true := decide_eq_true c19
           clear c19
           by_cases c20 : (rd l2 x20_1) < (x8_1.length : Int)
           ·rw [if_pos c20] at H
            have c20b0 : decide ((rd l2 x20_1) < (x8_1.length : Int)) = true := decide_eq_true c20
            clear c20
            by_cases c21 : (rd x8_1 (rd l2 x20_1)) = 1
            ·rw [if_pos c21] at H
             have c21b0 : ((rd x8_1 (rd l2 x20_1)) == 1) = true := beq_iff_eq.mpr c21
             have c21b1 : ((rd x8_1 (rd l2 x20_1)) != 1) = false := bne_eq_false_iff_eq.mpr c21
             clear c21
             simp only [Option.some.injEq, Prod.mk.injEq] at H
             obtain ⟨rfl, rfl⟩ := H
             have p899 : 0 ≤ (x20_1 : Int) := ofA
             have q899 : x20_1 < (l2.length : Int) := ofA
             obtain ⟨ad899, e899, hx899_0⟩ := Kd.at_int HR2.out x20_1 p899 q899
             cases e899
             replace hx899_0 := (HB.out.cell (World.block_lt_of_cell? w _ hx899_0)).trans hx899_0
             replace p899 := eq_true p899
             replace q899 := eq_true q899
             have hcz22_0 : wr.cell? ⟨gb891, 0, none⟩ = some (.int .i64 a0_0) := (blk_cell BK891.out 0).trans rfl
             have hcz22_1 : wr.cell? ⟨gb891, 1, none⟩ = some (.slice A0_1 l0_1.length c0_1) := (blk_cell BK891.out 1).trans rfl
             have hfz22_0 := blk_frozen BK891.out 0
             have hfz22_1 := blk_frozen BK891.out 1
             go_wp2_with (first | ((with_reducible refine gate_callee (f := 81) rfl ?_); refine goesM_ (some 28) rfl rfl Try.func81 (by kernel_rfl) rfl #[.int .i64 (rd l2 x20_1), .int .i64 0, .int .i64 (wrap64 (a0_0 - 1))] rfl ?_; (with_reducible refine (impl_within.calls (rd l2 x20_1) 0 (wrap64 (a0_0 - 1)) true _ A17.out).mono ?_); rintro e w' ⟨rfl, ⟨nd, rfl⟩⟩; refine ⟨_, rfl, ?_⟩; obtain ⟨Ao23, co23, eo23⟩ := Kd.R_slice HO_8.out; subst eo23; have p901 : 0 ≤ ((rd l2 x20_1) : Int) := ofA; have q901 : (rd l2 x20_1) < (x8_1.length : Int) := ofA; obtain ⟨ad901, e901, hx901_0⟩ := Kd.at_int (Kd.R_reads' HO_8.out).2.2 (rd l2 x20_1) p901 q901; cases e901; replace p901 := eq_true p901; replace q901 := eq_true q901))
             go_ret2
             exact ⟨_, by first | rfl | (simp [errW_none, errW_some] <;> rfl) | (simp [*, errW_none, errW_some] <;> rfl), by first | exact Kd.R_nil _ _ _ _ _ | exact Kd.N_nil _ _ _ _ _ | exact Kd.V_nil _ _ _ _ _ | exact Kd.Q_nil _ _ _ _ _ | exact Kd.S_nil _ _ _ _ _, by exact Lz1 HB GE891⟩
            rw [if_neg c21] at H
            have c21b0 : ((rd x8_1 (rd l2 x20_1)) == 1) = false := beq_eq_false_iff_ne.mpr c21
            have c21b1 : ((rd x8_1 (rd l2 x20_1)) != 1) = true := bne_iff_ne.mpr c21
            obtain ⟨y902, hy902⟩ : ∃ y_ : List Int, y_ = (x8_1.set ((rd l2 x20_1) : Int).toNat 1) := ⟨_, rfl⟩
            replace H : (impl_FireSet.l0 k1 l1 y902 l2 (l2.length : Int) (wrap64 (x20_1 + 1)) a0_0 l0_1) = some (r1, r2) := by first | (rw [hy902]; with_reducible exact H) | (have H2_ := (Option.bind_some _ _).symm.trans H; rw [hy902]; with_reducible exact H2_) | (have H2_ := (Option.bind_some _ _).symm.trans H; with_reducible exact H2_) | with_reducible exact H | (rw [hy902]; exact H) | exact H
            have Ny902 := Aside0.mk hy902
            clear hy902
            have H' := Aside0.mk H
            clear H
            have p899 : 0 ≤ (x20_1 : Int) := ofA
            have q899 : x20_1 < (l2.length : Int) := ofA
            obtain ⟨ad899, e899, hx899_0⟩ := Kd.at_int HR2.out x20_1 p899 q899
            cases e899
            replace hx899_0 := (HB.out.cell (World.block_lt_of_cell? w _ hx899_0)).trans hx899_0
            replace p899 := eq_true p899
            replace q899 := eq_true q899
            have hcz25_0 : wr.cell? ⟨gb891, 0, none⟩ = some (.int .i64 a0_0) := (blk_cell BK891.out 0).trans rfl
            have hcz25_1 : wr.cell? ⟨gb891, 1, none⟩ = some (.slice A0_1 l0_1.length c0_1) := (blk_cell BK891.out 1).trans rfl
            have hfz25_0 := blk_frozen BK891.out 0
            have hfz25_1 := blk_frozen BK891.out 1
            go_wp2_with (first | ((with_reducible refine gate_callee (f := 81) rfl ?_); refine goesM_ (some 28) rfl rfl Try.func81 (by kernel_rfl) rfl #[.int .i64 (rd l2 x20_1), .int .i64 0, .int .i64 (wrap64 (a0_0 - 1))] rfl ?_; (with_reducible refine (impl_within.calls (rd l2 x20_1) 0 (wrap64 (a0_0 - 1)) true _ A17.out).mono ?_); rintro e w' ⟨rfl, ⟨nd, rfl⟩⟩; refine ⟨_, rfl, ?_⟩; (try (rw [drewN_self wr]; generalize hq_ : World.drewN wr _ = wr; have n0_ : Aside0 (Kd.R (Kd.int .i64) 3 wr w.heap.size (fun _ => True) v894 x8_1) := ⟨by rw [← hq_]; exact (Rz HO_8)⟩; have n1_ : Aside0 (wr.heap[gb891]? = some (.cells #[.int .i64 a0_0, .slice A0_1 l0_1.length c0_1] 31 (0, 0))) := ⟨by rw [← hq_]; exact (Bz BK891)⟩; have n2_ : Aside0 (Below w.heap.size w wr) := ⟨by rw [← hq_]; exact (by exact Lz1 HB GE891)⟩; clear HO_8 BK891 HB hq_; have HO_8 := n0_; have BK891 := n1_; have HB := n2_; clear n0_ n1_ n2_)); obtain ⟨Ao26, co26, eo26⟩ := Kd.R_slice HO_8.out; subst eo26; have p901 : 0 ≤ ((rd l2 x20_1) : Int) := ofA; have q901 : (rd l2 x20_1) < (x8_1.length : Int) := ofA; obtain ⟨ad901, e901, hx901_0⟩ := Kd.at_int (Kd.R_reads' HO_8.out).2.2 (rd l2 x20_1) p901 q901; cases e901; replace p901 := eq_true p901; replace q901 := eq_true q901; have p24 : 0 ≤ ((rd l2 x20_1) : Int) := ofA; have q24 : ((rd l2 x20_1) : Int) < ((x8_1.length : Int) : Int) := ofA; obtain ⟨go24, co24, eo24, gb24, gl24, cl24, HG24⟩ := Kd.R_form HO_8.out (by omega); (first | cases eo24 | (injection eo24 with ea_ en_ ec_; (first | subst ea_ | (injection ea_ with ea_; subst ea_)); subst ec_; clear en_)); have GB24 := Aside0.mk gb24; have GG24 := Aside0.mk HG24; clear gb24 gl24 HG24; (first | simp only [add_plain] at hx901_0 | skip); obtain ⟨hx24_0, hf24_0⟩ := Kd.R_celln 0 HO_8.out ((rd l2 x20_1) : Int) p24 q24; replace p24 := eq_true p24; replace q24 := eq_true q24; obtain ⟨hy27_, hz27_⟩ := Kd.R_celln 0 HO_8.out ((rd l2 x20_1) : Int) (ofA) (ofA); have HP27 := Kd.R_putg HO_8.out ((rd l2 x20_1) : Int) 1) | ((with_reducible refine gate_store (t := 3) (p := 39) rfl ?_); refine store_event (t := 3) (p := 39) (v := ?vo_w28) (w1 := (wr.setCell ⟨go24, ((rd l2 x20_1) : Int).toNat, none⟩ (.int .i64 1))) ?hg ?ho ?hn ?hr ?_; (case ho => rfl); (case hg => rfl); (case hn => rfl); (case hr => first | (go_simp; done) | (go_simp; rfl)); intro w28 hw; have hg : wr.grownBy w28 (some go24) := (by rw [hw]; exact HP27.2); have hp_ : Kd.R (Kd.int .i64) 3 w28 w.heap.size (fun _ => True) (.slice (some ⟨go24, 0, none⟩) x8_1.length co26) y902 := (by rw [hw, Ny902.out]; exact HP27.1); clear HP27; replace BK891 := Aside0.mk (blk_grown (g := gb891) (o := .cells #[.int .i64 a0_0, .slice A0_1 l0_1.length c0_1] 31 (0, 0)) (Bz BK891) hg (Kd.R_ne HO_8.out BK891.out (by decide))); replace HO_8 := Aside0.mk (hp_); replace HB := Aside0.mk ((by rw [hw]; exact below_set (HB.out) GB24.out : Below w.heap.size w w28)); clear hg hw hp_))
            go_roundg k1
            case measure => have := HK1.out; omega
            case rel => exact ⟨(y902), (wrap64 (x20_1 + 1)), eqA, H', ⟨by have := HK1.out; omega⟩, ⟨by exact Rz HO_8⟩, ⟨by exact Bz BK891⟩, ⟨by exact Lz1 HB GE891⟩⟩
           rw [if_neg c20] at H
           exact absurd H (by simp)
          rw [if_neg c19] at H
          exact absurd H (by simp)
         replace c18 := Bool.eq_false_iff.mpr c18
         subst c18
         have H1 : (some (([] : List Int), false)) = some (r1, r2) := by rw [if_neg (show ¬ (false = true) by decide)] at H; exact H
         clear H
         have H := H1
         clear H1
         simp only [Option.some.injEq, Prod.mk.injEq] at H
         obtain ⟨rfl, rfl⟩ := H
         have p899 : 0 ≤ (x20_1 : Int) := ofA
         have q899 : x20_1 < (l2.length : Int) := ofA
         obtain ⟨ad899, e899, hx899_0⟩ := Kd.at_int HR2.out x20_1 p899 q899
         cases e899
         replace hx899_0 := (HB.out.cell (World.block_lt_of_cell? w _ hx899_0)).trans hx899_0
         replace p899 := eq_true p899
         replace q899 := eq_true q899
         have hcz29_0 : wr.cell? ⟨gb891, 0, none⟩ = some (.int .i64 a0_0) := (blk_cell BK891.out 0).trans rfl
         have hcz29_1 : wr.cell? ⟨gb891, 1, none⟩ = some (.slice A0_1 l0_1.length c0_1) := (blk_cell BK891.out 1).trans rfl
         have hfz29_0 := blk_frozen BK891.out 0
         have hfz29_1 := blk_frozen BK891.out 1
         go_wp2_with (first | ((with_reducible refine gate_callee (f := 81) rfl ?_); refine goesM_ (some 28) rfl rfl Try.func81 (by kernel_rfl) rfl #[.int .i64 (rd l2 x20_1), .int .i64 0, .int .i64 (wrap64 (a0_0 - 1))] rfl ?_; (with_reducible refine (impl_within.calls (rd l2 x20_1) 0 (wrap64 (a0_0 - 1)) false _ A17.out).mono ?_); rintro e w' ⟨rfl, ⟨nd, rfl⟩⟩; refine ⟨_, rfl, ?_⟩))
         go_ret2
         exact ⟨_, by first | rfl | (simp [errW_none, errW_some] <;> rfl) | (simp [*, errW_none, errW_some] <;> rfl), by first | exact Kd.R_nil _ _ _ _ _ | exact Kd.N_nil _ _ _ _ _ | exact Kd.V_nil _ _ _ _ _ | exact Kd.Q_nil _ _ _ _ _ | exact Kd.S_nil _ _ _ _ _, by exact Lz1 HB GE891⟩
        rw [if_neg c16] at H
        exact absurd H (by simp)
       rw [if_neg c15] at H
       exact absurd H (by simp)
      rw [if_neg c14] at H
      have c14b0 : decide (x20_1 < (l2.length : Int)) = false := decide_eq_false c14
      clear c14
      replace H := Option.bind_eq_some_iff.mp H
      obtain ⟨t896, A300, H⟩ := H
      replace H : (some (t896, true)) = some (r1, r2) := H
      have A30 := Aside0.mk A300
      clear A300
      simp only [Option.some.injEq, Prod.mk.injEq] at H
      obtain ⟨rfl, rfl⟩ := H
      have hcz31_0 : wr.cell? ⟨gb891, 0, none⟩ = some (.int .i64 a0_0) := (blk_cell BK891.out 0).trans rfl
      have hcz31_1 : wr.cell? ⟨gb891, 1, none⟩ = some (.slice A0_1 l0_1.length c0_1) := (blk_cell BK891.out 1).trans rfl
      have hfz31_0 := blk_frozen BK891.out 0
      have hfz31_1 := blk_frozen BK891.out 1
      obtain ⟨Ao32, co32, eo32⟩ := Kd.R_slice HO_8.out
      subst eo32
      go_wp2_with (first | ((with_reducible refine gate_callee (f := 73) rfl ?_); refine goesM_ (some 44) rfl rfl Try.func73 (by kernel_rfl) rfl #[.agg #[.int .i64 a0_0, .slice A0_1 l0_1.length c0_1], .slice A1 l1.length c1, .slice Ao32 x8_1.length co32] rfl ?_; (with_reducible refine (impl_fired.calls k1 a0_0 _ _ l0_1 _ _ l1 _ _ x8_1 t896 _ ?side1 ?side2 ?side3 ?side4 ?side5 ?side6 A30.out).mono ?_); (case side1 => exact Cz ((Kd.C_below HR0_1.out HB.out))); (case side2 => exact HC0_1.out); (case side3 => exact Cz ((Kd.C_below HR1.out HB.out))); (case side4 => exact HC1.out); (case side5 => exact Cz ((Kd.R_reads' HO_8.out).2.2)); (case side6 => exact (Kd.R_reads' HO_8.out).2.1); rintro e w33 ⟨v897, rfl, ho0, hb⟩; refine ⟨_, rfl, ?_⟩; have HO898 := Aside0.mk (Kd.R_lower (Kd.R_new' ho0 (Kd.R_lt (Rz HO_8))) (below_size (by exact Lz1 HB GE891))); replace HO_8 := Aside0.mk (Kd.R_elder' (Rz HO_8) (Kd.R_base ho0) hb); replace BK891 := Aside0.mk (blk_below (g := gb891) (o := .cells #[.int .i64 a0_0, .slice A0_1 l0_1.length c0_1] 31 (0, 0)) (Bz BK891) hb); replace HB := Aside0.mk (below_step (by exact Lz1 HB GE891) hb); (try clear hb); (try clear ho0)))
      go_ret2
      exact ⟨_, by first | rfl | (simp [errW_none, errW_some] <;> rfl) | (simp [*, errW_none, errW_some] <;> rfl), by (with_reducible repeat (first | apply Kd.R_alloc | apply Kd.R_drewN | apply Kd.R_drew)); exact Kd.R_mono HO898.out (fun _ hk => trivial), by exact Lz1 HB GE891⟩
   rw [if_neg c7] at H
   exact absurd H (by simp)
  rw [if_neg c6] at H
  exact absurd H (by simp)
 replace c5 := Bool.eq_false_iff.mpr c5
 subst c5
 have H1 : (some (([] : List Int), false)) = some (r1, r2) := by rw [if_neg (show ¬ (false = true) by decide)] at H; exact H
 clear H
 have H := H1
 clear H1
 simp only [Option.some.injEq, Prod.mk.injEq] at H
 obtain ⟨rfl, rfl⟩ := H
 go_enter Try.func41, Try.ntmps41
 go_wp2_with (first | ((with_reducible refine gate_dst (N := 3) rfl ?_); refine box_event ?hg (N := 3) ?hd (cs := #[.int .i64 a0_0, .slice A0_1 l0_1.length c0_1]) (t := 31) ?hr ?_; (case hd => rfl); (case hg => rfl); (case hr => first | (go_simp; done) | (go_simp; rfl)); intro gb891 hg w34 hbox hb; have BK891 := Aside0.mk (hbox); have GW891 := Aside0.mk ((by rw [hg]; exact (below_size (Lz HB)) : w.heap.size ≤ gb891)); have GE891 := Aside0.mk ((by rw [hg]; exact (below_size (Lz HB)) : w.heap.size ≤ gb891)); replace HB := Aside0.mk (below_step (Lz HB) hb); clear hb hbox hg; have hcz35_0 : w34.cell? ⟨gb891, 0, none⟩ = some (.int .i64 a0_0) := (blk_cell BK891.out 0).trans rfl; have hcz35_1 : w34.cell? ⟨gb891, 1, none⟩ = some (.slice A0_1 l0_1.length c0_1) := (blk_cell BK891.out 1).trans rfl; have hfz35_0 := blk_frozen BK891.out 0; have hfz35_1 := blk_frozen BK891.out 1) | ((with_reducible refine gate_callee (f := 71) rfl ?_); refine goesM_ (some 13) rfl rfl Try.func71 (by kernel_rfl) rfl #[.agg #[.int .i64 a0_0, .slice A0_1 l0_1.length c0_1], .slice A1 l1.length c1] rfl ?_; (with_reducible refine (impl_DivisorOk.calls k a0_0 _ _ l0_1 _ _ l1 false _ ?side1 ?side2 ?side3 ?side4 A4.out).mono ?_); (case side1 => exact Cz ((Kd.C_below HR0_1.out HB.out))); (case side2 => exact HC0_1.out); (case side3 => exact Cz ((Kd.C_below HR1.out HB.out))); (case side4 => exact HC1.out); rintro e w36 ⟨rfl, hb⟩; refine ⟨_, rfl, ?_⟩; replace BK891 := Aside0.mk (blk_below (g := gb891) (o := .cells #[.int .i64 a0_0, .slice A0_1 l0_1.length c0_1] 31 (0, 0)) (Bz BK891) hb); replace HB := Aside0.mk (below_step (by exact Lz1 HB GE891) hb); (try clear hb); (try clear hb2); (try clear hk); (try clear hi)))
 go_ret2
 exact ⟨_, by first | rfl | (simp [errW_none, errW_some] <;> rfl) | (simp [*, errW_none, errW_some] <;> rfl), by first | exact Kd.R_nil _ _ _ _ _ | exact Kd.N_nil _ _ _ _ _ | exact Kd.V_nil _ _ _ _ _ | exact Kd.Q_nil _ _ _ _ _ | exact Kd.S_nil _ _ _ _ _, by exact Lz1 HB GE891⟩
def impl_IsLegalSet.l0 : Nat → List Int → List Int → Int → Int → Option (Bool)
 | 0, _, _, _, _ => none
 | k + 1, x7, x20, x21, x22 => if x22 < x21 then (if 0 ≤ x22 then (if x22 < (x20.length : Int) then (if 0 ≤ (rd x20 x22) then (if (rd x20 x22) < (x7.length : Int) then (if (rd x7 (rd x20 x22)) < 0 then (some false) else (impl_IsLegalSet.l0 k x7 x20 x21 (wrap64 (x22 + 1)))) else (none)) else (none)) else (none)) else (none)) else (some true)
def impl_IsLegalSet.f (k : Nat) (a0_0 : Int) (l0_1 : List (S67)) (l1 : List Int) (l2 : List Int) : Option (Bool) := (impl_FireSet.f k a0_0 l0_1 l1 l2).bind fun bt904 => (if bt904.2 = true then (impl_IsLegalSet.l0 k bt904.1 l2 (l2.length : Int) 0) else (some false))
set_option maxHeartbeats 8000000 in
set_option maxRecDepth 100000 in
theorem impl_IsLegalSet.calls (k : Nat) (a0_0 : Int) (A0_1 : Option Addr) (c0_1 : Nat) (l0_1 : List (S67)) (A1 : Option Addr) (c1 : Nat) (l1 : List Int) (A2 : Option Addr) (c2 : Nat) (l2 : List Int) (r : Bool) (w : World) (hr0_1 : Kd.C k67 w A0_1 l0_1.length l0_1) (hc0_1 : l0_1.length ≤ c0_1) (hr1 : Kd.C (Kd.int .i64) w A1 l1.length l1) (hc1 : l1.length ≤ c1) (hr2 : Kd.C (Kd.int .i64) w A2 l2.length l2) (hc2 : l2.length ≤ c2) (h : impl_IsLegalSet.f k a0_0 l0_1 l1 l2 = some r) :
  Calls Try.prog 35 #[.agg #[.int .i64 a0_0, .slice A0_1 l0_1.length c0_1], .slice A1 l1.length c1, .slice A2 l2.length c2] w fun e w' => e = .returned (.bool r) ∧ Below w.heap.size w w' := by
 have hu31 := Try.underlying31
 have HR0_1 := Aside0.mk hr0_1
 have HC0_1 := Aside0.mk hc0_1
 clear hr0_1 hc0_1
 have HR1 := Aside0.mk hr1
 have HC1 := Aside0.mk hc1
 clear hr1 hc1
 have HR2 := Aside0.mk hr2
 have HC2 := Aside0.mk hc2
 clear hr2 hc2
 have HB := Aside0.mk (Below.refl w.heap.size w)
 have H : ((impl_FireSet.f k a0_0 l0_1 l1 l2).bind fun bt904 => (if bt904.2 = true then (impl_IsLegalSet.l0 k bt904.1 l2 (l2.length : Int) 0) else (some false))) = some r := h
 clear h
 replace H := Option.bind_eq_some_iff.mp H
 obtain ⟨⟨t904, t907⟩, A40, H⟩ := H
 replace H : (if t907 = true then (impl_IsLegalSet.l0 k t904 l2 (l2.length : Int) 0) else (some false)) = some r := H
 have A4 := Aside0.mk A40
 clear A40
 by_cases c5 : t907 = true
 ·subst c5
  have H1 : (impl_IsLegalSet.l0 k t904 l2 (l2.length : Int) 0) = some r := by rw [if_pos rfl] at H; exact H
  clear H
  have H := H1
  clear H1
  have H' := Aside0.mk H
  clear H
  go_enter Try.func35, Try.ntmps35
  go_wp2_with (first | ((with_reducible refine gate_dst (N := 3) rfl ?_); refine box_event ?hg (N := 3) ?hd (cs := #[.int .i64 a0_0, .slice A0_1 l0_1.length c0_1]) (t := 31) ?hr ?_; (case hd => rfl); (case hg => rfl); (case hr => first | (go_simp; done) | (go_simp; rfl)); intro gb903 hg w6 hbox hb; have BK903 := Aside0.mk (hbox); have GW903 := Aside0.mk ((by rw [hg]; exact (below_size (Lz HB)) : w.heap.size ≤ gb903)); have GE903 := Aside0.mk ((by rw [hg]; exact (below_size (Lz HB)) : w.heap.size ≤ gb903)); replace HB := Aside0.mk (below_step (Lz HB) hb); clear hb hbox hg; have hcz7_0 : w6.cell? ⟨gb903, 0, none⟩ = some (.int .i64 a0_0) := (blk_cell BK903.out 0).trans rfl; have hcz7_1 : w6.cell? ⟨gb903, 1, none⟩ = some (.slice A0_1 l0_1.length c0_1) := (blk_cell BK903.out 1).trans rfl; have hfz7_0 := blk_frozen BK903.out 0; have hfz7_1 := blk_frozen BK903.out 1) | ((with_reducible refine gate_callee (f := 41) rfl ?_); refine goesM_ (some 15) rfl rfl Try.func41 (by kernel_rfl) rfl #[.agg #[.int .i64 a0_0, .slice A0_1 l0_1.length c0_1], .slice A1 l1.length c1, .slice A2 l2.length c2] rfl ?_; (with_reducible refine (impl_FireSet.calls k a0_0 _ _ l0_1 _ _ l1 _ _ l2 t904 true _ ?side1 ?side2 ?side3 ?side4 ?side5 ?side6 A4.out).mono ?_); (case side1 => exact Cz ((Kd.C_below HR0_1.out HB.out))); (case side2 => exact HC0_1.out); (case side3 => exact Cz ((Kd.C_below HR1.out HB.out))); (case side4 => exact HC1.out); (case side5 => exact Cz ((Kd.C_below HR2.out HB.out))); (case side6 => exact HC2.out); rintro e w8 ⟨v905, rfl, ho0, hb⟩; refine ⟨_, rfl, ?_⟩; have HO906 := Aside0.mk (Kd.R_lower ho0 (below_size (by exact Lz1 HB GE903))); replace BK903 := Aside0.mk (blk_below (g := gb903) (o := .cells #[.int .i64 a0_0, .slice A0_1 l0_1.length c0_1] 31 (0, 0)) (Bz BK903) hb); replace HB := Aside0.mk (below_step (by exact Lz1 HB GE903) hb); (try clear hb); (try clear ho0)))
  go_loopg [22] k (fun kq v22 w' => ∃ (x22_1 : Int), v22 = .int .i64 x22_1 ∧ Aside0 (impl_IsLegalSet.l0 kq t904 l2 (l2.length : Int) x22_1 = some r) ∧ Aside0 (kq ≤ k) ∧ Aside0 (Kd.R (Kd.int .i64) 3 w' w.heap.size (fun _ => True) v905 t904) ∧ Aside0 (w'.heap[gb903]? = some (.cells #[.int .i64 a0_0, (.slice A0_1 l0_1.length c0_1)] 31 (0, 0))) ∧ Aside0 (Below w.heap.size w w'))
  case atStart => exact ⟨(0), eqA, H', ⟨Nat.le_refl _⟩, ⟨by exact Rz HO906⟩, ⟨by exact Bz BK903⟩, ⟨by exact Lz1 HB GE903⟩⟩
  case round =>
   clear H'
   try clear c1
   try clear c2
   try clear c5
   obtain ⟨x22_1, rfl, HA, HK1, HO_7, BK903, HB⟩ := hrel
   cases gk with
   | zero => exact absurd HA.out (by simp [impl_IsLegalSet.l0])
   | succ k1 =>
    have H := HA.out
    clear HA
    simp only [impl_IsLegalSet.l0] at H
    by_cases c9 : x22_1 < (l2.length : Int)
    ·rw [if_pos c9] at H
     have c9b0 : decide (x22_1 < (l2.length : Int)) = true := decide_eq_true c9
     clear c9
     by_cases c10 : 0 ≤ x22_1
     ·rw [if_pos c10] at H
      have c10b0 : decide (0 ≤ x22_1) = true := decide_eq_true c10
      clear c10
      by_cases c11 : x22_1 < (l2.length : Int)
      ·rw [if_pos c11] at H
       have c11b0 : decide (x22_1 < (l2.length : Int)) = true := decide_eq_true c11
       clear c11
       by_cases c12 : 0 ≤ (rd l2 x22_1)
       ·rw [if_pos c12] at H
        have c12b0 : decide (0 ≤ (rd l2 x22_1)) = true := decide_eq_true c12
        clear c12
        by_cases c13 : (rd l2 x22_1) < (t904.length : Int)
        ·rw [if_pos c13] at H
         have c13b0 : decide ((rd l2 x22_1) < (t904.length : Int)) = true := decide_eq_true c13
         clear c13
         by_cases c14 : (rd t904 (rd l2 x22_1)) < 0
         ·rw [if_pos c14] at H
          have c14b0 : decide ((rd t904 (rd l2 x22_1)) < 0) = true := decide_eq_true c14
          clear c14
          obtain rfl := Option.some.inj H
          have p908 : 0 ≤ (x22_1 : Int) := ofA
          have q908 : x22_1 < (l2.length : Int) := ofA
          obtain ⟨ad908, e908, hx908_0⟩ := Kd.at_int HR2.out x22_1 p908 q908
          cases e908
          replace hx908_0 := (HB.out.cell (World.block_lt_of_cell? w _ hx908_0)).trans hx908_0
          replace p908 := eq_true p908
          replace q908 := eq_true q908
          obtain ⟨Ao15, co15, eo15⟩ := Kd.R_slice HO_7.out
          subst eo15
          have p909 : 0 ≤ ((rd l2 x22_1) : Int) := ofA
          have q909 : (rd l2 x22_1) < (t904.length : Int) := ofA
          obtain ⟨ad909, e909, hx909_0⟩ := Kd.at_int (Kd.R_reads' HO_7.out).2.2 (rd l2 x22_1) p909 q909
          cases e909
          replace p909 := eq_true p909
          replace q909 := eq_true q909
          go_wp2
          go_ret
          exact ⟨by first | rfl | (simp [errW_none, errW_some] <;> rfl) | (simp [*, errW_none, errW_some] <;> rfl), by exact Lz1 HB GE903⟩
         rw [if_neg c14] at H
         have c14b0 : decide ((rd t904 (rd l2 x22_1)) < 0) = false := decide_eq_false c14
         clear c14
         have H' := Aside0.mk H
         clear H
         have p908 : 0 ≤ (x22_1 : Int) := ofA
         have q908 : x22_1 < (l2.length : Int) := ofA
         obtain ⟨ad908, e908, hx908_0⟩ := Kd.at_int HR2.out x22_1 p908 q908
         cases e908
         replace hx908_0 := (HB.out.cell (World.block_lt_of_cell? w _ hx908_0)).trans hx908_0
         replace p908 := eq_true p908
         replace q908 := eq_true q908
         obtain ⟨Ao16, co16, eo16⟩ := Kd.R_slice HO_7.out
         subst eo16
         have p909 : 0 ≤ ((rd l2 x22_1) : Int) := ofA
         have q909 : (rd l2 x22_1) < (t904.length : Int) := ofA
         obtain ⟨ad909, e909, hx909_0⟩ := Kd.at_int (Kd.R_reads' HO_7.out).2.2 (rd l2 x22_1) p909 q909
         cases e909
         replace p909 := eq_true p909
         replace q909 := eq_true q909
         go_wp2
         go_roundg k1
         case measure => have := HK1.out; omega
         case rel => exact ⟨(wrap64 (x22_1 + 1)), eqA, H', ⟨by have := HK1.out; omega⟩, ⟨by exact Rz HO_7⟩, ⟨by exact Bz BK903⟩, ⟨by exact Lz1 HB GE903⟩⟩
        rw [if_neg c13] at H
        exact absurd H (by simp)
       rw [if_neg c12] at H
       exact absurd H (by simp)
      rw [if_neg c11] at H
      exact absurd H (by simp)
     rw [if_neg c10] at H
     exact absurd H (by simp)
    rw [if_neg c9] at H
    have c9b0 : decide (x22_1 < (l2.length : Int)) = false := decide_eq_false c9
    clear c9
    obtain rfl := Option.some.inj H
    go_wp2
    go_ret
    exact ⟨by first | rfl | (simp [errW_none, errW_some] <;> rfl) | (simp [*, errW_none, errW_some] <;> rfl), by exact Lz1 HB GE903⟩
 replace c5 := Bool.eq_false_iff.mpr c5
 subst c5
 have H1 : (some false) = some r := by rw [if_neg (show ¬ (false = true) by decide)] at H; exact H
 clear H
 have H := H1
 clear H1
 obtain rfl := Option.some.inj H
 go_enter Try.func35, Try.ntmps35
 go_wp2_with (first | ((with_reducible refine gate_dst (N := 3) rfl ?_); refine box_event ?hg (N := 3) ?hd (cs := #[.int .i64 a0_0, .slice A0_1 l0_1.length c0_1]) (t := 31) ?hr ?_; (case hd => rfl); (case hg => rfl); (case hr => first | (go_simp; done) | (go_simp; rfl)); intro gb903 hg w17 hbox hb; have BK903 := Aside0.mk (hbox); have GW903 := Aside0.mk ((by rw [hg]; exact (below_size (Lz HB)) : w.heap.size ≤ gb903)); have GE903 := Aside0.mk ((by rw [hg]; exact (below_size (Lz HB)) : w.heap.size ≤ gb903)); replace HB := Aside0.mk (below_step (Lz HB) hb); clear hb hbox hg; have hcz18_0 : w17.cell? ⟨gb903, 0, none⟩ = some (.int .i64 a0_0) := (blk_cell BK903.out 0).trans rfl; have hcz18_1 : w17.cell? ⟨gb903, 1, none⟩ = some (.slice A0_1 l0_1.length c0_1) := (blk_cell BK903.out 1).trans rfl; have hfz18_0 := blk_frozen BK903.out 0; have hfz18_1 := blk_frozen BK903.out 1) | ((with_reducible refine gate_callee (f := 41) rfl ?_); refine goesM_ (some 15) rfl rfl Try.func41 (by kernel_rfl) rfl #[.agg #[.int .i64 a0_0, .slice A0_1 l0_1.length c0_1], .slice A1 l1.length c1, .slice A2 l2.length c2] rfl ?_; (with_reducible refine (impl_FireSet.calls k a0_0 _ _ l0_1 _ _ l1 _ _ l2 t904 false _ ?side1 ?side2 ?side3 ?side4 ?side5 ?side6 A4.out).mono ?_); (case side1 => exact Cz ((Kd.C_below HR0_1.out HB.out))); (case side2 => exact HC0_1.out); (case side3 => exact Cz ((Kd.C_below HR1.out HB.out))); (case side4 => exact HC1.out); (case side5 => exact Cz ((Kd.C_below HR2.out HB.out))); (case side6 => exact HC2.out); rintro e w19 ⟨v905, rfl, ho0, hb⟩; refine ⟨_, rfl, ?_⟩; have HO906 := Aside0.mk (Kd.R_lower ho0 (below_size (by exact Lz1 HB GE903))); replace BK903 := Aside0.mk (blk_below (g := gb903) (o := .cells #[.int .i64 a0_0, .slice A0_1 l0_1.length c0_1] 31 (0, 0)) (Bz BK903) hb); replace HB := Aside0.mk (below_step (by exact Lz1 HB GE903) hb); (try clear hb); (try clear ho0)))
 go_ret
 exact ⟨by first | rfl | (simp [errW_none, errW_some] <;> rfl) | (simp [*, errW_none, errW_some] <;> rfl), by exact Lz1 HB GE903⟩
def laws_has.l0 : Nat → Int → List Int → Int → Int → Option (Bool)
 | 0, _, _, _, _ => none
 | k + 1, x1, x7, x8, x9 => if x9 < x8 then (if 0 ≤ x9 then (if x9 < (x7.length : Int) then (if (rd x7 x9) = x1 then (some true) else (laws_has.l0 k x1 x7 x8 (wrap64 (x9 + 1)))) else (none)) else (none)) else (some false)
def laws_has.f (k : Nat) (l0 : List Int) (a1 : Int) : Option (Bool) := laws_has.l0 k a1 l0 (l0.length : Int) 0
set_option maxHeartbeats 8000000 in
set_option maxRecDepth 100000 in
theorem laws_has.calls (k : Nat) (A0 : Option Addr) (c0 : Nat) (l0 : List Int) (a1 : Int) (r : Bool) (w : World) (hr0 : Kd.C (Kd.int .i64) w A0 l0.length l0) (hc0 : l0.length ≤ c0) (h : laws_has.f k l0 a1 = some r) :
  Calls Try.prog 36 #[.slice A0 l0.length c0, .int .i64 a1] w fun e w' => e = .returned (.bool r) ∧ Drawn0 w w' := by
 have HR0 := Aside0.mk hr0
 have HC0 := Aside0.mk hc0
 clear hr0 hc0
 have H : (laws_has.l0 k a1 l0 (l0.length : Int) 0) = some r := h
 clear h
 have H' := Aside0.mk H
 clear H
 go_enter Try.func36, Try.ntmps36
 go_wp2
 go_loopg [9] k (fun kq v9 w' => ∃ (x9_1 : Int), v9 = .int .i64 x9_1 ∧ Aside0 (laws_has.l0 kq a1 l0 (l0.length : Int) x9_1 = some r) ∧ Aside0 (kq ≤ k) ∧ Drawn0 w w')
 case atStart => exact ⟨(0), eqA, H', ⟨Nat.le_refl _⟩, by repeat (first | exact Drawn0.refl _ | apply Drawn0.step)⟩
 case round =>
  clear H'
  obtain ⟨x9_1, rfl, HA, HK1, ⟨m1, rfl⟩⟩ := hrel
  cases gk with
  | zero => exact absurd HA.out (by simp [laws_has.l0])
  | succ k1 =>
   have H := HA.out
   clear HA
   simp only [laws_has.l0] at H
   by_cases c3 : x9_1 < (l0.length : Int)
   ·rw [if_pos c3] at H
    have c3b0 : decide (x9_1 < (l0.length : Int)) = true := decide_eq_true c3
    clear c3
    by_cases c4 : 0 ≤ x9_1
    ·rw [if_pos c4] at H
     have c4b0 : decide (0 ≤ x9_1) = true := decide_eq_true c4
     clear c4
     by_cases c5 : x9_1 < (l0.length : Int)
     ·rw [if_pos c5] at H
      have c5b0 : decide (x9_1 < (l0.length : Int)) = true := decide_eq_true c5
      clear c5
      by_cases c6 : (rd l0 x9_1) = a1
      ·rw [if_pos c6] at H
       have c6b0 : ((rd l0 x9_1) == a1) = true := beq_iff_eq.mpr c6
       have c6b1 : ((rd l0 x9_1) != a1) = false := bne_eq_false_iff_eq.mpr c6
       clear c6
       obtain rfl := Option.some.inj H
       have p910 : 0 ≤ (x9_1 : Int) := ofA
       have q910 : x9_1 < (l0.length : Int) := ofA
       obtain ⟨ad910, e910, hx910_0⟩ := Kd.at_int HR0.out x9_1 p910 q910
       cases e910
       replace p910 := eq_true p910
       replace q910 := eq_true q910
       go_wp2
       go_ret
       exact ⟨eqA, by repeat (first | exact Drawn0.refl _ | apply Drawn0.step)⟩
      rw [if_neg c6] at H
      have c6b0 : ((rd l0 x9_1) == a1) = false := beq_eq_false_iff_ne.mpr c6
      have c6b1 : ((rd l0 x9_1) != a1) = true := bne_iff_ne.mpr c6
      have H' := Aside0.mk H
      clear H
      have p910 : 0 ≤ (x9_1 : Int) := ofA
      have q910 : x9_1 < (l0.length : Int) := ofA
      obtain ⟨ad910, e910, hx910_0⟩ := Kd.at_int HR0.out x9_1 p910 q910
      cases e910
      replace p910 := eq_true p910
      replace q910 := eq_true q910
      go_wp2
      go_roundg k1
      case measure => have := HK1.out; omega
      case rel => exact ⟨(wrap64 (x9_1 + 1)), eqA, H', ⟨by have := HK1.out; omega⟩, by repeat (first | exact Drawn0.refl _ | apply Drawn0.step)⟩
     rw [if_neg c5] at H
     exact absurd H (by simp)
    rw [if_neg c4] at H
    exact absurd H (by simp)
   rw [if_neg c3] at H
   have c3b0 : decide (x9_1 < (l0.length : Int)) = false := decide_eq_false c3
   clear c3
   obtain rfl := Option.some.inj H
   go_wp2
   go_ret
   exact ⟨eqA, by repeat (first | exact Drawn0.refl _ | apply Drawn0.step)⟩
mutual
def laws_FnLegal.j0 : Nat → List Int → Option (Bool)
 | 0, _ => none
 | k + 1, x0 => (spec_MakeGraph.f k x0).bind fun bt911 => ((spec_MakeNum.f k x0 60).bind fun t916 => (if bt911.1 = 0 then (none) else ((spec_MakePile.f k x0 20 bt911.1 bt911.2 (Int.tmod t916 bt911.1)).bind fun t917 => ((impl_BurnFrom.f k bt911.1 bt911.2 t917 (Int.tmod t916 bt911.1)).bind fun bt920 => ((impl_MostLegalSet.f k bt911.1 bt911.2 t917 (Int.tmod t916 bt911.1)).bind fun t924 => (if bt920.2 = true then (if (wrap64 ((bt920.1.length : Int) + (t924.length : Int))) = bt911.1 then ((impl_IsLegalSet.f k bt911.1 bt911.2 t917 t924).bind fun t927 => (if t927 = true then ((laws_has.f k t924 (Int.tmod t916 bt911.1)).bind fun t928 => (laws_FnLegal.j1 k (Int.tmod t916 bt911.1) t917 t924 t928 bt911.1 bt911.2)) else (laws_FnLegal.j1 k (Int.tmod t916 bt911.1) t917 t924 true bt911.1 bt911.2))) else (laws_FnLegal.j1 k (Int.tmod t916 bt911.1) t917 t924 true bt911.1 bt911.2)) else (laws_FnLegal.j1 k (Int.tmod t916 bt911.1) t917 t924 true bt911.1 bt911.2)))))))
def laws_FnLegal.j1 : Nat → Int → List Int → List Int → Bool → Int → List (S67) → Option (Bool)
 | 0, _, _, _, _, _, _ => none
 | k + 1, x4, x5, x8, x62, x916000, x916001 => if x62 = true then (some false) else (laws_FnLegal.j2 k x4 x5 x8 x916000 x916001)
def laws_FnLegal.j2 : Nat → Int → List Int → List Int → Int → List (S67) → Option (Bool)
 | 0, _, _, _, _, _ => none
 | k + 1, x4, x5, x8, x916000, x916001 => laws_FnLegal.l0 k x4 x5 x8 0 x916000 x916001
def laws_FnLegal.l0 : Nat → Int → List Int → List Int → Int → Int → List (S67) → Option (Bool)
 | 0, _, _, _, _, _, _ => none
 | k + 1, x4, x5, x8, x9, x916000, x916001 => if 0 ≤ x916000 then (if x9 < (shl .i64 1 x916000) then (laws_FnLegal.j4 k x4 x5 x8 x9 x916000 x916001) else (some true)) else (none)
def laws_FnLegal.j4 : Nat → Int → List Int → List Int → Int → Int → List (S67) → Option (Bool)
 | 0, _, _, _, _, _, _ => none
 | k + 1, x4, x5, x8, x9, x916000, x916001 => laws_FnLegal.l1 k x4 x5 x8 x9 (([] : List Int)) 0 x916000 x916001
def laws_FnLegal.l1 : Nat → Int → List Int → List Int → Int → List Int → Int → Int → List (S67) → Option (Bool)
 | 0, _, _, _, _, _, _, _, _ => none
 | k + 1, x4, x5, x8, x9, x10, x11, x916000, x916001 => if x11 < x916000 then (laws_FnLegal.j6 k x4 x5 x8 x9 x10 x11 x916000 x916001) else ((laws_has.f k x10 x4).bind fun t935 => (if t935 = true then (laws_FnLegal.j7 k x4 x5 x8 x9 x10 true x916000 x916001) else ((impl_IsLegalSet.f k x916000 x916001 x5 x10).bind fun t936 => (laws_FnLegal.j7 k x4 x5 x8 x9 x10 (!t936) x916000 x916001))))
def laws_FnLegal.j6 : Nat → Int → List Int → List Int → Int → List Int → Int → Int → List (S67) → Option (Bool)
 | 0, _, _, _, _, _, _, _, _ => none
 | k + 1, x4, x5, x8, x9, x10, x11, x916000, x916001 => if 0 ≤ x11 then (if (Go.bits .and .i64 (shr .i64 x9 x11) 1) = 1 then (if x10.length < 17592186044416 then (laws_FnLegal.l1 k x4 x5 x8 x9 (x10 ++ [x11]) (wrap64 (x11 + 1)) x916000 x916001) else (none)) else (laws_FnLegal.l1 k x4 x5 x8 x9 x10 (wrap64 (x11 + 1)) x916000 x916001)) else (none)
def laws_FnLegal.j7 : Nat → Int → List Int → List Int → Int → List Int → Bool → Int → List (S67) → Option (Bool)
 | 0, _, _, _, _, _, _, _, _ => none
 | k + 1, x4, x5, x8, x9, x10, x95, x916000, x916001 => if x95 = true then (laws_FnLegal.l0 k x4 x5 x8 (wrap64 (x9 + 1)) x916000 x916001) else (laws_FnLegal.j8 k x4 x5 x8 x9 x10 x916000 x916001)
def laws_FnLegal.j8 : Nat → Int → List Int → List Int → Int → List Int → Int → List (S67) → Option (Bool)
 | 0, _, _, _, _, _, _, _ => none
 | k + 1, x4, x5, x8, x9, x10, x916000, x916001 => laws_FnLegal.l2 k x4 x5 x8 x9 x10 (x10.length : Int) 0 x916000 x916001
def laws_FnLegal.l2 : Nat → Int → List Int → List Int → Int → List Int → Int → Int → Int → List (S67) → Option (Bool)
 | 0, _, _, _, _, _, _, _, _, _ => none
 | k + 1, x4, x5, x8, x9, x96, x97, x98, x916000, x916001 => if x98 < x97 then (laws_FnLegal.j10 k x4 x5 x8 x9 x96 x97 x98 x916000 x916001) else (laws_FnLegal.l0 k x4 x5 x8 (wrap64 (x9 + 1)) x916000 x916001)
def laws_FnLegal.j10 : Nat → Int → List Int → List Int → Int → List Int → Int → Int → Int → List (S67) → Option (Bool)
 | 0, _, _, _, _, _, _, _, _, _ => none
 | k + 1, x4, x5, x8, x9, x96, x97, x98, x916000, x916001 => if 0 ≤ x98 then (if x98 < (x96.length : Int) then ((laws_has.f k x8 (rd x96 x98)).bind fun t938 => (if t938 = true then (laws_FnLegal.l2 k x4 x5 x8 x9 x96 x97 (wrap64 (x98 + 1)) x916000 x916001) else (some false))) else (none)) else (none)
end
def laws_FnLegal.f (k : Nat) (l0 : List Int) : Option (Bool) := if (l0.length : Int) > 1048576 then (some true) else (laws_FnLegal.j0 k l0)
set_option maxHeartbeats 8000000 in
set_option maxRecDepth 100000 in
theorem laws_FnLegal.calls (k : Nat) (A0 : Option Addr) (c0 : Nat) (l0 : List Int) (r : Bool) (w : World) (hr0 : Kd.C (Kd.int .u8) w A0 l0.length l0) (hc0 : l0.length ≤ c0) (h : laws_FnLegal.f k l0 = some r) (hR_ : r = true := by rfl) :
  Calls Try.prog 6 #[.slice A0 l0.length c0] w fun e w' => e = .returned (.bool r) ∧ Below w.heap.size w w' := by
 have HR_ := Aside0.mk hR_
 clear hR_
 have hu31 := Try.underlying31
 have HR0 := Aside0.mk hr0
 have HC0 := Aside0.mk hc0
 clear hr0 hc0
 have HB := Aside0.mk (Below.refl w.heap.size w)
 have H : (if (l0.length : Int) > 1048576 then (some true) else (laws_FnLegal.j0 k l0)) = some r := h
 clear h
 have HC2 := Aside0.mk H
 clear H
 go_enter Try.func6, Try.ntmps6
 go_upto_if 16 with (fail)
 go_cut [] (fun wc => ∃ (kq : Nat), Aside0 (laws_FnLegal.j0 kq l0 = some r) ∧ Aside0 (kq ≤ k) ∧ Aside0 (Below w.heap.size w wc))
 case first =>
  have H := HC2.out
  clear HC2
  by_cases c3 : (l0.length : Int) > 1048576
  ·rw [if_pos c3] at H
   have c3b0 : decide (1048576 < (l0.length : Int)) = true := decide_eq_true c3
   have c3b1 : decide (1048576 < l0.length) = true := decide_eq_true (by omega)
   clear c3
   (first | rw [c3b0] | (simp only [i64_w, i32_w]; rw [c3b0]) | skip)
   obtain rfl := Option.some.inj H
   go_wp2
   go_ret
   exact ⟨by first | rfl | (simp [errW_none, errW_some] <;> rfl) | (simp [*, errW_none, errW_some] <;> rfl), by exact Lz HB⟩
  rw [if_neg c3] at H
  have c3b0 : decide (1048576 < (l0.length : Int)) = false := decide_eq_false c3
  have c3b1 : decide (1048576 < l0.length) = false := decide_eq_false (by omega)
  clear c3
  (first | rw [c3b0] | (simp only [i64_w, i32_w]; rw [c3b0]) | skip)
  have H' := Aside0.mk H
  clear H
  go_wp2
  go_meet
  case rel => exact ⟨_, H', ⟨by first | omega | exact Nat.le_refl _⟩, ⟨by exact Lz HB⟩⟩
 case rest =>
  clear HC2
  try clear c3
  try clear c3b0
  try clear c3b1
  obtain ⟨kq, HA, HJ1, HB⟩ := hcut
  cases kq with
  | zero => exact absurd HA.out (by simp [laws_FnLegal.j0])
  | succ kj1 =>
   have H := HA.out
   clear HA
   simp only [laws_FnLegal.j0] at H
   replace H := Option.bind_eq_some_iff.mp H
   obtain ⟨⟨t911, t912⟩, A40, H⟩ := H
   replace H : ((spec_MakeNum.f kj1 l0 60).bind fun t916 => (if t911 = 0 then (none) else ((spec_MakePile.f kj1 l0 20 t911 t912 (Int.tmod t916 t911)).bind fun t917 => ((impl_BurnFrom.f kj1 t911 t912 t917 (Int.tmod t916 t911)).bind fun bt920 => ((impl_MostLegalSet.f kj1 t911 t912 t917 (Int.tmod t916 t911)).bind fun t924 => (if bt920.2 = true then (if (wrap64 ((bt920.1.length : Int) + (t924.length : Int))) = t911 then ((impl_IsLegalSet.f kj1 t911 t912 t917 t924).bind fun t927 => (if t927 = true then ((laws_has.f kj1 t924 (Int.tmod t916 t911)).bind fun t928 => (laws_FnLegal.j1 kj1 (Int.tmod t916 t911) t917 t924 t928 t911 t912)) else (laws_FnLegal.j1 kj1 (Int.tmod t916 t911) t917 t924 true t911 t912))) else (laws_FnLegal.j1 kj1 (Int.tmod t916 t911) t917 t924 true t911 t912)) else (laws_FnLegal.j1 kj1 (Int.tmod t916 t911) t917 t924 true t911 t912))))))) = some r := H
   have A4 := Aside0.mk A40
   clear A40
   replace H := Option.bind_eq_some_iff.mp H
   obtain ⟨t916, A50, H⟩ := H
   replace H : (if t911 = 0 then (none) else ((spec_MakePile.f kj1 l0 20 t911 t912 (Int.tmod t916 t911)).bind fun t917 => ((impl_BurnFrom.f kj1 t911 t912 t917 (Int.tmod t916 t911)).bind fun bt920 => ((impl_MostLegalSet.f kj1 t911 t912 t917 (Int.tmod t916 t911)).bind fun t924 => (if bt920.2 = true then (if (wrap64 ((bt920.1.length : Int) + (t924.length : Int))) = t911 then ((impl_IsLegalSet.f kj1 t911 t912 t917 t924).bind fun t927 => (if t927 = true then ((laws_has.f kj1 t924 (Int.tmod t916 t911)).bind fun t928 => (laws_FnLegal.j1 kj1 (Int.tmod t916 t911) t917 t924 t928 t911 t912)) else (laws_FnLegal.j1 kj1 (Int.tmod t916 t911) t917 t924 true t911 t912))) else (laws_FnLegal.j1 kj1 (Int.tmod t916 t911) t917 t924 true t911 t912)) else (laws_FnLegal.j1 kj1 (Int.tmod t916 t911) t917 t924 true t911 t912)))))) = some r := H
   have A5 := Aside0.mk A50
   clear A50
   by_cases c6 : t911 = 0
   ·rw [if_pos c6] at H
    exact absurd H (by simp)
   rw [if_neg c6] at H
   have c6b0 : (t911 == 0) = false := beq_eq_false_iff_ne.mpr c6
   have c6b1 : (t911 != 0) = true := bne_iff_ne.mpr c6
   replace H := Option.bind_eq_some_iff.mp H
   obtain ⟨t917, A70, H⟩ := H
   replace H : ((impl_BurnFrom.f kj1 t911 t912 t917 (Int.tmod t916 t911)).bind fun bt920 => ((impl_MostLegalSet.f kj1 t911 t912 t917 (Int.tmod t916 t911)).bind fun t924 => (if bt920.2 = true then (if (wrap64 ((bt920.1.length : Int) + (t924.length : Int))) = t911 then ((impl_IsLegalSet.f kj1 t911 t912 t917 t924).bind fun t927 => (if t927 = true then ((laws_has.f kj1 t924 (Int.tmod t916 t911)).bind fun t928 => (laws_FnLegal.j1 kj1 (Int.tmod t916 t911) t917 t924 t928 t911 t912)) else (laws_FnLegal.j1 kj1 (Int.tmod t916 t911) t917 t924 true t911 t912))) else (laws_FnLegal.j1 kj1 (Int.tmod t916 t911) t917 t924 true t911 t912)) else (laws_FnLegal.j1 kj1 (Int.tmod t916 t911) t917 t924 true t911 t912)))) = some r := H
   have A7 := Aside0.mk A70
   clear A70
   replace H := Option.bind_eq_some_iff.mp H
   obtain ⟨⟨t920, t923⟩, A80, H⟩ := H
   replace H : ((impl_MostLegalSet.f kj1 t911 t912 t917 (Int.tmod t916 t911)).bind fun t924 => (if t923 = true then (if (wrap64 ((t920.length : Int) + (t924.length : Int))) = t911 then ((impl_IsLegalSet.f kj1 t911 t912 t917 t924).bind fun t927 => (if t927 = true then ((laws_has.f kj1 t924 (Int.tmod t916 t911)).bind fun t928 => (laws_FnLegal.j1 kj1 (Int.tmod t916 t911) t917 t924 t928 t911 t912)) else (laws_FnLegal.j1 kj1 (Int.tmod t916 t911) t917 t924 true t911 t912))) else (laws_FnLegal.j1 kj1 (Int.tmod t916 t911) t917 t924 true t911 t912)) else (laws_FnLegal.j1 kj1 (Int.tmod t916 t911) t917 t924 true t911 t912))) = some r := H
   have A8 := Aside0.mk A80
   clear A80
   replace H := Option.bind_eq_some_iff.mp H
   obtain ⟨t924, A90, H⟩ := H
   replace H : (if t923 = true then (if (wrap64 ((t920.length : Int) + (t924.length : Int))) = t911 then ((impl_IsLegalSet.f kj1 t911 t912 t917 t924).bind fun t927 => (if t927 = true then ((laws_has.f kj1 t924 (Int.tmod t916 t911)).bind fun t928 => (laws_FnLegal.j1 kj1 (Int.tmod t916 t911) t917 t924 t928 t911 t912)) else (laws_FnLegal.j1 kj1 (Int.tmod t916 t911) t917 t924 true t911 t912))) else (laws_FnLegal.j1 kj1 (Int.tmod t916 t911) t917 t924 true t911 t912)) else (laws_FnLegal.j1 kj1 (Int.tmod t916 t911) t917 t924 true t911 t912)) = some r := H
   have A9 := Aside0.mk A90
   clear A90
   have HC10 := Aside0.mk H
   clear H
   try go_wp2_with (first | ((with_reducible refine gate_callee (f := 22) rfl ?_); refine goesM_ (some 18) rfl rfl Try.func22 (by kernel_rfl) rfl #[.slice A0 l0.length c0] rfl ?_; (with_reducible refine (spec_MakeGraph.calls kj1 _ _ l0 t911 t912 _ ?side1 ?side2 A4.out).mono ?_); (case side1 => exact Cz ((Kd.C_below HR0.out HB.out))); (case side2 => exact HC0.out); rintro e w11 ⟨v913, rfl, ho0, hb⟩; refine ⟨_, rfl, ?_⟩; have HO914 := Aside0.mk (Kd.R_lower ho0 (below_size (Lz HB))); replace HB := Aside0.mk (below_step (Lz HB) hb); (try clear hb); (try clear ho0)) | ((with_reducible refine gate_dst (N := 3) rfl ?_); (try (refine gate_guard (by rfl) ?_; dsimp only)); refine box_event ?hg (N := 3) ?hd (cs := #[.int .i64 0, .slice none 0 0]) (t := 31) ?hr ?_; (case hd => rfl); (case hg => rfl); (case hr => first | (go_simp; done) | (go_simp; rfl)); intro gb915 hg w12 hbox hb; replace HO914 := Aside0.mk (Kd.R_below (Rz HO914) hb); have BK915 := Aside0.mk (hbox); have GW915 := Aside0.mk ((by rw [hg]; exact (below_size (Lz HB)) : w.heap.size ≤ gb915)); have GE915 := Aside0.mk ((by rw [hg]; exact (below_size (Lz HB)) : w.heap.size ≤ gb915)); replace HB := Aside0.mk (below_step (Lz HB) hb); clear hb hbox hg; have hcz13_0 : w12.cell? ⟨gb915, 0, none⟩ = some (.int .i64 0) := (blk_cell BK915.out 0).trans rfl; have hcz13_1 : w12.cell? ⟨gb915, 1, none⟩ = some (.slice none 0 0) := (blk_cell BK915.out 1).trans rfl; have hfz13_0 := blk_frozen BK915.out 0; have hfz13_1 := blk_frozen BK915.out 1; obtain ⟨Ao14, co14, eo14⟩ := Kd.R_slice HO914.out; subst eo14))
   have n0_ : Aside0 (Kd.R k67 67 ((w12.setCell ⟨gb915, 0, none⟩ (.int .i64 t911)).setCell ⟨gb915, 1, none⟩ (.slice Ao14 t912.length co14)) w.heap.size (fun _ => True) (.slice Ao14 t912.length co14) t912) := ⟨by (with_reducible repeat (first | apply Kd.R_alloc | apply Kd.R_drewN | apply Kd.R_drew)); exact Kd.R_mono (Kd.R_far (p := ⟨gb915, 1, none⟩) (Kd.R_far (p := ⟨gb915, 0, none⟩) (Kd.R_types HO914.out BK915.out (by decide)) (fun _ hk => hk.2) (.int .i64 t911)) (fun _ hk => hk.2) (.slice Ao14 t912.length co14)) (fun _ hk => trivial)⟩
   have n1_ : Aside0 (((w12.setCell ⟨gb915, 0, none⟩ (.int .i64 t911)).setCell ⟨gb915, 1, none⟩ (.slice Ao14 t912.length co14)).heap[gb915]? = some (.cells #[.int .i64 t911, .slice Ao14 t912.length co14] 31 (0, 0))) := ⟨by (with_reducible repeat (first | refine blk_drewN ?_ _ | refine blk_drew ?_ | refine blk_alloc ?_ _)); refine blk_put (cs := #[.int .i64 t911, .slice none 0 0]) ?_ 1 _ rfl; (with_reducible repeat (first | refine blk_drewN ?_ _ | refine blk_drew ?_ | refine blk_alloc ?_ _)); refine blk_put (cs := #[.int .i64 0, .slice none 0 0]) ?_ 0 _ rfl; exact Bz BK915⟩
   have n2_ : Aside0 (Below w.heap.size w ((w12.setCell ⟨gb915, 0, none⟩ (.int .i64 t911)).setCell ⟨gb915, 1, none⟩ (.slice Ao14 t912.length co14))) := ⟨by exact Lz1 HB GE915⟩
   (try clear HO914)
   (try clear BK915)
   (try clear HB)
   generalize ((w12.setCell ⟨gb915, 0, none⟩ (.int .i64 t911)).setCell ⟨gb915, 1, none⟩ (.slice Ao14 t912.length co14)) = w15 at n0_ n1_ n2_ ⊢
   have HO914 := n0_
   have BK915 := n1_
   have HB := n2_
   clear n0_ n1_ n2_
   replace HO914 := Aside0.mk (Kd.R_drew HO914.out)
   replace BK915 := Aside0.mk (blk_drew BK915.out)
   replace HB := Aside0.mk (below_drew1 HB.out)
   refine start_ (n := 6) (S := fun w' => w'.cell? ⟨gb915, 0, none⟩ = some (.int .i64 t911) ∧ w'.cell? ⟨gb915, 1, none⟩ = some (.slice Ao14 t912.length co14)) (ds := []) #[false, false, false, false, false, false] (by kernel_rfl) rfl rfl ⟨(blk_cell BK915.out 0).trans rfl, (blk_cell BK915.out 1).trans rfl⟩ (fun hHeld => ?_)
   generalize w15.drew = w16 at HO914 BK915 HB hHeld ⊢
   refine pure_ (i := 0) (N := some 19) (v := ?_) (a' := ?_) #[true, false, false, false, false, false] rfl rfl (by kernel_rfl) (fun _ _ _ h => h) (Or.inl ⟨by rfl, ?_⟩) ?_ ?_
   rotate_left
   ·intro w'
    go_simp
    with_reducible rfl
   rotate_left
   ·simp only [Act.put, List.setIfInBounds_toArray, List.set_cons_zero, List.set_cons_succ, i64_w, i32_w]
    rfl
   refine pure_ (i := 2) (N := some 21) (v := ?_) (a' := ?_) #[true, false, true, false, false, false] rfl rfl (by kernel_rfl) (fun _ _ _ h => h) (Or.inl ⟨by rfl, ?_⟩) ?_ ?_
   rotate_left
   ·intro w'
    go_simp
    with_reducible rfl
   rotate_left
   ·simp only [Act.put, List.setIfInBounds_toArray, List.set_cons_zero, List.set_cons_succ, i64_w, i32_w]
    rfl
   refine take_ (i := 3) (N := some 22) (v := ?_) (a' := ?_) #[true, false, true, true, false, false] rfl rfl (by kernel_rfl) (fun _ _ _ h => h) (Or.inl ⟨by rfl, ?_⟩) hHeld ?_ ?_
   rotate_left
   ·rintro w' ⟨s0, s1⟩
    go_simp
    with_reducible rfl
   rotate_left
   ·simp only [Act.put, List.setIfInBounds_toArray, List.set_cons_zero, List.set_cons_succ, i64_w, i32_w]
    rfl
   refine one_ (i := 1) (N := some 20) #[true, true, true, true, false, false] rfl rfl (by kernel_rfl) (by decide) (fun K hK => ?_)
   refine goes_ Try.func24 (by kernel_rfl) rfl #[.slice A0 l0.length c0, .int .i64 60] (by rfl) rfl rfl (by (try simp only [List.map_toArray, List.map_cons, List.map_nil]); first | done | rfl | (simp only [List.length_drop, List.length_take]; rfl)) ?_
   with_reducible refine (spec_MakeNum.calls kj1 _ _ l0 60 t916 _ ?side1 ?side2 A5.out).mono ?_
   (case side1 => exact Cz ((Kd.C_below HR0.out HB.out)))
   (case side2 => exact HC0.out)
   rintro e w17 ⟨rfl, hb⟩
   refine ⟨_, rfl, ?_⟩
   replace HO914 := Aside0.mk (Kd.R_below (Rz HO914) hb)
   replace BK915 := Aside0.mk (blk_below (g := gb915) (o := .cells #[.int .i64 t911, .slice Ao14 t912.length co14] 31 (0, 0)) (Bz BK915) hb)
   replace HB := Aside0.mk (below_step (by exact Lz1 HB GE915) hb)
   (try clear hb)
   (try clear hb2)
   (try clear hk)
   (try clear hi)
   refine hK.out _ _ ⟨(blk_cell BK915.out 0).trans rfl, (blk_cell BK915.out 1).trans rfl⟩ (fun hHeld => ?_)
   clear hK K
   refine norm_ (a' := ?_) ?_ ?_
   rotate_left
   ·show Act.put _ (some 20) _ = _
    simp only [Act.put, List.setIfInBounds_toArray, List.set_cons_zero, List.set_cons_succ, i64_w, i32_w]
    rfl
   refine pure_ (i := 4) (N := some 23) (v := ?_) (a' := ?_) #[true, true, true, true, true, false] rfl rfl (by kernel_rfl) (fun _ _ _ h => h) (Or.inl ⟨by rfl, ?_⟩) ?_ ?_
   rotate_left
   ·intro w'
    go_simp
    with_reducible rfl
   rotate_left
   ·simp only [Act.put, List.setIfInBounds_toArray, List.set_cons_zero, List.set_cons_succ, i64_w, i32_w]
    rfl
   refine pure_ (i := 5) (N := some 4) (v := ?_) (a' := ?_) #[true, true, true, true, true, true] rfl rfl (by kernel_rfl) (fun _ _ _ h => h) (Or.inl ⟨by rfl, ?_⟩) ?_ ?_
   rotate_left
   ·intro w'
    go_simp
    with_reducible rfl
   rotate_left
   ·simp only [Act.put, List.setIfInBounds_toArray, List.set_cons_zero, List.set_cons_succ, i64_w, i32_w]
    rfl
   refine done_ (by kernel_rfl) ?_
   have hcz18_0 : w17.cell? ⟨gb915, 0, none⟩ = some (.int .i64 t911) := (blk_cell BK915.out 0).trans rfl
   have hcz18_1 : w17.cell? ⟨gb915, 1, none⟩ = some (.slice Ao14 t912.length co14) := (blk_cell BK915.out 1).trans rfl
   have hfz18_0 := blk_frozen BK915.out 0
   have hfz18_1 := blk_frozen BK915.out 1
   go_upto_region 8 with (first | ((with_reducible refine gate_callee (f := 33) rfl ?_); refine goesM_ (some 27) rfl rfl Try.func33 (by kernel_rfl) rfl #[.slice A0 l0.length c0, .int .i64 20, .agg #[.int .i64 t911, .slice Ao14 t912.length co14], .int .i64 (Int.tmod t916 t911)] rfl ?_; (with_reducible refine (spec_MakePile.calls kj1 _ _ l0 20 t911 _ _ t912 (Int.tmod t916 t911) t917 _ ?side1 ?side2 ?side3 ?side4 A7.out).mono ?_); (case side1 => exact Cz ((Kd.C_below HR0.out HB.out))); (case side2 => exact HC0.out); (case side3 => exact Cz ((Kd.R_reads' HO914.out).2.2)); (case side4 => exact (Kd.R_reads' HO914.out).2.1); rintro e w19 ⟨v918, rfl, ho0, hb⟩; refine ⟨_, rfl, ?_⟩; replace HO914 := Aside0.mk (Kd.R_below (Rz HO914) hb); have HO919 := Aside0.mk (Kd.R_lower ho0 (below_size (by exact Lz1 HB GE915))); replace BK915 := Aside0.mk (blk_below (g := gb915) (o := .cells #[.int .i64 t911, .slice Ao14 t912.length co14] 31 (0, 0)) (Bz BK915) hb); replace HB := Aside0.mk (below_step (by exact Lz1 HB GE915) hb); (try clear hb); (try clear ho0); have hcz20_0 : w19.cell? ⟨gb915, 0, none⟩ = some (.int .i64 t911) := (blk_cell BK915.out 0).trans rfl; have hcz20_1 : w19.cell? ⟨gb915, 1, none⟩ = some (.slice Ao14 t912.length co14) := (blk_cell BK915.out 1).trans rfl; have hfz20_0 := blk_frozen BK915.out 0; have hfz20_1 := blk_frozen BK915.out 1; obtain ⟨Ao21, co21, eo21⟩ := Kd.R_slice HO919.out; subst eo21) | ((with_reducible refine gate_callee (f := 34) rfl ?_); refine goesM_ (some 32) rfl rfl Try.func34 (by kernel_rfl) rfl #[.agg #[.int .i64 t911, .slice Ao14 t912.length co14], .slice Ao21 t917.length co21, .int .i64 (Int.tmod t916 t911)] rfl ?_; (with_reducible refine (impl_BurnFrom.calls kj1 t911 _ _ t912 _ _ t917 (Int.tmod t916 t911) t920 t923 _ ?side1 ?side2 ?side3 ?side4 A8.out).mono ?_); (case side1 => exact Cz ((Kd.R_reads' HO914.out).2.2)); (case side2 => exact (Kd.R_reads' HO914.out).2.1); (case side3 => exact Cz ((Kd.R_reads' HO919.out).2.2)); (case side4 => exact (Kd.R_reads' HO919.out).2.1); rintro e w22 ⟨v921, rfl, ho0, hb⟩; refine ⟨_, rfl, ?_⟩; replace HO914 := Aside0.mk (Kd.R_below (Rz HO914) hb); have HO922 := Aside0.mk (Kd.R_lower (Kd.R_new' ho0 (Kd.R_lt (Rz HO919))) (below_size (by exact Lz1 HB GE915))); replace HO919 := Aside0.mk (Kd.R_elder' (Rz HO919) (Kd.R_base ho0) hb); replace BK915 := Aside0.mk (blk_below (g := gb915) (o := .cells #[.int .i64 t911, .slice Ao14 t912.length co14] 31 (0, 0)) (Bz BK915) hb); replace HB := Aside0.mk (below_step (by exact Lz1 HB GE915) hb); (try clear hb); (try clear ho0); have hcz23_0 : w22.cell? ⟨gb915, 0, none⟩ = some (.int .i64 t911) := (blk_cell BK915.out 0).trans rfl; have hcz23_1 : w22.cell? ⟨gb915, 1, none⟩ = some (.slice Ao14 t912.length co14) := (blk_cell BK915.out 1).trans rfl; have hfz23_0 := blk_frozen BK915.out 0; have hfz23_1 := blk_frozen BK915.out 1) | ((with_reducible refine gate_callee (f := 32) rfl ?_); refine goesM_ (some 38) rfl rfl Try.func32 (by kernel_rfl) rfl #[.agg #[.int .i64 t911, .slice Ao14 t912.length co14], .slice Ao21 t917.length co21, .int .i64 (Int.tmod t916 t911)] rfl ?_; (with_reducible refine (impl_MostLegalSet.calls kj1 t911 _ _ t912 _ _ t917 (Int.tmod t916 t911) t924 _ ?side1 ?side2 ?side3 ?side4 A9.out).mono ?_); (case side1 => exact Cz ((Kd.R_reads' HO914.out).2.2)); (case side2 => exact (Kd.R_reads' HO914.out).2.1); (case side3 => exact Cz ((Kd.R_reads' HO919.out).2.2)); (case side4 => exact (Kd.R_reads' HO919.out).2.1); rintro e w24 ⟨v925, rfl, ho0, hb⟩; refine ⟨_, rfl, ?_⟩; replace HO914 := Aside0.mk (Kd.R_below (Rz HO914) hb); have HO926 := Aside0.mk (Kd.R_lower (Kd.R_new' (Kd.R_new' ho0 (Kd.R_lt (Rz HO919))) (Kd.R_lt (Rz HO922))) (below_size (by exact Lz1 HB GE915))); replace HO919 := Aside0.mk (Kd.R_elder' (Rz HO919) (Kd.R_base ho0) hb); replace HO922 := Aside0.mk (Kd.R_elder' (Rz HO922) (Kd.R_base ho0) hb); replace BK915 := Aside0.mk (blk_below (g := gb915) (o := .cells #[.int .i64 t911, .slice Ao14 t912.length co14] 31 (0, 0)) (Bz BK915) hb); replace HB := Aside0.mk (below_step (by exact Lz1 HB GE915) hb); (try clear hb); (try clear ho0)))
   (try simp only [Act.put, List.setIfInBounds_toArray, List.set_cons_zero, List.set_cons_succ])
   go_cut [62] (fun v62 wc => ∃ (kq : Nat) (x62_9 : Bool), v62 = .bool x62_9 ∧ Aside0 (laws_FnLegal.j1 kq (Int.tmod t916 t911) t917 t924 x62_9 t911 t912 = some r) ∧ Aside0 (kq ≤ kj1) ∧ Aside0 (Kd.R (Kd.int .i64) 3 wc w.heap.size (fun k_ => some k_ ≠ (v925 : Value).ownBlock) (.slice Ao21 t917.length co21) t917) ∧ Aside0 (Kd.R (Kd.int .i64) 3 wc w.heap.size (fun k_ => some k_ ≠ ((.slice Ao21 t917.length co21) : Value).ownBlock) v925 t924) ∧ Aside0 (Kd.R k67 67 wc w.heap.size (fun _ => True) (.slice Ao14 t912.length co14) t912) ∧ Aside0 (wc.heap[gb915]? = some (.cells #[.int .i64 t911, (.slice Ao14 t912.length co14)] 31 (0, 0))) ∧ Aside0 (Below w.heap.size w wc))
   case first =>
    have H := HC10.out
    clear HC10
    by_cases c25 : t923 = true
    ·subst c25
     have H1 : (if (wrap64 ((t920.length : Int) + (t924.length : Int))) = t911 then ((impl_IsLegalSet.f kj1 t911 t912 t917 t924).bind fun t927 => (if t927 = true then ((laws_has.f kj1 t924 (Int.tmod t916 t911)).bind fun t928 => (laws_FnLegal.j1 kj1 (Int.tmod t916 t911) t917 t924 t928 t911 t912)) else (laws_FnLegal.j1 kj1 (Int.tmod t916 t911) t917 t924 true t911 t912))) else (laws_FnLegal.j1 kj1 (Int.tmod t916 t911) t917 t924 true t911 t912)) = some r := by rw [if_pos rfl] at H; exact H
     clear H
     have H := H1
     clear H1
     by_cases c26 : (wrap64 ((t920.length : Int) + (t924.length : Int))) = t911
     ·rw [if_pos c26] at H
      have c26b0 : ((wrap64 ((t920.length : Int) + (t924.length : Int))) == t911) = true := beq_iff_eq.mpr c26
      have c26b1 : ((wrap64 ((t920.length : Int) + (t924.length : Int))) != t911) = false := bne_eq_false_iff_eq.mpr c26
      clear c26
      (first | rw [c26b0] | (simp only [i64_w, i32_w]; rw [c26b0]) | skip)
      replace H := Option.bind_eq_some_iff.mp H
      obtain ⟨t927, A270, H⟩ := H
      replace H : (if t927 = true then ((laws_has.f kj1 t924 (Int.tmod t916 t911)).bind fun t928 => (laws_FnLegal.j1 kj1 (Int.tmod t916 t911) t917 t924 t928 t911 t912)) else (laws_FnLegal.j1 kj1 (Int.tmod t916 t911) t917 t924 true t911 t912)) = some r := H
      have A27 := Aside0.mk A270
      clear A270
      by_cases c28 : t927 = true
      ·subst c28
       have H1 : ((laws_has.f kj1 t924 (Int.tmod t916 t911)).bind fun t928 => (laws_FnLegal.j1 kj1 (Int.tmod t916 t911) t917 t924 t928 t911 t912)) = some r := by rw [if_pos rfl] at H; exact H
       clear H
       have H := H1
       clear H1
       replace H := Option.bind_eq_some_iff.mp H
       obtain ⟨t928, A290, H⟩ := H
       replace H : (laws_FnLegal.j1 kj1 (Int.tmod t916 t911) t917 t924 t928 t911 t912) = some r := H
       have A29 := Aside0.mk A290
       clear A290
       have H' := Aside0.mk H
       clear H
       obtain ⟨Ao30, co30, eo30⟩ := Kd.R_slice HO922.out
       subst eo30
       obtain ⟨Ao31, co31, eo31⟩ := Kd.R_slice HO926.out
       subst eo31
       have hcz32_0 : w24.cell? ⟨gb915, 0, none⟩ = some (.int .i64 t911) := (blk_cell BK915.out 0).trans rfl
       have hcz32_1 : w24.cell? ⟨gb915, 1, none⟩ = some (.slice Ao14 t912.length co14) := (blk_cell BK915.out 1).trans rfl
       have hfz32_0 := blk_frozen BK915.out 0
       have hfz32_1 := blk_frozen BK915.out 1
       go_wp2_with (first | (go_at_call 35; (with_reducible refine (impl_IsLegalSet.calls kj1 t911 _ _ t912 _ _ t917 _ _ t924 true _ ?side1 ?side2 ?side3 ?side4 ?side5 ?side6 A27.out).mono ?_); (case side1 => exact Cz ((Kd.R_reads' HO914.out).2.2)); (case side2 => exact (Kd.R_reads' HO914.out).2.1); (case side3 => exact Cz ((Kd.R_reads' HO919.out).2.2)); (case side4 => exact (Kd.R_reads' HO919.out).2.1); (case side5 => exact Cz ((Kd.R_reads' HO926.out).2.2)); (case side6 => exact (Kd.R_reads' HO926.out).2.1); rintro e w33 ⟨rfl, hb⟩; replace HO914 := Aside0.mk (Kd.R_below (Rz HO914) hb); replace HO919 := Aside0.mk (Kd.R_below (Rz HO919) hb); replace HO922 := Aside0.mk (Kd.R_below (Rz HO922) hb); replace HO926 := Aside0.mk (Kd.R_below (Rz HO926) hb); replace BK915 := Aside0.mk (blk_below (g := gb915) (o := .cells #[.int .i64 t911, .slice Ao14 t912.length co14] 31 (0, 0)) (Bz BK915) hb); replace HB := Aside0.mk (below_step (by exact Lz1 HB GE915) hb); (try clear hb); (try clear hb2); (try clear hk); (try clear hi)) | (go_at_call 36; (with_reducible refine (laws_has.calls kj1 _ _ t924 (Int.tmod t916 t911) t928 _ ?side1 ?side2 A29.out).mono ?_); (case side1 => exact Cz ((Kd.R_reads' HO926.out).2.2)); (case side2 => exact (Kd.R_reads' HO926.out).2.1); rintro e w' ⟨rfl, ⟨nd, rfl⟩⟩))
       go_meet
       case rel => exact ⟨_, (t928), eqA, H', ⟨by have := HJ1.out; first | omega | exact Nat.le_refl _⟩, ⟨by (with_reducible repeat (first | apply Kd.R_alloc | apply Kd.R_drewN | apply Kd.R_drew)); exact Kd.R_mono HO919.out (fun _ hk => hk.2)⟩, ⟨by (with_reducible repeat (first | apply Kd.R_alloc | apply Kd.R_drewN | apply Kd.R_drew)); exact Kd.R_mono HO926.out (fun _ hk => hk.1.2)⟩, ⟨by exact Rz HO914⟩, ⟨by exact Bz BK915⟩, ⟨by exact Lz1 HB GE915⟩⟩
      replace c28 := Bool.eq_false_iff.mpr c28
      subst c28
      have H1 : (laws_FnLegal.j1 kj1 (Int.tmod t916 t911) t917 t924 true t911 t912) = some r := by rw [if_neg (show ¬ (false = true) by decide)] at H; exact H
      clear H
      have H := H1
      clear H1
      have H' := Aside0.mk H
      clear H
      obtain ⟨Ao34, co34, eo34⟩ := Kd.R_slice HO922.out
      subst eo34
      obtain ⟨Ao35, co35, eo35⟩ := Kd.R_slice HO926.out
      subst eo35
      have hcz36_0 : w24.cell? ⟨gb915, 0, none⟩ = some (.int .i64 t911) := (blk_cell BK915.out 0).trans rfl
      have hcz36_1 : w24.cell? ⟨gb915, 1, none⟩ = some (.slice Ao14 t912.length co14) := (blk_cell BK915.out 1).trans rfl
      have hfz36_0 := blk_frozen BK915.out 0
      have hfz36_1 := blk_frozen BK915.out 1
      go_wp2_with (first | (go_at_call 35; (with_reducible refine (impl_IsLegalSet.calls kj1 t911 _ _ t912 _ _ t917 _ _ t924 false _ ?side1 ?side2 ?side3 ?side4 ?side5 ?side6 A27.out).mono ?_); (case side1 => exact Cz ((Kd.R_reads' HO914.out).2.2)); (case side2 => exact (Kd.R_reads' HO914.out).2.1); (case side3 => exact Cz ((Kd.R_reads' HO919.out).2.2)); (case side4 => exact (Kd.R_reads' HO919.out).2.1); (case side5 => exact Cz ((Kd.R_reads' HO926.out).2.2)); (case side6 => exact (Kd.R_reads' HO926.out).2.1); rintro e w37 ⟨rfl, hb⟩; replace HO914 := Aside0.mk (Kd.R_below (Rz HO914) hb); replace HO919 := Aside0.mk (Kd.R_below (Rz HO919) hb); replace HO922 := Aside0.mk (Kd.R_below (Rz HO922) hb); replace HO926 := Aside0.mk (Kd.R_below (Rz HO926) hb); replace BK915 := Aside0.mk (blk_below (g := gb915) (o := .cells #[.int .i64 t911, .slice Ao14 t912.length co14] 31 (0, 0)) (Bz BK915) hb); replace HB := Aside0.mk (below_step (by exact Lz1 HB GE915) hb); (try clear hb); (try clear hb2); (try clear hk); (try clear hi)))
      go_meet
      case rel => exact ⟨_, (true), eqA, H', ⟨by have := HJ1.out; first | omega | exact Nat.le_refl _⟩, ⟨by (with_reducible repeat (first | apply Kd.R_alloc | apply Kd.R_drewN | apply Kd.R_drew)); exact Kd.R_mono HO919.out (fun _ hk => hk.2)⟩, ⟨by (with_reducible repeat (first | apply Kd.R_alloc | apply Kd.R_drewN | apply Kd.R_drew)); exact Kd.R_mono HO926.out (fun _ hk => hk.1.2)⟩, ⟨by exact Rz HO914⟩, ⟨by exact Bz BK915⟩, ⟨by exact Lz1 HB GE915⟩⟩
     rw [if_neg c26] at H
     have c26b0 : ((wrap64 ((t920.length : Int) + (t924.length : Int))) == t911) = false := beq_eq_false_iff_ne.mpr c26
     have c26b1 : ((wrap64 ((t920.length : Int) + (t924.length : Int))) != t911) = true := bne_iff_ne.mpr c26
     (first | rw [c26b0] | (simp only [i64_w, i32_w]; rw [c26b0]) | skip)
     have H' := Aside0.mk H
     clear H
     obtain ⟨Ao38, co38, eo38⟩ := Kd.R_slice HO922.out
     subst eo38
     obtain ⟨Ao39, co39, eo39⟩ := Kd.R_slice HO926.out
     subst eo39
     have hcz40_0 : w24.cell? ⟨gb915, 0, none⟩ = some (.int .i64 t911) := (blk_cell BK915.out 0).trans rfl
     have hcz40_1 : w24.cell? ⟨gb915, 1, none⟩ = some (.slice Ao14 t912.length co14) := (blk_cell BK915.out 1).trans rfl
     have hfz40_0 := blk_frozen BK915.out 0
     have hfz40_1 := blk_frozen BK915.out 1
     go_wp2
     go_meet
     case rel => exact ⟨_, (true), eqA, H', ⟨by have := HJ1.out; first | omega | exact Nat.le_refl _⟩, ⟨by (with_reducible repeat (first | apply Kd.R_alloc | apply Kd.R_drewN | apply Kd.R_drew)); exact Kd.R_mono HO919.out (fun _ hk => hk.2)⟩, ⟨by (with_reducible repeat (first | apply Kd.R_alloc | apply Kd.R_drewN | apply Kd.R_drew)); exact Kd.R_mono HO926.out (fun _ hk => hk.1.2)⟩, ⟨by exact Rz HO914⟩, ⟨by exact Bz BK915⟩, ⟨by exact Lz1 HB GE915⟩⟩
    replace c25 := Bool.eq_false_iff.mpr c25
    subst c25
    have H1 : (laws_FnLegal.j1 kj1 (Int.tmod t916 t911) t917 t924 true t911 t912) = some r := by rw [if_neg (show ¬ (false = true) by decide)] at H; exact H
    clear H
    have H := H1
    clear H1
    have H' := Aside0.mk H
    clear H
    go_wp2
    go_meet
    case rel => exact ⟨_, (true), eqA, H', ⟨by have := HJ1.out; first | omega | exact Nat.le_refl _⟩, ⟨by (with_reducible repeat (first | apply Kd.R_alloc | apply Kd.R_drewN | apply Kd.R_drew)); exact Kd.R_mono HO919.out (fun _ hk => hk.2)⟩, ⟨by (with_reducible repeat (first | apply Kd.R_alloc | apply Kd.R_drewN | apply Kd.R_drew)); exact Kd.R_mono HO926.out (fun _ hk => hk.1.2)⟩, ⟨by exact Rz HO914⟩, ⟨by exact Bz BK915⟩, ⟨by exact Lz1 HB GE915⟩⟩
   case rest =>
    clear HC10
    try clear c3
    try clear c3b0
    try clear c3b1
    try clear c6
    try clear c6b0
    try clear c6b1
    try clear c25
    try clear c26
    try clear c26b0
    try clear c26b1
    try clear c28
    obtain ⟨kq, x62_9, rfl, HA, HJ9, HO_5, HO_8, HO_916001, BK915, HB⟩ := hcut
    cases kq with
    | zero => exact absurd HA.out (by simp [laws_FnLegal.j1])
    | succ kj9 =>
     have H := HA.out
     clear HA
     simp only [laws_FnLegal.j1] at H
     have HC41 := Aside0.mk H
     clear H
     go_upto_if 62 with (fail)
     go_cut [] (fun wc => ∃ (kq : Nat), Aside0 (laws_FnLegal.j2 kq (Int.tmod t916 t911) t917 t924 t911 t912 = some r) ∧ Aside0 (kq ≤ kj9) ∧ Aside0 (Kd.R (Kd.int .i64) 3 wc w.heap.size (fun k_ => some k_ ≠ (v925 : Value).ownBlock) (.slice Ao21 t917.length co21) t917) ∧ Aside0 (Kd.R (Kd.int .i64) 3 wc w.heap.size (fun k_ => some k_ ≠ ((.slice Ao21 t917.length co21) : Value).ownBlock) v925 t924) ∧ Aside0 (Kd.R k67 67 wc w.heap.size (fun _ => True) (.slice Ao14 t912.length co14) t912) ∧ Aside0 (wc.heap[gb915]? = some (.cells #[.int .i64 t911, (.slice Ao14 t912.length co14)] 31 (0, 0))) ∧ Aside0 (Below w.heap.size w wc))
     case first =>
      have H := HC41.out
      clear HC41
      by_cases c42 : x62_9 = true
      ·subst c42
       have H1 : (some false) = some r := by rw [if_pos rfl] at H; exact H
       clear H
       have H := H1
       clear H1
       exact absurd (Option.some.inj H) (by rw [HR_.out]; decide)
      replace c42 := Bool.eq_false_iff.mpr c42
      subst c42
      have H1 : (laws_FnLegal.j2 kj9 (Int.tmod t916 t911) t917 t924 t911 t912) = some r := by rw [if_neg (show ¬ (false = true) by decide)] at H; exact H
      clear H
      have H := H1
      clear H1
      have H' := Aside0.mk H
      clear H
      go_wp2
      go_meet
      case rel => exact ⟨_, H', ⟨by have := HJ1.out; have := HJ9.out; first | omega | exact Nat.le_refl _⟩, ⟨by exact Rz HO_5⟩, ⟨by exact Rz HO_8⟩, ⟨by exact Rz HO_916001⟩, ⟨by exact Bz BK915⟩, ⟨by exact Lz1 HB GE915⟩⟩
     case rest =>
      clear HC41
      try clear c3
      try clear c3b0
      try clear c3b1
      try clear c6
      try clear c6b0
      try clear c6b1
      try clear c25
      try clear c26
      try clear c26b0
      try clear c26b1
      try clear c28
      try clear c42
      obtain ⟨kq, HA, HJ40, HO_5, HO_8, HO_916001, BK915, HB⟩ := hcut
      cases kq with
      | zero => exact absurd HA.out (by simp [laws_FnLegal.j2])
      | succ kj40 =>
       have H := HA.out
       clear HA
       simp only [laws_FnLegal.j2] at H
       have H' := Aside0.mk H
       clear H
       go_wp2
       go_loopg [9] kj40 (fun kq v9 w' => ∃ (x9_4 : Int), v9 = .int .i64 x9_4 ∧ Aside0 (laws_FnLegal.l0 kq (Int.tmod t916 t911) t917 t924 x9_4 t911 t912 = some r) ∧ Aside0 (kq ≤ kj40) ∧ Aside0 (Kd.R (Kd.int .i64) 3 w' w.heap.size (fun k_ => some k_ ≠ (v925 : Value).ownBlock) (.slice Ao21 t917.length co21) t917) ∧ Aside0 (Kd.R (Kd.int .i64) 3 w' w.heap.size (fun k_ => some k_ ≠ ((.slice Ao21 t917.length co21) : Value).ownBlock) v925 t924) ∧ Aside0 (Kd.R k67 67 w' w.heap.size (fun _ => True) (.slice Ao14 t912.length co14) t912) ∧ Aside0 (w'.heap[gb915]? = some (.cells #[.int .i64 t911, (.slice Ao14 t912.length co14)] 31 (0, 0))) ∧ Aside0 (Below w.heap.size w w'))
       case atStart => exact ⟨(0), eqA, H', ⟨Nat.le_refl _⟩, ⟨by exact Rz HO_5⟩, ⟨by exact Rz HO_8⟩, ⟨by exact Rz HO_916001⟩, ⟨by exact Bz BK915⟩, ⟨by exact Lz1 HB GE915⟩⟩
       case round =>
        clear H'
        try clear c3
        try clear c3b0
        try clear c3b1
        try clear c6
        try clear c6b0
        try clear c6b1
        try clear c25
        try clear c26
        try clear c26b0
        try clear c26b1
        try clear c28
        try clear c42
        obtain ⟨x9_4, rfl, HA, HK4, HO_5, HO_8, HO_916001, BK915, HB⟩ := hrel
        cases gk with
        | zero => exact absurd HA.out (by simp [laws_FnLegal.l0])
        | succ k4 =>
         have H := HA.out
         clear HA
         simp only [laws_FnLegal.l0] at H
         by_cases c43 : 0 ≤ t911
         ·rw [if_pos c43] at H
          have c43b0 := eq_true c43
          have c43b1 : decide (0 ≤ t911) = true := decide_eq_true c43
          clear c43
          obtain ⟨ji44, hji44⟩ : ∃ j_ : Int, (shl .i64 1 t911) = j_ := ⟨_, rfl⟩
          replace H : (if x9_4 < (ji44) then (laws_FnLegal.j4 k4 (Int.tmod t916 t911) t917 t924 x9_4 t911 t912) else (some true)) = some r := by first | (rw [hji44] at H; exact H) | (simp only [hji44] at H ⊢; exact H)
          have hji44_ : (IntKind.i64.wrap (1 * 2 ^ min t911.toNat 64)) = ji44 := hji44
          have hji44z : t911 ≤ 64 → (IntKind.i64.wrap (1 * 2 ^ t911.toNat)) = ji44 := shl_small hji44
          have hji44u : (IntKind.i64.wrap (2 ^ min t911.toNat 64)) = ji44 := by have h_ := hji44_; rw [Int.one_mul] at h_; exact h_
          have hji44v : t911 ≤ 64 → (IntKind.i64.wrap (2 ^ t911.toNat)) = ji44 := fun hle_ => by have h_ := hji44z hle_; rw [Int.one_mul] at h_; exact h_
          have hji44y : (wrap64 (1 * 2 ^ min t911.toNat 64)) = ji44 := (i64_w _).symm.trans hji44_
          have hji44x : t911 ≤ 64 → (wrap64 (1 * 2 ^ t911.toNat)) = ji44 := fun h_ => (i64_w _).symm.trans (hji44z h_)
          have HC45 := Aside0.mk H
          clear H
          have hcz46_0 : wr.cell? ⟨gb915, 0, none⟩ = some (.int .i64 t911) := (blk_cell BK915.out 0).trans rfl
          have hcz46_1 : wr.cell? ⟨gb915, 1, none⟩ = some (.slice Ao14 t912.length co14) := (blk_cell BK915.out 1).trans rfl
          have hfz46_0 := blk_frozen BK915.out 0
          have hfz46_1 := blk_frozen BK915.out 1
          go_upto_if 67 with (fail)
          go_cut [] (fun wc => ∃ (kq : Nat), Aside0 (laws_FnLegal.j4 kq (Int.tmod t916 t911) t917 t924 x9_4 t911 t912 = some r) ∧ Aside0 (kq ≤ k4) ∧ Aside0 (Kd.R (Kd.int .i64) 3 wc w.heap.size (fun k_ => some k_ ≠ (v925 : Value).ownBlock) (.slice Ao21 t917.length co21) t917) ∧ Aside0 (Kd.R (Kd.int .i64) 3 wc w.heap.size (fun k_ => some k_ ≠ ((.slice Ao21 t917.length co21) : Value).ownBlock) v925 t924) ∧ Aside0 (Kd.R k67 67 wc w.heap.size (fun _ => True) (.slice Ao14 t912.length co14) t912) ∧ Aside0 (wc.heap[gb915]? = some (.cells #[.int .i64 t911, (.slice Ao14 t912.length co14)] 31 (0, 0))) ∧ Aside0 (Below w.heap.size w wc))
          case first =>
           have H := HC45.out
           clear HC45
           by_cases c47 : x9_4 < (ji44)
           ·rw [if_pos c47] at H
            have c47b0 : decide (x9_4 < (ji44)) = true := decide_eq_true c47
            clear c47
            (first | rw [c47b0] | (simp only [i64_w, i32_w]; rw [c47b0]) | skip)
            have H' := Aside0.mk H
            clear H
            go_wp2
            go_meet
            case rel => exact ⟨_, H', ⟨by have := HJ1.out; have := HJ9.out; have := HJ40.out; have := HK4.out; first | omega | exact Nat.le_refl _⟩, ⟨by exact Rz HO_5⟩, ⟨by exact Rz HO_8⟩, ⟨by exact Rz HO_916001⟩, ⟨by exact Bz BK915⟩, ⟨by exact Lz1 HB GE915⟩⟩
           rw [if_neg c47] at H
           have c47b0 : decide (x9_4 < (ji44)) = false := decide_eq_false c47
           clear c47
           (first | rw [c47b0] | (simp only [i64_w, i32_w]; rw [c47b0]) | skip)
           obtain rfl := Option.some.inj H
           go_wp2
           go_ret
           exact ⟨by first | rfl | (simp [errW_none, errW_some] <;> rfl) | (simp only [← hji44]; first | rfl | (simp [errW_none, errW_some] <;> rfl)) | (simp [*, errW_none, errW_some] <;> rfl), by exact Lz1 HB GE915⟩
          case rest =>
           clear HC45
           try clear c3
           try clear c3b0
           try clear c3b1
           try clear c6
           try clear c6b0
           try clear c6b1
           try clear c25
           try clear c26
           try clear c26b0
           try clear c26b1
           try clear c28
           try clear c42
           try clear c43
           try clear c43b0
           try clear c43b1
           try clear c47
           try clear c47b0
           obtain ⟨kq, HA, HJ44, HO_5, HO_8, HO_916001, BK915, HB⟩ := hcut
           cases kq with
           | zero => exact absurd HA.out (by simp [laws_FnLegal.j4])
           | succ kj44 =>
            have H := HA.out
            clear HA
            simp only [laws_FnLegal.j4] at H
            obtain ⟨y929, hy929⟩ : ∃ y_ : List Int, y_ = (([] : List Int)) := ⟨_, rfl⟩
            replace H : (laws_FnLegal.l1 kj44 (Int.tmod t916 t911) t917 t924 x9_4 y929 0 t911 t912) = some r := by first | (rw [hy929]; with_reducible exact H) | (have H2_ := (Option.bind_some _ _).symm.trans H; rw [hy929]; with_reducible exact H2_) | (have H2_ := (Option.bind_some _ _).symm.trans H; with_reducible exact H2_) | with_reducible exact H | (rw [hy929]; exact H) | exact H
            have Ny929 := Aside0.mk hy929
            clear hy929
            have H' := Aside0.mk H
            clear H
            go_wp2_with (first | ((with_reducible refine gate_dst (N := 70) rfl ?_); (try (refine gate_guard (by rfl) ?_; dsimp only)); refine Kd.R_lit (Kd.int .i64) _ 3 ?hg (N := 70) ?hd (xs := ([] : List Int)) (inner := []) (ok := fun _ => True) (okp := fun _ => True) ?hr ?hp (fun _ hk => hk) trivial (Below.refl _ _) (Nat.le_refl _) (by simp) ?_; (case hd => rfl); (case hg => rfl); (case hr => first | (go_simp; done) | (go_simp; rfl)); (case hp => exact (Reps.none _ _)); intro v930 w48 ho49 hb hg_ hnew_; clear hg_ hnew_; (first | rw [← Ny929.out] at ho49 | (simp only [Int.reduceToNat] at ho49; rw [← Ny929.out] at ho49)); replace HO_916001 := Aside0.mk (Kd.R_below (Rz HO_916001) hb); have HO931 := Aside0.mk (Kd.R_lower (Kd.R_new' (Kd.R_new' ho49 (Kd.R_lt (Rz HO_5))) (Kd.R_lt (Rz HO_8))) (below_size (by exact Lz1 HB GE915))); replace HO_5 := Aside0.mk (Kd.R_elder' (Rz HO_5) (Kd.R_base ho49) hb); replace HO_8 := Aside0.mk (Kd.R_elder' (Rz HO_8) (Kd.R_base ho49) hb); replace BK915 := Aside0.mk (blk_below (g := gb915) (o := .cells #[.int .i64 t911, .slice Ao14 t912.length co14] 31 (0, 0)) (Bz BK915) hb); replace HB := Aside0.mk (below_step (by exact Lz1 HB GE915) hb); clear hb ho49))
            go_loopg [10, 11] kj44 (fun kq v10 v11 w' => ∃ (x10_6 : List Int) (x11_6 : Int), v11 = .int .i64 x11_6 ∧ Aside0 (laws_FnLegal.l1 kq (Int.tmod t916 t911) t917 t924 x9_4 x10_6 x11_6 t911 t912 = some r) ∧ Aside0 (kq ≤ kj44) ∧ Aside0 (Kd.R (Kd.int .i64) 3 w' w.heap.size (fun k_ => some k_ ≠ (v925 : Value).ownBlock ∧ some k_ ≠ (v10 : Value).ownBlock) (.slice Ao21 t917.length co21) t917) ∧ Aside0 (Kd.R (Kd.int .i64) 3 w' w.heap.size (fun k_ => some k_ ≠ ((.slice Ao21 t917.length co21) : Value).ownBlock ∧ some k_ ≠ (v10 : Value).ownBlock) v925 t924) ∧ Aside0 (Kd.R (Kd.int .i64) 3 w' w.heap.size (fun k_ => some k_ ≠ ((.slice Ao21 t917.length co21) : Value).ownBlock ∧ some k_ ≠ (v925 : Value).ownBlock) v10 x10_6) ∧ Aside0 (Kd.R k67 67 w' w.heap.size (fun _ => True) (.slice Ao14 t912.length co14) t912) ∧ Aside0 (w'.heap[gb915]? = some (.cells #[.int .i64 t911, (.slice Ao14 t912.length co14)] 31 (0, 0))) ∧ Aside0 (Below w.heap.size w w'))
            case atStart => exact ⟨(y929), (0), eqA, H', ⟨Nat.le_refl _⟩, ⟨by exact Rz HO_5⟩, ⟨by exact Rz HO_8⟩, ⟨by (with_reducible repeat (first | apply Kd.R_alloc | apply Kd.R_drewN | apply Kd.R_drew)); exact Kd.R_mono HO931.out (fun _ hk => ⟨hk.1.2, hk.2⟩)⟩, ⟨by exact Rz HO_916001⟩, ⟨by exact Bz BK915⟩, ⟨by exact Lz1 HB GE915⟩⟩
            case round =>
             clear H'
             try clear c3
             try clear c3b0
             try clear c3b1
             try clear c6
             try clear c6b0
             try clear c6b1
             try clear c25
             try clear c26
             try clear c26b0
             try clear c26b1
             try clear c28
             try clear c42
             try clear c43
             try clear c43b0
             try clear c43b1
             try clear c47
             try clear c47b0
             obtain ⟨x10_6, x11_6, rfl, HA, HK6, HO_5, HO_8, HO_10, HO_916001, BK915, HB⟩ := hrel
             cases gk with
             | zero => exact absurd HA.out (by simp [laws_FnLegal.l1])
             | succ k6 =>
              have H := HA.out
              clear HA
              simp only [laws_FnLegal.l1] at H
              have HC50 := Aside0.mk H
              clear H
              have hcz51_0 : wr.cell? ⟨gb915, 0, none⟩ = some (.int .i64 t911) := (blk_cell BK915.out 0).trans rfl
              have hcz51_1 : wr.cell? ⟨gb915, 1, none⟩ = some (.slice Ao14 t912.length co14) := (blk_cell BK915.out 1).trans rfl
              have hfz51_0 := blk_frozen BK915.out 0
              have hfz51_1 := blk_frozen BK915.out 1
              go_upto_if 74 with (fail)
              go_cut [] (fun wc => ∃ (kq : Nat), Aside0 (laws_FnLegal.j6 kq (Int.tmod t916 t911) t917 t924 x9_4 x10_6 x11_6 t911 t912 = some r) ∧ Aside0 (kq ≤ k6) ∧ Aside0 (Kd.R (Kd.int .i64) 3 wc w.heap.size (fun k_ => some k_ ≠ (v925 : Value).ownBlock ∧ some k_ ≠ (u10 : Value).ownBlock) (.slice Ao21 t917.length co21) t917) ∧ Aside0 (Kd.R (Kd.int .i64) 3 wc w.heap.size (fun k_ => some k_ ≠ ((.slice Ao21 t917.length co21) : Value).ownBlock ∧ some k_ ≠ (u10 : Value).ownBlock) v925 t924) ∧ Aside0 (Kd.R (Kd.int .i64) 3 wc w.heap.size (fun k_ => some k_ ≠ ((.slice Ao21 t917.length co21) : Value).ownBlock ∧ some k_ ≠ (v925 : Value).ownBlock) u10 x10_6) ∧ Aside0 (Kd.R k67 67 wc w.heap.size (fun _ => True) (.slice Ao14 t912.length co14) t912) ∧ Aside0 (wc.heap[gb915]? = some (.cells #[.int .i64 t911, (.slice Ao14 t912.length co14)] 31 (0, 0))) ∧ Aside0 (Below w.heap.size w wc))
              case first =>
               have H := HC50.out
               clear HC50
               by_cases c52 : x11_6 < t911
               ·rw [if_pos c52] at H
                have c52b0 : decide (x11_6 < t911) = true := decide_eq_true c52
                clear c52
                (first | rw [c52b0] | (simp only [i64_w, i32_w]; rw [c52b0]) | skip)
                have H' := Aside0.mk H
                clear H
                go_wp2
                go_meet
                case rel => exact ⟨_, H', ⟨by have := HJ1.out; have := HJ9.out; have := HJ40.out; have := HK4.out; have := HJ44.out; have := HK6.out; first | omega | exact Nat.le_refl _⟩, ⟨by exact Rz HO_5⟩, ⟨by exact Rz HO_8⟩, ⟨by exact Rz HO_10⟩, ⟨by exact Rz HO_916001⟩, ⟨by exact Bz BK915⟩, ⟨by exact Lz1 HB GE915⟩⟩
               rw [if_neg c52] at H
               have c52b0 : decide (x11_6 < t911) = false := decide_eq_false c52
               clear c52
               (first | rw [c52b0] | (simp only [i64_w, i32_w]; rw [c52b0]) | skip)
               have HC53 := Aside0.mk H
               clear H
               go_upto_region 19 with (fail)
               go_cut [95] (fun v95 wc => ∃ (kq : Nat) (x95_52 : Bool), v95 = .bool x95_52 ∧ Aside0 (laws_FnLegal.j7 kq (Int.tmod t916 t911) t917 t924 x9_4 x10_6 x95_52 t911 t912 = some r) ∧ Aside0 (kq ≤ k6) ∧ Aside0 (Kd.R (Kd.int .i64) 3 wc w.heap.size (fun k_ => some k_ ≠ (v925 : Value).ownBlock ∧ some k_ ≠ (u10 : Value).ownBlock) (.slice Ao21 t917.length co21) t917) ∧ Aside0 (Kd.R (Kd.int .i64) 3 wc w.heap.size (fun k_ => some k_ ≠ ((.slice Ao21 t917.length co21) : Value).ownBlock ∧ some k_ ≠ (u10 : Value).ownBlock) v925 t924) ∧ Aside0 (Kd.R (Kd.int .i64) 3 wc w.heap.size (fun k_ => some k_ ≠ ((.slice Ao21 t917.length co21) : Value).ownBlock ∧ some k_ ≠ (v925 : Value).ownBlock) u10 x10_6) ∧ Aside0 (Kd.R k67 67 wc w.heap.size (fun _ => True) (.slice Ao14 t912.length co14) t912) ∧ Aside0 (wc.heap[gb915]? = some (.cells #[.int .i64 t911, (.slice Ao14 t912.length co14)] 31 (0, 0))) ∧ Aside0 (Below w.heap.size w wc))
               case first =>
                have H := HC53.out
                clear HC53
                replace H := Option.bind_eq_some_iff.mp H
                obtain ⟨t935, A540, H⟩ := H
                replace H : (if t935 = true then (laws_FnLegal.j7 k6 (Int.tmod t916 t911) t917 t924 x9_4 x10_6 true t911 t912) else ((impl_IsLegalSet.f k6 t911 t912 t917 x10_6).bind fun t936 => (laws_FnLegal.j7 k6 (Int.tmod t916 t911) t917 t924 x9_4 x10_6 (!t936) t911 t912))) = some r := H
                have A54 := Aside0.mk A540
                clear A540
                by_cases c55 : t935 = true
                ·subst c55
                 have H1 : (laws_FnLegal.j7 k6 (Int.tmod t916 t911) t917 t924 x9_4 x10_6 true t911 t912) = some r := by rw [if_pos rfl] at H; exact H
                 clear H
                 have H := H1
                 clear H1
                 have H' := Aside0.mk H
                 clear H
                 obtain ⟨Ao56, co56, eo56⟩ := Kd.R_slice HO_10.out
                 subst eo56
                 go_wp2_with (first | ((with_reducible refine gate_callee (f := 36) rfl ?_); refine goesM_ (some 88) rfl rfl Try.func36 (by kernel_rfl) rfl #[.slice Ao56 x10_6.length co56, .int .i64 (Int.tmod t916 t911)] rfl ?_; (with_reducible refine (laws_has.calls k6 _ _ x10_6 (Int.tmod t916 t911) true _ ?side1 ?side2 A54.out).mono ?_); (case side1 => exact Cz ((Kd.R_reads' HO_10.out).2.2)); (case side2 => exact (Kd.R_reads' HO_10.out).2.1); rintro e w' ⟨rfl, ⟨nd, rfl⟩⟩; refine ⟨_, rfl, ?_⟩))
                 go_meet
                 case rel => exact ⟨_, (true), eqA, H', ⟨by have := HJ1.out; have := HJ9.out; have := HJ40.out; have := HK4.out; have := HJ44.out; have := HK6.out; first | omega | exact Nat.le_refl _⟩, ⟨by exact Rz HO_5⟩, ⟨by exact Rz HO_8⟩, ⟨by exact Rz HO_10⟩, ⟨by exact Rz HO_916001⟩, ⟨by exact Bz BK915⟩, ⟨by exact Lz1 HB GE915⟩⟩
                replace c55 := Bool.eq_false_iff.mpr c55
                subst c55
                have H1 : ((impl_IsLegalSet.f k6 t911 t912 t917 x10_6).bind fun t936 => (laws_FnLegal.j7 k6 (Int.tmod t916 t911) t917 t924 x9_4 x10_6 (!t936) t911 t912)) = some r := by rw [if_neg (show ¬ (false = true) by decide)] at H; exact H
                clear H
                have H := H1
                clear H1
                replace H := Option.bind_eq_some_iff.mp H
                obtain ⟨t936, A570, H⟩ := H
                replace H : (laws_FnLegal.j7 k6 (Int.tmod t916 t911) t917 t924 x9_4 x10_6 (!t936) t911 t912) = some r := H
                have A57 := Aside0.mk A570
                clear A570
                have H' := Aside0.mk H
                clear H
                obtain ⟨Ao58, co58, eo58⟩ := Kd.R_slice HO_10.out
                subst eo58
                go_wp2_with (first | ((with_reducible refine gate_callee (f := 36) rfl ?_); refine goesM_ (some 88) rfl rfl Try.func36 (by kernel_rfl) rfl #[.slice Ao58 x10_6.length co58, .int .i64 (Int.tmod t916 t911)] rfl ?_; (with_reducible refine (laws_has.calls k6 _ _ x10_6 (Int.tmod t916 t911) false _ ?side1 ?side2 A54.out).mono ?_); (case side1 => exact Cz ((Kd.R_reads' HO_10.out).2.2)); (case side2 => exact (Kd.R_reads' HO_10.out).2.1); rintro e w' ⟨rfl, ⟨nd, rfl⟩⟩; refine ⟨_, rfl, ?_⟩; have hcz59_0 : wr.cell? ⟨gb915, 0, none⟩ = some (.int .i64 t911) := (blk_cell BK915.out 0).trans rfl; have hcz59_1 : wr.cell? ⟨gb915, 1, none⟩ = some (.slice Ao14 t912.length co14) := (blk_cell BK915.out 1).trans rfl; have hfz59_0 := blk_frozen BK915.out 0; have hfz59_1 := blk_frozen BK915.out 1) | (go_at_call 35; (with_reducible refine (impl_IsLegalSet.calls k6 t911 _ _ t912 _ _ t917 _ _ x10_6 t936 _ ?side1 ?side2 ?side3 ?side4 ?side5 ?side6 A57.out).mono ?_); (case side1 => exact Cz ((Kd.R_reads' HO_916001.out).2.2)); (case side2 => exact (Kd.R_reads' HO_916001.out).2.1); (case side3 => exact Cz ((Kd.R_reads' HO_5.out).2.2)); (case side4 => exact (Kd.R_reads' HO_5.out).2.1); (case side5 => exact Cz ((Kd.R_reads' HO_10.out).2.2)); (case side6 => exact (Kd.R_reads' HO_10.out).2.1); rintro e w60 ⟨rfl, hb⟩; replace HO_5 := Aside0.mk (Kd.R_below (Rz HO_5) hb); replace HO_8 := Aside0.mk (Kd.R_below (Rz HO_8) hb); replace HO_10 := Aside0.mk (Kd.R_below (Rz HO_10) hb); replace HO_916001 := Aside0.mk (Kd.R_below (Rz HO_916001) hb); replace BK915 := Aside0.mk (blk_below (g := gb915) (o := .cells #[.int .i64 t911, .slice Ao14 t912.length co14] 31 (0, 0)) (Bz BK915) hb); replace HB := Aside0.mk (below_step (by exact Lz1 HB GE915) hb); (try clear hb); (try clear hb2); (try clear hk); (try clear hi)))
                go_meet
                case rel => exact ⟨_, (!t936), eqA, H', ⟨by have := HJ1.out; have := HJ9.out; have := HJ40.out; have := HK4.out; have := HJ44.out; have := HK6.out; first | omega | exact Nat.le_refl _⟩, ⟨by exact Rz HO_5⟩, ⟨by exact Rz HO_8⟩, ⟨by exact Rz HO_10⟩, ⟨by exact Rz HO_916001⟩, ⟨by exact Bz BK915⟩, ⟨by exact Lz1 HB GE915⟩⟩
               case rest =>
                clear HC53
                try clear c3
                try clear c3b0
                try clear c3b1
                try clear c6
                try clear c6b0
                try clear c6b1
                try clear c25
                try clear c26
                try clear c26b0
                try clear c26b1
                try clear c28
                try clear c42
                try clear c43
                try clear c43b0
                try clear c43b1
                try clear c47
                try clear c47b0
                try clear c52
                try clear c52b0
                try clear c55
                obtain ⟨kq, x95_52, rfl, HA, HJ52, HO_5, HO_8, HO_10, HO_916001, BK915, HB⟩ := hcut
                cases kq with
                | zero => exact absurd HA.out (by simp [laws_FnLegal.j7])
                | succ kj52 =>
                 have H := HA.out
                 clear HA
                 simp only [laws_FnLegal.j7] at H
                 have HC61 := Aside0.mk H
                 clear H
                 go_upto_if 95 with (fail)
                 go_cut [] (fun wc => ∃ (kq : Nat), Aside0 (laws_FnLegal.j8 kq (Int.tmod t916 t911) t917 t924 x9_4 x10_6 t911 t912 = some r) ∧ Aside0 (kq ≤ kj52) ∧ Aside0 (Kd.R (Kd.int .i64) 3 wc w.heap.size (fun k_ => some k_ ≠ (v925 : Value).ownBlock ∧ some k_ ≠ (u10 : Value).ownBlock) (.slice Ao21 t917.length co21) t917) ∧ Aside0 (Kd.R (Kd.int .i64) 3 wc w.heap.size (fun k_ => some k_ ≠ ((.slice Ao21 t917.length co21) : Value).ownBlock ∧ some k_ ≠ (u10 : Value).ownBlock) v925 t924) ∧ Aside0 (Kd.R (Kd.int .i64) 3 wc w.heap.size (fun k_ => some k_ ≠ ((.slice Ao21 t917.length co21) : Value).ownBlock ∧ some k_ ≠ (v925 : Value).ownBlock) u10 x10_6) ∧ Aside0 (Kd.R k67 67 wc w.heap.size (fun _ => True) (.slice Ao14 t912.length co14) t912) ∧ Aside0 (wc.heap[gb915]? = some (.cells #[.int .i64 t911, (.slice Ao14 t912.length co14)] 31 (0, 0))) ∧ Aside0 (Below w.heap.size w wc))
                 case first =>
                  have H := HC61.out
                  clear HC61
                  by_cases c62 : x95_52 = true
                  ·subst c62
                   have H1 : (laws_FnLegal.l0 kj52 (Int.tmod t916 t911) t917 t924 (wrap64 (x9_4 + 1)) t911 t912) = some r := by rw [if_pos rfl] at H; exact H
                   clear H
                   have H := H1
                   clear H1
                   have H' := Aside0.mk H
                   clear H
                   go_wp2
                   go_roundg kj52
                   case measure => have := HJ1.out; have := HJ9.out; have := HJ40.out; have := HK4.out; have := HJ44.out; have := HK6.out; have := HJ52.out; omega
                   case rel => exact ⟨(wrap64 (x9_4 + 1)), eqA, H', ⟨by have := HJ1.out; have := HJ9.out; have := HJ40.out; have := HK4.out; have := HJ44.out; have := HK6.out; have := HJ52.out; omega⟩, ⟨by (with_reducible repeat (first | apply Kd.R_alloc | apply Kd.R_drewN | apply Kd.R_drew)); exact Kd.R_mono HO_5.out (fun _ hk => hk.1)⟩, ⟨by (with_reducible repeat (first | apply Kd.R_alloc | apply Kd.R_drewN | apply Kd.R_drew)); exact Kd.R_mono HO_8.out (fun _ hk => hk.1)⟩, ⟨by exact Rz HO_916001⟩, ⟨by exact Bz BK915⟩, ⟨by exact Lz1 HB GE915⟩⟩
                  replace c62 := Bool.eq_false_iff.mpr c62
                  subst c62
                  have H1 : (laws_FnLegal.j8 kj52 (Int.tmod t916 t911) t917 t924 x9_4 x10_6 t911 t912) = some r := by rw [if_neg (show ¬ (false = true) by decide)] at H; exact H
                  clear H
                  have H := H1
                  clear H1
                  have H' := Aside0.mk H
                  clear H
                  go_wp2
                  go_meet
                  case rel => exact ⟨_, H', ⟨by have := HJ1.out; have := HJ9.out; have := HJ40.out; have := HK4.out; have := HJ44.out; have := HK6.out; have := HJ52.out; first | omega | exact Nat.le_refl _⟩, ⟨by exact Rz HO_5⟩, ⟨by exact Rz HO_8⟩, ⟨by exact Rz HO_10⟩, ⟨by exact Rz HO_916001⟩, ⟨by exact Bz BK915⟩, ⟨by exact Lz1 HB GE915⟩⟩
                 case rest =>
                  clear HC61
                  try clear c3
                  try clear c3b0
                  try clear c3b1
                  try clear c6
                  try clear c6b0
                  try clear c6b1
                  try clear c25
                  try clear c26
                  try clear c26b0
                  try clear c26b1
                  try clear c28
                  try clear c42
                  try clear c43
                  try clear c43b0
                  try clear c43b1
                  try clear c47
                  try clear c47b0
                  try clear c52
                  try clear c52b0
                  try clear c55
                  try clear c62
                  obtain ⟨kq, HA, HJ60, HO_5, HO_8, HO_10, HO_916001, BK915, HB⟩ := hcut
                  cases kq with
                  | zero => exact absurd HA.out (by simp [laws_FnLegal.j8])
                  | succ kj60 =>
                   have H := HA.out
                   clear HA
                   simp only [laws_FnLegal.j8] at H
                   have H' := Aside0.mk H
                   clear H
                   obtain ⟨Ao63, co63, eo63⟩ := Kd.R_slice HO_10.out
                   subst eo63
                   go_wp2
                   go_loopg [98] kj60 (fun kq v98 w' => ∃ (x98_9 : Int), v98 = .int .i64 x98_9 ∧ Aside0 (laws_FnLegal.l2 kq (Int.tmod t916 t911) t917 t924 x9_4 x10_6 (x10_6.length : Int) x98_9 t911 t912 = some r) ∧ Aside0 (kq ≤ kj60) ∧ Aside0 (Kd.R (Kd.int .i64) 3 w' w.heap.size (fun k_ => some k_ ≠ (v925 : Value).ownBlock ∧ some k_ ≠ ((.slice Ao63 x10_6.length co63) : Value).ownBlock) (.slice Ao21 t917.length co21) t917) ∧ Aside0 (Kd.R (Kd.int .i64) 3 w' w.heap.size (fun k_ => some k_ ≠ ((.slice Ao21 t917.length co21) : Value).ownBlock ∧ some k_ ≠ ((.slice Ao63 x10_6.length co63) : Value).ownBlock) v925 t924) ∧ Aside0 (Kd.R (Kd.int .i64) 3 w' w.heap.size (fun k_ => some k_ ≠ ((.slice Ao21 t917.length co21) : Value).ownBlock ∧ some k_ ≠ (v925 : Value).ownBlock) (.slice Ao63 x10_6.length co63) x10_6) ∧ Aside0 (Kd.R k67 67 w' w.heap.size (fun _ => True) (.slice Ao14 t912.length co14) t912) ∧ Aside0 (w'.heap[gb915]? = some (.cells #[.int .i64 t911, (.slice Ao14 t912.length co14)] 31 (0, 0))) ∧ Aside0 (Below w.heap.size w w'))
                   case atStart => exact ⟨(0), eqA, H', ⟨Nat.le_refl _⟩, ⟨by exact Rz HO_5⟩, ⟨by exact Rz HO_8⟩, ⟨by exact Rz HO_10⟩, ⟨by exact Rz HO_916001⟩, ⟨by exact Bz BK915⟩, ⟨by exact Lz1 HB GE915⟩⟩
                   case round =>
                    clear H'
                    try clear c3
                    try clear c3b0
                    try clear c3b1
                    try clear c6
                    try clear c6b0
                    try clear c6b1
                    try clear c25
                    try clear c26
                    try clear c26b0
                    try clear c26b1
                    try clear c28
                    try clear c42
                    try clear c43
                    try clear c43b0
                    try clear c43b1
                    try clear c47
                    try clear c47b0
                    try clear c52
                    try clear c52b0
                    try clear c55
                    try clear c62
                    obtain ⟨x98_9, rfl, HA, HK9, HO_5, HO_8, HO_96, HO_916001, BK915, HB⟩ := hrel
                    cases gk with
                    | zero => exact absurd HA.out (by simp [laws_FnLegal.l2])
                    | succ k9 =>
                     have H := HA.out
                     clear HA
                     simp only [laws_FnLegal.l2] at H
                     have HC64 := Aside0.mk H
                     clear H
                     go_upto_if 99 with (fail)
                     go_cut [] (fun wc => ∃ (kq : Nat), Aside0 (laws_FnLegal.j10 kq (Int.tmod t916 t911) t917 t924 x9_4 x10_6 (x10_6.length : Int) x98_9 t911 t912 = some r) ∧ Aside0 (kq ≤ k9) ∧ Aside0 (Kd.R (Kd.int .i64) 3 wc w.heap.size (fun k_ => some k_ ≠ (v925 : Value).ownBlock ∧ some k_ ≠ ((.slice Ao63 x10_6.length co63) : Value).ownBlock) (.slice Ao21 t917.length co21) t917) ∧ Aside0 (Kd.R (Kd.int .i64) 3 wc w.heap.size (fun k_ => some k_ ≠ ((.slice Ao21 t917.length co21) : Value).ownBlock ∧ some k_ ≠ ((.slice Ao63 x10_6.length co63) : Value).ownBlock) v925 t924) ∧ Aside0 (Kd.R (Kd.int .i64) 3 wc w.heap.size (fun k_ => some k_ ≠ ((.slice Ao21 t917.length co21) : Value).ownBlock ∧ some k_ ≠ (v925 : Value).ownBlock) (.slice Ao63 x10_6.length co63) x10_6) ∧ Aside0 (Kd.R k67 67 wc w.heap.size (fun _ => True) (.slice Ao14 t912.length co14) t912) ∧ Aside0 (wc.heap[gb915]? = some (.cells #[.int .i64 t911, (.slice Ao14 t912.length co14)] 31 (0, 0))) ∧ Aside0 (Below w.heap.size w wc))
                     case first =>
                      have H := HC64.out
                      clear HC64
                      by_cases c65 : x98_9 < (x10_6.length : Int)
                      ·rw [if_pos c65] at H
                       have c65b0 : decide (x98_9 < (x10_6.length : Int)) = true := decide_eq_true c65
                       clear c65
                       (first | rw [c65b0] | (simp only [i64_w, i32_w]; rw [c65b0]) | skip)
                       have H' := Aside0.mk H
                       clear H
                       go_wp2
                       go_meet
                       case rel => exact ⟨_, H', ⟨by have := HJ1.out; have := HJ9.out; have := HJ40.out; have := HK4.out; have := HJ44.out; have := HK6.out; have := HJ52.out; have := HJ60.out; have := HK9.out; first | omega | exact Nat.le_refl _⟩, ⟨by exact Rz HO_5⟩, ⟨by exact Rz HO_8⟩, ⟨by exact Rz HO_96⟩, ⟨by exact Rz HO_916001⟩, ⟨by exact Bz BK915⟩, ⟨by exact Lz1 HB GE915⟩⟩
                      rw [if_neg c65] at H
                      have c65b0 : decide (x98_9 < (x10_6.length : Int)) = false := decide_eq_false c65
                      clear c65
                      (first | rw [c65b0] | (simp only [i64_w, i32_w]; rw [c65b0]) | skip)
                      have H' := Aside0.mk H
                      clear H
                      go_wp2
                      go_roundg k9
                      case measure => have := HJ1.out; have := HJ9.out; have := HJ40.out; have := HK4.out; have := HJ44.out; have := HK6.out; have := HJ52.out; have := HJ60.out; have := HK9.out; omega
                      case rel => exact ⟨(wrap64 (x9_4 + 1)), eqA, H', ⟨by have := HJ1.out; have := HJ9.out; have := HJ40.out; have := HK4.out; have := HJ44.out; have := HK6.out; have := HJ52.out; have := HJ60.out; have := HK9.out; omega⟩, ⟨by (with_reducible repeat (first | apply Kd.R_alloc | apply Kd.R_drewN | apply Kd.R_drew)); exact Kd.R_mono HO_5.out (fun _ hk => hk.1)⟩, ⟨by (with_reducible repeat (first | apply Kd.R_alloc | apply Kd.R_drewN | apply Kd.R_drew)); exact Kd.R_mono HO_8.out (fun _ hk => hk.1)⟩, ⟨by exact Rz HO_916001⟩, ⟨by exact Bz BK915⟩, ⟨by exact Lz1 HB GE915⟩⟩
                     case rest =>
                      clear HC64
                      try clear c3
                      try clear c3b0
                      try clear c3b1
                      try clear c6
                      try clear c6b0
                      try clear c6b1
                      try clear c25
                      try clear c26
                      try clear c26b0
                      try clear c26b1
                      try clear c28
                      try clear c42
                      try clear c43
                      try clear c43b0
                      try clear c43b1
                      try clear c47
                      try clear c47b0
                      try clear c52
                      try clear c52b0
                      try clear c55
                      try clear c62
                      try clear c65
                      try clear c65b0
                      obtain ⟨kq, HA, HJ63, HO_5, HO_8, HO_96, HO_916001, BK915, HB⟩ := hcut
                      cases kq with
                      | zero => exact absurd HA.out (by simp [laws_FnLegal.j10])
                      | succ kj63 =>
                       have H := HA.out
                       clear HA
                       simp only [laws_FnLegal.j10] at H
                       by_cases c66 : 0 ≤ x98_9
                       ·rw [if_pos c66] at H
                        have c66b0 : decide (0 ≤ x98_9) = true := decide_eq_true c66
                        clear c66
                        by_cases c67 : x98_9 < (x10_6.length : Int)
                        ·rw [if_pos c67] at H
                         have c67b0 : decide (x98_9 < (x10_6.length : Int)) = true := decide_eq_true c67
                         clear c67
                         replace H := Option.bind_eq_some_iff.mp H
                         obtain ⟨t938, A680, H⟩ := H
                         replace H : (if t938 = true then (laws_FnLegal.l2 kj63 (Int.tmod t916 t911) t917 t924 x9_4 x10_6 (x10_6.length : Int) (wrap64 (x98_9 + 1)) t911 t912) else (some false)) = some r := H
                         have A68 := Aside0.mk A680
                         clear A680
                         by_cases c69 : t938 = true
                         ·subst c69
                          have H1 : (laws_FnLegal.l2 kj63 (Int.tmod t916 t911) t917 t924 x9_4 x10_6 (x10_6.length : Int) (wrap64 (x98_9 + 1)) t911 t912) = some r := by rw [if_pos rfl] at H; exact H
                          clear H
                          have H := H1
                          clear H1
                          have H' := Aside0.mk H
                          clear H
                          have p937 : 0 ≤ (x98_9 : Int) := ofA
                          have q937 : x98_9 < (x10_6.length : Int) := ofA
                          obtain ⟨ad937, e937, hx937_0⟩ := Kd.at_int (Kd.R_reads' HO_96.out).2.2 x98_9 p937 q937
                          cases e937
                          replace p937 := eq_true p937
                          replace q937 := eq_true q937
                          obtain ⟨Ao70, co70, eo70⟩ := Kd.R_slice HO_8.out
                          subst eo70
                          go_wp2_with (first | ((with_reducible refine gate_callee (f := 36) rfl ?_); refine goesM_ (some 104) rfl rfl Try.func36 (by kernel_rfl) rfl #[.slice Ao70 t924.length co70, .int .i64 (rd x10_6 x98_9)] rfl ?_; (with_reducible refine (laws_has.calls kj63 _ _ t924 (rd x10_6 x98_9) true _ ?side1 ?side2 A68.out).mono ?_); (case side1 => exact Cz ((Kd.R_reads' HO_8.out).2.2)); (case side2 => exact (Kd.R_reads' HO_8.out).2.1); rintro e w' ⟨rfl, ⟨nd, rfl⟩⟩; refine ⟨_, rfl, ?_⟩))
                          go_roundg kj63
                          case measure => have := HJ1.out; have := HJ9.out; have := HJ40.out; have := HK4.out; have := HJ44.out; have := HK6.out; have := HJ52.out; have := HJ60.out; have := HK9.out; have := HJ63.out; omega
                          case rel => exact ⟨(wrap64 (x98_9 + 1)), eqA, H', ⟨by have := HJ1.out; have := HJ9.out; have := HJ40.out; have := HK4.out; have := HJ44.out; have := HK6.out; have := HJ52.out; have := HJ60.out; have := HK9.out; have := HJ63.out; omega⟩, ⟨by exact Rz HO_5⟩, ⟨by exact Rz HO_8⟩, ⟨by exact Rz HO_96⟩, ⟨by exact Rz HO_916001⟩, ⟨by exact Bz BK915⟩, ⟨by exact Lz1 HB GE915⟩⟩
                         replace c69 := Bool.eq_false_iff.mpr c69
                         subst c69
                         have H1 : (some false) = some r := by rw [if_neg (show ¬ (false = true) by decide)] at H; exact H
                         clear H
                         have H := H1
                         clear H1
                         exact absurd (Option.some.inj H) (by rw [HR_.out]; decide)
                        rw [if_neg c67] at H
                        exact absurd H (by simp)
                       rw [if_neg c66] at H
                       exact absurd H (by simp)
              case rest =>
               clear HC50
               try clear c3
               try clear c3b0
               try clear c3b1
               try clear c6
               try clear c6b0
               try clear c6b1
               try clear c25
               try clear c26
               try clear c26b0
               try clear c26b1
               try clear c28
               try clear c42
               try clear c43
               try clear c43b0
               try clear c43b1
               try clear c47
               try clear c47b0
               try clear c52
               try clear c52b0
               try clear c55
               try clear c62
               try clear c65
               try clear c65b0
               try clear c66
               try clear c66b0
               try clear c67
               try clear c67b0
               try clear c69
               try clear p937
               try clear q937
               obtain ⟨kq, HA, HJ49, HO_5, HO_8, HO_10, HO_916001, BK915, HB⟩ := hcut
               cases kq with
               | zero => exact absurd HA.out (by simp [laws_FnLegal.j6])
               | succ kj49 =>
                have H := HA.out
                clear HA
                simp only [laws_FnLegal.j6] at H
                by_cases c72 : 0 ≤ x11_6
                ·rw [if_pos c72] at H
                 have c72b0 := eq_true c72
                 have c72b1 : decide (0 ≤ x11_6) = true := decide_eq_true c72
                 clear c72
                 obtain ⟨ji73, hji73⟩ : ∃ j_ : Int, (shr .i64 x9_4 x11_6) = j_ := ⟨_, rfl⟩
                 replace H : (if (Go.bits .and .i64 (ji73) 1) = 1 then (if x10_6.length < 17592186044416 then (laws_FnLegal.l1 kj49 (Int.tmod t916 t911) t917 t924 x9_4 (x10_6 ++ [x11_6]) (wrap64 (x11_6 + 1)) t911 t912) else (none)) else (laws_FnLegal.l1 kj49 (Int.tmod t916 t911) t917 t924 x9_4 x10_6 (wrap64 (x11_6 + 1)) t911 t912)) = some r := by first | (rw [hji73] at H; exact H) | (simp only [hji73] at H ⊢; exact H)
                 have hji73_ : (x9_4 / 2 ^ min x11_6.toNat 64) = ji73 := hji73
                 have hji73z : x11_6 ≤ 64 → (x9_4 / 2 ^ x11_6.toNat) = ji73 := shr_small hji73
                 by_cases c74 : (Go.bits .and .i64 (ji73) 1) = 1
                 ·rw [if_pos c74] at H
                  have c74b0 : ((Go.bits .and .i64 (ji73) 1) == 1) = true := beq_iff_eq.mpr c74
                  have c74b1 : ((Go.bits .and .i64 (ji73) 1) != 1) = false := bne_eq_false_iff_eq.mpr c74
                  clear c74
                  by_cases c75 : x10_6.length < 17592186044416
                  ·rw [if_pos c75] at H
                   have LMc75 := Aside0.mk c75
                   clear c75
                   obtain ⟨y932, hy932⟩ : ∃ y_ : List Int, y_ = (x10_6 ++ [x11_6]) := ⟨_, rfl⟩
                   replace H : (laws_FnLegal.l1 kj49 (Int.tmod t916 t911) t917 t924 x9_4 y932 (wrap64 (x11_6 + 1)) t911 t912) = some r := by first | (rw [hy932]; with_reducible exact H) | (have H2_ := (Option.bind_some _ _).symm.trans H; rw [hy932]; with_reducible exact H2_) | (have H2_ := (Option.bind_some _ _).symm.trans H; with_reducible exact H2_) | with_reducible exact H | (rw [hy932]; exact H) | exact H
                   have Ny932 := Aside0.mk hy932
                   clear hy932
                   have H' := Aside0.mk H
                   clear H
                   go_wp2_with (first | ((with_reducible refine gate_builtin (b := .append) (xs := #[.tmp 82, .tmp 84]) rfl ?_); (try (refine gate_guard (by rfl) ?_; dsimp only)); at_builtin; refine Kd.R_append (Kd.int .i64) (w0 := w) w.heap.size rfl (.tmp 82) (.tmp 84) 25 3 (.int .i64 0) 8 rfl Try.underlying25 info3 rfl (by decide) (by omega) u10 x10_6 x11_6 [.int .i64 x11_6] (fun k_ => some k_ ≠ (.slice Ao21 t917.length co21 : Value).ownBlock ∧ some k_ ≠ (v925 : Value).ownBlock) (fun _ => False) rfl rfl ?aP (fun _ hk => hk.elim) ?aF ?aO ?aB ?aS ?aL ?_; (case aP => exact rfl); (case aB => exact (by exact Lz1 HB GE915)); (case aF => exact (fun k_ hk => ⟨Kd.fresh' (Kd.R_lt (Rz HO_5)) k_ hk, Kd.fresh' (Kd.R_lt (Rz HO_8)) k_ hk⟩)); (case aO => exact (Rz HO_10)); (case aS => exact (below_size (by exact Lz1 HB GE915))); (case aL => have := LMc75.out; omega); intro v933 w76 ho hb hg hat; rw [← Ny932.out] at ho; replace HO_5 := Aside0.mk (Kd.R_after (ok := (fun k_ => some k_ ≠ (v925 : Value).ownBlock)) (Rz HO_5) hg hat); replace HO_8 := Aside0.mk (Kd.R_after (ok := (fun k_ => some k_ ≠ (.slice Ao21 t917.length co21 : Value).ownBlock)) (Rz HO_8) hg hat); replace HO_916001 := Aside0.mk (Kd.R_over' (Rz HO_916001) (Kd.R_typed (Rz HO_10)) (by decide) hg); replace BK915 := Aside0.mk (blk_grown (g := gb915) (o := .cells #[.int .i64 t911, .slice Ao14 t912.length co14] 31 (0, 0)) (Bz BK915) hg (Kd.R_ne HO_10.out BK915.out (by decide))); replace HB := Aside0.mk (hb); have HO934 := Aside0.mk (ho); clear HO_10; clear ho hb hg hat))
                   go_roundg kj49
                   case measure => have := HJ1.out; have := HJ9.out; have := HJ40.out; have := HK4.out; have := HJ44.out; have := HK6.out; have := HJ49.out; omega
                   case rel => exact ⟨(y932), (wrap64 (x11_6 + 1)), eqA, H', ⟨by have := HJ1.out; have := HJ9.out; have := HJ40.out; have := HK4.out; have := HJ44.out; have := HK6.out; have := HJ49.out; omega⟩, ⟨by exact Rz HO_5⟩, ⟨by exact Rz HO_8⟩, ⟨by exact Rz HO934⟩, ⟨by exact Rz HO_916001⟩, ⟨by exact Bz BK915⟩, ⟨by exact Lz1 HB GE915⟩⟩
                  rw [if_neg c75] at H
                  exact absurd H (by simp)
                 rw [if_neg c74] at H
                 have c74b0 : ((Go.bits .and .i64 (ji73) 1) == 1) = false := beq_eq_false_iff_ne.mpr c74
                 have c74b1 : ((Go.bits .and .i64 (ji73) 1) != 1) = true := bne_iff_ne.mpr c74
                 have H' := Aside0.mk H
                 clear H
                 go_wp2
                 go_roundg kj49
                 case measure => have := HJ1.out; have := HJ9.out; have := HJ40.out; have := HK4.out; have := HJ44.out; have := HK6.out; have := HJ49.out; omega
                 case rel => exact ⟨(x10_6), (wrap64 (x11_6 + 1)), eqA, H', ⟨by have := HJ1.out; have := HJ9.out; have := HJ40.out; have := HK4.out; have := HJ44.out; have := HK6.out; have := HJ49.out; omega⟩, ⟨by exact Rz HO_5⟩, ⟨by exact Rz HO_8⟩, ⟨by exact Rz HO_10⟩, ⟨by exact Rz HO_916001⟩, ⟨by exact Bz BK915⟩, ⟨by exact Lz1 HB GE915⟩⟩
                rw [if_neg c72] at H
                exact absurd H (by simp)
         rw [if_neg c43] at H
         exact absurd H (by simp)
def laws_FnLegal.Pure : Prop := ∀ (l0 : List Int), l0.length ≤ maxLen → l0.length * 1 ≤ 140737488351232 → (∀ x ∈ l0, (Lit.int .u8 x).wf = true) → ∃ k, laws_FnLegal.f k l0 = some true
end Go.Proofs.Ytbcfccdoffbncaa.P
end
section
namespace Go.Proofs.Ytbcfccdoffbncaa.Pure
open Go.RowKit Go.Proofs.Ytbcfccdoffbncaa.P Go.Proofs.YtbcfccdoffbncaaW.PrintWords Go.Proofs.YtbcfccdoffbncaaW.PrintLast Go.Proofs.YtbcfccdoffbncaaW.PrintMore
def StatFnLegal : Prop := ∀ (l0 : List (Int)), (l0.length ≤ maxLen ∧ ∀ x2 ∈ l0, (Lit.int .u8 x2).wf = true) → ∃ k, laws_FnLegal.f k l0 = some true
end Go.Proofs.Ytbcfccdoffbncaa.Pure
end
section
set_option linter.unusedVariables false
set_option linter.unusedSimpArgs false
namespace Go.Proofs.Ytbcfccdoffbncaa.Pure
open Go.RowKit Go.Proofs.Ytbcfccdoffbncaa.P Go.Proofs.YtbcfccdoffbncaaW.PrintWords Go.Proofs.YtbcfccdoffbncaaW.PrintLast Go.Proofs.YtbcfccdoffbncaaW.PrintMore Go.Proofs.Ytbcfccdoffbncaa.Base Go.Proofs.Ytbcfccdoffbncaa.Bits Go.Proofs.Ytbcfccdoffbncaa.Loops
def setF (n : Nat) : List Int → List Int → Option (List Int)
  | x, [] => some x
  | x, v :: r => if 0 ≤ v ∧ v ≤ (n : Int) - 1 then (if x.getD v.toNat 0 = 1 then none else setF n (x.set v.toNat 1) r) else none
def outF (es : List S67) (d : List Int) : Option (List Int) → List Int × Bool
  | some y => (fireFrom es 0 y d, true)
  | none => ([], false)
theorem implSet_ev (n : Nat) (hn : n ≤ 6) (es : List S67) (d s : List Int) (he : ∀ e ∈ es, okE n e) (hd : d.length = n) (hl : es.length < 4611686018427387904) (hs : s.length < 4611686018427387904) :
    Ev (fun k => impl_FireSet.l0 k d (List.replicate n 0) s (s.length : Int) 0 n es) (outF es d (setF n (List.replicate n 0) s)) := by
  have ew : wrap64 ((n : Int) - 1) = (n : Int) - 1 := by unfold wrap64; omega
  refine ev_listE s (fun k (x : List Int) i => impl_FireSet.l0 k d x s (s.length : Int) i n es) (fun x r => outF es d (setF n x r)) (fun x _ => x.length = n) (fun x hx => ev_succ ?_) (fun x v rest i hlt hdr hx => ?_) _ (by simp)
  · simp only [impl_FireSet.l0]
    refine ev_ifn (by omega) (Ev.bind (impl_fired_ev n es d x he hd hx hn hl n) ?_)
    exact Ev.now _
  · by_cases h1 : 0 ≤ v ∧ v ≤ (n : Int) - 1
    · by_cases h2 : x.getD v.toNat 0 = 1
      · refine Or.inl (ev_succ ?_)
        simp only [impl_FireSet.l0, rd_drop hdr, within_eq, ew, Option.bind_some, setF, if_pos h1, if_pos h2, outF]
        exact ev_ift (by omega) (ev_ift (by omega) (ev_ift (by omega) (ev_ift (decide_eq_true h1) (ev_ift (by omega) (ev_ift (by omega) (ev_ift h2 (Ev.now _)))))))
      · refine Or.inr ⟨x.set v.toNat 1, by simpa using hx, by simp only [setF, if_pos h1, if_neg h2], fun r hr => ev_succ ?_⟩
        simp only [impl_FireSet.l0, rd_drop hdr, within_eq, ew, Option.bind_some, wrap_succ (show i < 4611686018427387904 by omega)]
        exact ev_ift (by omega) (ev_ift (by omega) (ev_ift (by omega) (ev_ift (decide_eq_true h1) (ev_ift (by omega) (ev_ift (by omega) (ev_ifn h2 hr))))))
    · refine Or.inl (ev_succ ?_)
      simp only [impl_FireSet.l0, rd_drop hdr, within_eq, ew, Option.bind_some, setF, if_neg h1, outF]
      exact ev_ift (by omega) (ev_ift (by omega) (ev_ift (by omega) (ev_ifn (by rw [decide_eq_false h1]; decide) (Ev.now _))))
end Go.Proofs.Ytbcfccdoffbncaa.Pure
end
section
set_option linter.unusedVariables false
set_option linter.unusedSimpArgs false
namespace Go.Proofs.Ytbcfccdoffbncaa.Pure
open Go.RowKit Go.Proofs.Ytbcfccdoffbncaa.P Go.Proofs.YtbcfccdoffbncaaW.PrintWords Go.Proofs.YtbcfccdoffbncaaW.PrintLast Go.Proofs.YtbcfccdoffbncaaW.PrintMore Go.Proofs.Ytbcfccdoffbncaa.Base Go.Proofs.Ytbcfccdoffbncaa.Det Go.Proofs.Ytbcfccdoffbncaa.Reduce Go.Proofs.Ytbcfccdoffbncaa.Loops Go.Proofs.Ytbcfccdoffbncaa.Bits
theorem setF_nodup (n : Nat) : ∀ (L x : List Int), x.length = n → L.Nodup → (∀ v ∈ L, 0 ≤ v ∧ v < n ∧ x.getD v.toNat 0 = 0) → ∃ y, setF n x L = some y ∧ y.length = n ∧ ∀ j : Nat, y.getD j 0 = if (j : Int) ∈ L then 1 else x.getD j 0 := by
  intro L
  induction L with
  | nil => intro x hx _ _; exact ⟨x, rfl, hx, fun j => by simp⟩
  | cons v L ih =>
    intro x hx hn hL
    obtain ⟨v0, v1, v2⟩ := hL v List.mem_cons_self
    rw [List.nodup_cons] at hn
    obtain ⟨y, h1, h2, h3⟩ := ih (x.set v.toNat 1) (by simpa using hx) hn.2 (fun w hw => by
      obtain ⟨a, b, c⟩ := hL w (List.mem_cons_of_mem _ hw)
      refine ⟨a, b, ?_⟩
      rw [getD_set0 _ _ _ _ (by omega), if_neg (fun e => hn.1 (by
        have : v = w := by omega
        rw [this]; exact hw))]
      exact c)
    refine ⟨y, ?_, h2, fun j => ?_⟩
    · simp only [setF]
      rw [if_pos (by omega), if_neg (by omega)]
      exact h1
    · rw [h3 j, getD_set0 _ _ _ _ (by omega)]
      by_cases c : (j : Int) ∈ L
      · rw [if_pos c, if_pos (List.mem_cons_of_mem _ c)]
      · rw [if_neg c]
        by_cases e : v.toNat = j
        · rw [if_pos e, if_pos]
          have : v = (j : Int) := by omega
          rw [this]; exact List.mem_cons_self
        · rw [if_neg e, if_neg]
          intro h
          rcases List.mem_cons.1 h with h | h
          · exact e (by omega)
          · exact c h
def leftL (m : Nat) (es : List S67) (D : List Int) (L : List Int) (v : Nat) : Int := D.getD v 0 - sumN (fun w => if (w : Int) ∈ L then 0 else mE m es v w) m
theorem legalI {m q : Nat} {es : List S67} {D L : List Int} (S : Start m es D q) (hn : L.Nodup) (hL : ∀ v ∈ L, 0 ≤ v ∧ v < m) (hl : L.length ≤ 6) : Ev (fun k => impl_IsLegalSet.f k m es D L) (L.all fun v => decide (0 ≤ leftL m es D L v.toNat)) := by
  obtain ⟨h1, h2, h3⟩ := start_ok S
  obtain ⟨f1, f2, f3, f4⟩ := edgesB_facts S.g.1
  have hDl := S.len
  have z0 : ∀ j, (List.replicate m (0 : Int)).getD j 0 = 0 := fun j => by
    rw [List.getD_eq_getElem?_getD, List.getElem?_replicate]; split <;> rfl
  obtain ⟨y, y1, y2, y3⟩ := setF_nodup m L (List.replicate m 0) (by simp) hn (fun v hv => ⟨(hL v hv).1, (hL v hv).2, z0 _⟩)
  have hi := implSet_ev m (by omega) es D L f4 hDl (by omega) (by omega)
  rw [y1] at hi
  simp only [outF, fired_same m es D y f4 hDl y2 (start64 S)] at hi
  have hlen := xd_len m es D y f4 hDl (start64 S)
  have hyb : ∀ w, w < m → -1000000000000 ≤ y.getD w 0 ∧ y.getD w 0 ≤ 1000000000000 := fun w _ => by rw [y3 w, z0]; split <;> omega
  have hx : ∀ v ∈ L, (XD es D y).getD v.toNat 0 = leftL m es D L v.toNat := fun v hv => by
    have hb := hL v hv
    rw [xd_xf S y2 hyb v.toNat (by omega)]
    unfold XF leftL lap
    congr 1
    refine sumN_congr fun w hw => ?_
    have e1 : y.getD v.toNat 0 = 1 := by
      rw [y3, if_pos]
      rw [Int.toNat_of_nonneg hb.1]; exact hv
    dsimp only
    rw [e1, y3 w, z0]
    by_cases c : (w : Int) ∈ L
    · rw [if_pos c, if_pos c]; simp
    · rw [if_neg c, if_neg c]; simp
  have hF : Ev (fun k => impl_FireSet.f k m es D L) (XD es D y, true) := by
    simp only [impl_FireSet.f]
    exact Ev.bind h2 (ev_ift rfl (ev_ift (by omega) (ev_ift (by omega) (by rw [Int.toNat_natCast]; exact hi))))
  simp only [impl_IsLegalSet.f]
  refine Ev.bind hF (ev_ift rfl ?_)
  refine ev_listE L (fun k (_ : Unit) i => impl_IsLegalSet.l0 k (XD es D y) L (L.length : Int) i) (fun _ x => x.all fun v => decide (0 ≤ leftL m es D L v.toNat)) (fun _ _ => True) (fun x hx => ev1 fun k => ?_) (fun x v rest i hlt hdr hx' => ?_) () trivial
  · simp only [impl_IsLegalSet.l0]
    rw [if_neg (by omega)]; rfl
  · have hv : v ∈ L := List.mem_of_mem_drop (by rw [hdr]; exact List.mem_cons_self)
    have hb := hL v hv
    have hxv := hx v hv
    have hr : rd (XD es D y) v = leftL m es D L v.toNat := hxv
    by_cases c : leftL m es D L v.toNat < 0
    · refine Or.inl (ev_succ ?_)
      rw [show (v :: rest).all (fun v => decide (0 ≤ leftL m es D L v.toNat)) = false by simp; intro h; omega]
      simp only [impl_IsLegalSet.l0, rd_drop hdr, hr]
      exact ev_ift (by omega) (ev_ift (by omega) (ev_ift (by omega) (ev_ift (by omega) (ev_ift (by omega) (ev_ift c (Ev.now _))))))
    · refine Or.inr ⟨(), trivial, by simp only [List.all_cons]; rw [decide_eq_true (by omega), Bool.true_and], fun t ht => ev_succ ?_⟩
      simp only [impl_IsLegalSet.l0, rd_drop hdr, hr, wrap_succ (show i < 4611686018427387904 by omega)]
      exact ev_ift (by omega) (ev_ift (by omega) (ev_ift (by omega) (ev_ift (by omega) (ev_ift (by omega) (ev_ifn c ht)))))
theorem lhas_ev (l : List Int) (v : Int) (hl : l.length < 4611686018427387904) : Ev (fun k => laws_has.f k l v) (decide (v ∈ l)) := by
  simp only [laws_has.f]
  refine ev_list0 l (fun k (_ : Unit) i => laws_has.l0 k v l (l.length : Int) i) (fun _ r => decide (v ∈ r)) (fun _ _ => True) (fun s _ => ev1 fun k => ?_) (fun s a rest i hlt hd _ => ?_) () trivial
  · simp only [laws_has.l0]
    rw [if_neg (by omega)]; simp
  · by_cases h : a = v
    · refine Or.inl (ev1 fun k => ?_)
      simp only [laws_has.l0, rd_drop hd]
      rw [if_pos (by omega), if_pos (by omega), if_pos (by omega), if_pos h]
      simp [h]
    · refine Or.inr ⟨(), trivial, by simp [Ne.symm h], 0, fun k _ => ?_⟩
      simp only [laws_has.l0, rd_drop hd]
      rw [if_pos (by omega), if_pos (by omega), if_pos (by omega), if_neg h, wrap_succ (by omega)]
end Go.Proofs.Ytbcfccdoffbncaa.Pure
end
section
set_option linter.unusedVariables false
set_option linter.unusedSimpArgs false
namespace Go.Proofs.Ytbcfccdoffbncaa.Pure
open Go.RowKit Go.Proofs.Ytbcfccdoffbncaa.P Go.Proofs.YtbcfccdoffbncaaW.PrintWords Go.Proofs.YtbcfccdoffbncaaW.PrintLast Go.Proofs.YtbcfccdoffbncaaW.PrintMore Go.Proofs.Ytbcfccdoffbncaa.Base Go.Proofs.Ytbcfccdoffbncaa.Loops
theorem makePile_ex (code : List Int) (hc : code.length < 4611686018427387904) (n : Nat) (hn : n < 1000) (m : Nat) (hm : m ≤ 6) (es : List S67) (q : Nat) (hq : q < m) :
    ∃ d : List Int, Ev (fun k => spec_MakePile.f k code (n : Int) (m : Int) es (q : Int)) d ∧ d.length = m ∧ ∀ u : Nat, 0 ≤ d.getD u 0 ∧ d.getD u 0 ≤ 6 := by
  obtain ⟨i, h, e0, hi⟩ := l21New_ex code hc n hn
  have main : ∀ (d j : Nat) (i h : Int) (x : List Int), 0 ≤ i → j + d = m → x.length = j → (∀ v ∈ x, 0 ≤ v ∧ v ≤ 6) → ∃ r i' h', Ev (fun k => spec_l10Draw.l0 k (q : Int) x (j : Int) code i h (m : Int) es) (r, i', h') ∧ r.length = m ∧ ∀ v ∈ r, 0 ≤ v ∧ v ≤ 6 := by
    intro d
    induction d with
    | zero =>
      intro j i h x hi hj hx hb
      refine ⟨x.set q 0, i, h, ev_succ ?_, by simp; omega, fun v hv => ?_⟩
      · simp only [spec_l10Draw.l0, Int.toNat_natCast]
        exact ev_ifn (by omega) (ev_ift (by omega) (ev_ift (by omega) (ev_ift (by omega) (Ev.now _))))
      · rcases List.mem_or_eq_of_mem_set hv with h' | h'
        · exact hb v h'
        · omega
    | succ d ih =>
      intro j i h x hi hj hx hb
      obtain ⟨a, i1, h1, e1, a0, a1, hi1⟩ := below_ex code hc i h hi 7 (by omega) (by omega)
      obtain ⟨r, i', h', r1, r2, r3⟩ := ih (j + 1) i1 h1 (x ++ [a]) hi1 (by omega) (by simp [hx]) (snoc_b hb (by omega))
      refine ⟨r, i', h', ev_succ ?_, r2, r3⟩
      simp only [spec_l10Draw.l0, e1, Option.bind_some, wrap_succ (show j < 4611686018427387904 by omega)]
      exact ev_ift (by omega) (ev_ift (by omega) r1)
  obtain ⟨r, i', h', r1, r2, r3⟩ := main m 0 i h [] hi (by omega) rfl (fun v hv => by cases hv)
  refine ⟨r, ?_, r2, fun u => getD_b r3 (by omega) (by omega) u⟩
  simp only [spec_MakePile.f, spec_l10Draw.f]
  refine Ev.bind e0 ?_
  exact Ev.bind r1 (Ev.now _)
end Go.Proofs.Ytbcfccdoffbncaa.Pure
end
section
set_option linter.unusedVariables false
set_option linter.unusedSimpArgs false
namespace Go.Proofs.Ytbcfccdoffbncaa.Pure
open Go.RowKit Go.Proofs.Ytbcfccdoffbncaa.P Go.Proofs.YtbcfccdoffbncaaW.PrintWords Go.Proofs.YtbcfccdoffbncaaW.PrintLast Go.Proofs.YtbcfccdoffbncaaW.PrintMore Go.Proofs.Ytbcfccdoffbncaa.Base Go.Proofs.Ytbcfccdoffbncaa.Det Go.Proofs.Ytbcfccdoffbncaa.Reduce Go.Proofs.Ytbcfccdoffbncaa.Loops Go.Proofs.Ytbcfccdoffbncaa.Bits
theorem colsR_nodup (S j d : Nat) : (colsR S j d).Nodup := by
  unfold colsR
  exact List.Pairwise.map _ (fun a b h e => h (by omega)) (List.Pairwise.filter _ List.nodup_range')
theorem restL_mem (r : List Int) (m : Nat) (v : Int) : v ∈ restL r m ↔ 0 ≤ v ∧ v < m ∧ v ∉ r := by
  unfold restL
  rw [List.mem_filter, List.mem_map]
  constructor
  · rintro ⟨⟨i, hi, rfl⟩, h⟩
    rw [List.mem_range] at hi
    simp at h
    exact ⟨by omega, by omega, h⟩
  · rintro ⟨h0, h1, h2⟩
    exact ⟨⟨v.toNat, List.mem_range.2 (by omega), by omega⟩, by simp [h2]⟩
theorem restL_nodup (r : List Int) (m : Nat) : (restL r m).Nodup := by
  unfold restL
  exact List.Pairwise.filter _ (List.Pairwise.map _ (fun a b h e => h (by omega)) List.nodup_range)
theorem rest_count {m : Nat} {r : List Int} (h : BInv m r) : r.length + (restL r m).length = m := by
  have h1 : (r ++ restL r m).Nodup := List.nodup_append.2 ⟨h.1, restL_nodup r m, fun a ha b hb e => ((restL_mem r m b).1 hb).2.2 (e ▸ ha)⟩
  have hd : ((List.range m).map fun i : Nat => (i : Int)).Nodup := List.Pairwise.map _ (fun a b h e => h (by omega)) List.nodup_range
  have a := List.Nodup.length_le_of_subset h1 (l₂ := (List.range m).map fun i : Nat => (i : Int)) (fun v hv => by
    rcases List.mem_append.1 hv with hv | hv
    · have hb := h.2 v hv
      exact List.mem_map.2 ⟨v.toNat, List.mem_range.2 (by omega), by omega⟩
    · have hb := (restL_mem r m v).1 hv
      exact List.mem_map.2 ⟨v.toNat, List.mem_range.2 (by omega), by omega⟩)
  have b := List.Nodup.length_le_of_subset hd (l₂ := r ++ restL r m) (fun v hv => by
    obtain ⟨i, hi, rfl⟩ := List.mem_map.1 hv
    rw [List.mem_range] at hi
    by_cases c : (i : Int) ∈ r
    · exact List.mem_append_left _ c
    · exact List.mem_append_right _ ((restL_mem r m _).2 ⟨by omega, by omega, c⟩))
  simp only [List.length_append, List.length_map, List.length_range] at a b
  omega
theorem rest_legal {m : Nat} {es : List S67} {D r : List Int} (h : BInv m r) (cold : ∀ v : Nat, v < m → hotB m es D r v = false) : (restL r m).all (fun v => decide (0 ≤ leftL m es D (restL r m) v.toNat)) = true := by
  rw [List.all_eq_true]
  intro v hv
  obtain ⟨v0, v1, v2⟩ := (restL_mem r m v).1 hv
  have hc := cold v.toNat (by omega)
  have v3 : ((v.toNat : Nat) : Int) ∉ r := by rw [Int.toNat_of_nonneg v0]; exact v2
  simp only [hotB, decide_eq_false v3, Bool.not_false, Bool.true_and, decide_eq_false_iff_not] at hc
  rw [← sumB_eq m es _ m r h.1 h.2, sumB_sumN] at hc
  rw [decide_eq_true_eq]
  unfold leftL
  have e : sumN (fun w => if (w : Int) ∈ restL r m then 0 else mE m es v.toNat w) m = sumN (fun w => if (w : Int) ∈ r then multI m es (v.toNat : Nat) w else 0) m := sumN_congr fun w hw => by
    by_cases c : (w : Int) ∈ r
    · rw [if_pos c, if_neg (fun h' => ((restL_mem r m _).1 h').2.2 c)]; rfl
    · rw [if_neg c, if_pos ((restL_mem r m _).2 ⟨by omega, by omega, c⟩)]
  omega
theorem legal_rest {m q : Nat} {es : List S67} {D r L : List Int} (h : BInv m r) (h1 : r.take 1 = [(q : Int)]) (hot : ∀ j, 1 ≤ j → j < r.length → hotB m es D (r.take j) (r.getD j 0).toNat = true) (hL : ∀ v ∈ L, 0 ≤ v ∧ v < (m : Int)) (hq : (q : Int) ∉ L)
    (hl : L.all (fun v => decide (0 ≤ leftL m es D L v.toNat)) = true) : ∀ v ∈ L, v ∈ restL r m := by
  intro v hv
  rw [List.all_eq_true] at hl
  refine (restL_mem r m v).2 ⟨(hL v hv).1, (hL v hv).2, fun hr => ?_⟩
  obtain ⟨j0, hj0, e0⟩ := List.mem_iff_getElem.1 hr
  obtain ⟨j, ⟨hj, hAj⟩, hmin⟩ := least_ (fun j => j < r.length ∧ r.getD j 0 ∈ L) ⟨j0, hj0, by rw [List.getD_eq_getElem?_getD, List.getElem?_eq_getElem hj0, Option.getD_some, e0]; exact hv⟩
  have hj1 : 1 ≤ j := by
    rcases Nat.eq_zero_or_pos j with e | e
    · subst e
      have hq0 : r.getD 0 0 = (q : Int) := by
        cases r with
        | nil => simp at hj
        | cons a r => simp at h1 ⊢; exact h1
      rw [hq0] at hAj
      exact absurd hAj hq
    · exact e
  have hh := hot j hj1 hj
  simp only [hotB, Bool.and_eq_true, decide_eq_true_eq] at hh
  have hlt := hh.2
  have hb := hL _ hAj
  have hsub : ∀ w ∈ r.take j, 0 ≤ w ∧ w < (m : Int) := fun w hw => h.2 w (List.mem_of_mem_take hw)
  rw [← sumB_eq m es _ m (r.take j) (List.Sublist.nodup (List.take_sublist j r) h.1) hsub, sumB_sumN] at hlt
  have hle := hl _ hAj
  rw [decide_eq_true_eq] at hle
  unfold leftL at hle
  have hs : sumN (fun w => if (w : Int) ∈ r.take j then multI m es ((r.getD j 0).toNat : Nat) w else 0) m ≤ sumN (fun w => if (w : Int) ∈ L then 0 else mE m es (r.getD j 0).toNat w) m := sumN_le fun w hw => by
    by_cases c : (w : Int) ∈ r.take j
    · rw [if_pos c]
      have hnL : (w : Int) ∉ L := fun hwL => by
        obtain ⟨i, hi, hiw⟩ := List.mem_iff_getElem.1 c
        have hij : i < j := by rw [List.length_take] at hi; omega
        refine hmin i hij ⟨by omega, ?_⟩
        rw [List.getElem_take] at hiw
        rw [List.getD_eq_getElem?_getD, List.getElem?_eq_getElem (by omega), Option.getD_some, hiw]
        exact hwL
      rw [if_neg hnL]; exact Int.le_refl _
    · rw [if_neg c]
      split
      · exact Int.le_refl _
      · exact multI_nonneg _ _ _ _
  omega
theorem legal_l2 {m q : Nat} (hm : m ≤ 6) {es : List S67} {D s L : List Int} (hs : s.length ≤ 6) (hl : L.length ≤ 6) (hsub : ∀ v ∈ L, v ∈ s) (k0 : Int) (b : Bool) (hn : Ev (fun k => laws_FnLegal.l0 k q D s (wrap64 (k0 + 1)) m es) b) :
    Ev (fun k => laws_FnLegal.l2 k q D s k0 L (L.length : Int) 0 m es) b := by
  have main : ∀ (d i : Nat), i + d = L.length → Ev (fun k => laws_FnLegal.l2 k q D s k0 L (L.length : Int) (i : Int) m es) b := by
    intro d
    induction d with
    | zero =>
      intro i hi
      refine ev_succ ?_
      simp only [laws_FnLegal.l2]
      exact ev_ifn (by omega) hn
    | succ d ih =>
      intro i hi
      have h1 := ih (i + 1) (by omega)
      have hh := lhas_ev s (rd L (i : Int)) (by omega)
      rw [decide_eq_true (hsub _ (by rw [rd_nat L i (by omega)]; exact List.getElem_mem _))] at hh
      refine ev_succ ?_
      simp only [laws_FnLegal.l2]
      refine ev_ift (by omega) (ev_succ ?_)
      simp only [laws_FnLegal.j10, wrap_succ (show i < 4611686018427387904 by omega)]
      exact ev_ift (by omega) (ev_ift (by omega) (Ev.bind hh (ev_ift rfl h1)))
  exact main L.length 0 (by omega)
theorem legal_l1 {m q : Nat} (hm : m ≤ 6) {es : List S67} {D s : List Int} (k0 : Nat) (hk : k0 < 64) (b : Bool) (hn : Ev (fun k => (laws_has.f k (colsR k0 0 m) q).bind fun t => (if t = true then (laws_FnLegal.j7 k q D s k0 (colsR k0 0 m) true m es) else ((impl_IsLegalSet.f k m es D (colsR k0 0 m)).bind fun t => (laws_FnLegal.j7 k q D s k0 (colsR k0 0 m) (!t) m es)))) b) :
    Ev (fun k => laws_FnLegal.l1 k q D s k0 [] 0 m es) b := by
  have main : ∀ (d i : Nat), i + d = m → Ev (fun k => laws_FnLegal.l1 k q D s k0 (colsR k0 0 i) (i : Int) m es) b := by
    intro d
    induction d with
    | zero =>
      intro i hi
      obtain rfl : i = m := by omega
      refine ev_succ ?_
      simp only [laws_FnLegal.l1]
      exact ev_ifn (by omega) hn
    | succ d ih =>
      intro i hi
      have h1 := ih (i + 1) (by omega)
      have hl := colsR_len k0 0 i
      refine ev_succ ?_
      simp only [laws_FnLegal.l1]
      refine ev_ift (by omega) (ev_succ ?_)
      simp only [laws_FnLegal.j6, bit_of k0 i (by omega) (by omega), wrap_succ (show i < 4611686018427387904 by omega)]
      refine ev_ift (by omega) ?_
      rw [colsR_snoc] at h1
      by_cases hb : k0.testBit i = true
      · rw [if_pos hb] at h1 ⊢
        exact ev_ift rfl (ev_ift (by omega) h1)
      · rw [if_neg hb] at h1 ⊢
        rw [List.append_nil] at h1
        exact ev_ifn (by omega) h1
  exact main m 0 (by omega)
theorem legal_l0 {m q : Nat} (hm : m ≤ 6) {es : List S67} {D r : List Int} (S : Start m es D q) (hB : BInv m r) (h1 : r.take 1 = [(q : Int)]) (hot : ∀ j, 1 ≤ j → j < r.length → hotB m es D (r.take j) (r.getD j 0).toNat = true) :
    Ev (fun k => laws_FnLegal.l0 k q D (restL r m) 0 m es) true := by
  have hp : 2 ^ m ≤ 64 := by have := Nat.pow_le_pow_right (n := 2) (by decide) hm; simpa using this
  have hs : (restL r m).length ≤ 6 := by have := restL_len r m; omega
  have main : ∀ (d i : Nat), i + d = 2 ^ m → Ev (fun k => laws_FnLegal.l0 k q D (restL r m) (i : Int) m es) true := by
    intro d
    induction d with
    | zero =>
      intro i hi
      refine ev_succ ?_
      simp only [laws_FnLegal.l0, shl_nat m (by omega)]
      exact ev_ift (by omega) (ev_ifn (by omega) (Ev.now _))
    | succ d ih =>
      intro i hi
      have hn := ih (i + 1) (by omega)
      rw [← wrap_succ (show i < 4611686018427387904 by omega)] at hn
      have hl := colsR_len i 0 m
      have hh := lhas_ev (colsR i 0 m) (q : Int) (by omega)
      have hmem : ∀ v ∈ colsR i 0 m, 0 ≤ v ∧ v < (m : Int) := fun v hv => by have := colsR_mem hv; omega
      have lg := legalI S (colsR_nodup i 0 m) hmem (by omega)
      have go7 : Ev (fun k => laws_FnLegal.j7 k q D (restL r m) i (colsR i 0 m) true m es) true := ev_succ (by
        simp only [laws_FnLegal.j7]
        exact ev_ift trivial hn)
      refine ev_succ ?_
      simp only [laws_FnLegal.l0, shl_nat m (by omega)]
      refine ev_ift (by omega) (ev_ift (by omega) (ev_succ ?_))
      simp only [laws_FnLegal.j4]
      refine legal_l1 hm i (by omega) true ?_
      refine Ev.bind hh ?_
      by_cases c : (q : Int) ∈ colsR i 0 m
      · rw [decide_eq_true c]
        exact ev_ift rfl go7
      · rw [decide_eq_false c]
        refine ev_iff ?_
        refine Ev.bind lg ?_
        cases e : (colsR i 0 m).all fun v => decide (0 ≤ leftL m es D (colsR i 0 m) v.toNat) with
        | false => exact go7
        | true =>
          have hsub := legal_rest hB h1 hot hmem c e
          refine ev_succ ?_
          simp only [laws_FnLegal.j7]
          refine ev_iff (ev_succ ?_)
          simp only [laws_FnLegal.j8]
          exact legal_l2 hm hs (by omega) hsub (i : Int) true hn
  exact main (2 ^ m) 0 (by omega)
theorem lawLegal (code : List Int) (hc : code.length ≤ 9223372036854775807) : Ev (fun k => laws_FnLegal.f k code) true := by
  simp only [laws_FnLegal.f]
  by_cases h20 : (code.length : Int) > 1048576
  · exact ev_ift h20 (Ev.now _)
  refine ev_ifn h20 ?_
  obtain ⟨n, es, hg, G⟩ := makeGraph_ex code (by omega)
  obtain ⟨m, rfl⟩ : ∃ m : Nat, n = m := ⟨n.toNat, by have := G.lo; omega⟩
  have glo := G.lo
  have ghi := G.hi
  have h8 := G.len
  obtain ⟨v, hnum, hv0⟩ := makeNum_ex code (by omega) 60 (by omega)
  obtain ⟨q, hq, hqm⟩ : ∃ q : Nat, Int.tmod v m = q ∧ q < m := ⟨(Int.tmod v m).toNat, by have := Int.tmod_nonneg (m : Int) hv0; omega, by have := Int.tmod_nonneg (m : Int) hv0; have := Int.tmod_lt_of_pos v (show (0 : Int) < m by omega); omega⟩
  obtain ⟨D, hdv, hDl, hDb⟩ := makePile_ex code (by omega) 20 (by omega) m (by omega) es q hqm
  have S : Start m es D q := ⟨G.g, hqm, hDl, fun w => by have := hDb w; omega⟩
  obtain ⟨f1, f2, f3, f4⟩ := edgesB_facts S.g.1
  obtain ⟨r, r1, _, r3, r4, r5, r6⟩ := burn_both m (by omega) es f3 D hDl q hqm
  obtain ⟨_, h2, h3⟩ := start_ok S
  have aB : Ev (fun k => impl_BurnFrom.f k m es D q) (r, true) := by
    simp only [impl_BurnFrom.f]
    exact Ev.bind h2 (ev_ift rfl (Ev.bind h3 (ev_ift rfl (Ev.bind r1 (Ev.now _)))))
  have hrl := binv_len r3
  have hd : debtF (q : Int) 0 D = none := debt_none fun j hj hne => (hDb j).1
  have aM := mostLegalI_ev aB hDl (by omega) (by omega) hd
  have hcnt := rest_count r3
  have aL := legalI S (restL_nodup r m) (fun v hv => by have := (restL_mem r m v).1 hv; exact ⟨this.1, this.2.1⟩) (by omega)
  rw [rest_legal r3 r5] at aL
  have aH := lhas_ev (restL r m) (q : Int) (by omega)
  rw [decide_eq_false (fun h => ((restL_mem r m _).1 h).2.2 (burn_mem r4))] at aH
  have l0 := legal_l0 (by omega) S r3 r4 r6
  have hw : wrap64 ((r.length : Int) + ((restL r m).length : Int)) = (m : Int) := by unfold wrap64; omega
  refine ev_succ ?_
  simp only [laws_FnLegal.j0]
  refine Ev.bind hg ?_
  refine Ev.bind hnum ?_
  dsimp only
  rw [hq]
  refine ev_ifn (by omega) ?_
  refine Ev.bind hdv ?_
  refine Ev.bind aB ?_
  refine Ev.bind aM ?_
  refine ev_ift rfl (ev_ift hw ?_)
  refine Ev.bind aL (ev_ift rfl ?_)
  refine Ev.bind aH ?_
  refine ev_succ ?_
  simp only [laws_FnLegal.j1]
  refine ev_iff (ev_succ ?_)
  simp only [laws_FnLegal.j2]
  exact l0
theorem FnLegal : StatFnLegal := by
  intro code ⟨hc, _⟩
  have hc' : code.length ≤ 9223372036854775807 := by unfold maxLen at hc; omega
  exact Ev.rounds (r := true) (lawLegal code hc')
end Go.Proofs.Ytbcfccdoffbncaa.Pure
end
