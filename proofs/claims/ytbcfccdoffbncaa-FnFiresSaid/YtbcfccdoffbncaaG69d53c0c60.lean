/- Functions of the program as plain Lean functions and that the machine's calls answer as they do, the words of the print that these use, lemmas and plain proofs of laws. Put together by a program of this work that leaves out what nothing uses; Lean checks it. -/
import Derived.Test.YtbcfccdoffbncaaG761cdaac89
section
namespace Go.Proofs.Ytbcfccdoffbncaa.P
open Go.RowKit Go.Proofs.YtbcfccdoffbncaaW.PrintWords Go.Proofs.YtbcfccdoffbncaaW.PrintLast Go.Proofs.YtbcfccdoffbncaaW.PrintMore
attribute [local go_sem] max2_int min2_int max_two min_two max_three min_three max_four min_four
set_option linter.unusedVariables false
set_option linter.unusedSimpArgs false
def impl_fire.l0 : Nat → List Int → Int → Int → List (S67) → Int → Int → Option (List Int)
 | 0, _, _, _, _, _, _ => none
 | k + 1, x1, x2, x3, x11, x12, x13 => if x13 < x12 then (if 0 ≤ x13 then (if x13 < (x11.length : Int) then (if x2 = ((rd_T67 x11 x13).f0) then (if 0 ≤ x2 then (if x2 < (x1.length : Int) then ((some (x1.set (x2 : Int).toNat (wrap64 ((rd x1 x2) - x3)) : List Int)).bind fun y318 => (if 0 ≤ ((rd_T67 x11 x13).f1) then (if ((rd_T67 x11 x13).f1) < (x1.length : Int) then (impl_fire.l0 k (y318.set (((rd_T67 x11 x13).f1) : Int).toNat (wrap64 ((rd y318 ((rd_T67 x11 x13).f1)) + x3))) x2 x3 x11 x12 (wrap64 (x13 + 1))) else (none)) else (none))) else (none)) else (none)) else (if x2 = ((rd_T67 x11 x13).f1) then (if 0 ≤ x2 then (if x2 < (x1.length : Int) then ((some (x1.set (x2 : Int).toNat (wrap64 ((rd x1 x2) - x3)) : List Int)).bind fun y322 => (if 0 ≤ ((rd_T67 x11 x13).f0) then (if ((rd_T67 x11 x13).f0) < (x1.length : Int) then (impl_fire.l0 k (y322.set (((rd_T67 x11 x13).f0) : Int).toNat (wrap64 ((rd y322 ((rd_T67 x11 x13).f0)) + x3))) x2 x3 x11 x12 (wrap64 (x13 + 1))) else (none)) else (none))) else (none)) else (none)) else (impl_fire.l0 k x1 x2 x3 x11 x12 (wrap64 (x13 + 1))))) else (none)) else (none)) else (some x1)
def impl_fire.f (k : Nat) (a0_0 : Int) (l0_1 : List (S67)) (l1 : List Int) (a2 : Int) (a3 : Int) : Option (List Int) := impl_fire.l0 k l1 a2 a3 l0_1 (l0_1.length : Int) 0
set_option maxHeartbeats 8000000 in
set_option maxRecDepth 100000 in
theorem impl_fire.calls (k : Nat) (a0_0 : Int) (A0_1 : Option Addr) (c0_1 : Nat) (l0_1 : List (S67)) (P1_ : Nat → Prop) (u9000_ : Value) (l1 : List Int) (a2 : Int) (a3 : Int) (r : List Int) (w0 w : World) (hB : Below w0.heap.size w0 w) (hr0_1 : ∀ W_, Kept w W_ (fun k_ => P1_ k_) → Kd.C k67 W_ A0_1 l0_1.length l0_1) (hc0_1 : l0_1.length ≤ c0_1) (ho1 : Kd.R (Kd.int .i64) 3 w w0.heap.size P1_ u9000_ l1) (h : impl_fire.f k a0_0 l0_1 l1 a2 a3 = some r) :
  Calls Try.prog 101 #[.agg #[.int .i64 a0_0, .slice A0_1 l0_1.length c0_1], u9000_, .int .i64 a2, .int .i64 a3] w fun e w' => e = .returned (.tuple #[]) ∧ Kd.R (Kd.int .i64) 3 w' w0.heap.size (fun k_ => (P1_ k_ ∨ w.heap.size ≤ k_)) u9000_ r ∧ Below w0.heap.size w0 w' ∧ Kept w w' (fun k_ => P1_ k_) := by
 have hu31 := Try.underlying31
 have hu67 := Try.underlying67
 have HR0_1 := Aside0.mk hr0_1
 have HC0_1 := Aside0.mk hc0_1
 clear hr0_1 hc0_1
 have HO1 := Aside0.mk (show Kd.R (Kd.int .i64) 3 w w0.heap.size (fun k_ => (P1_ k_ ∨ w.heap.size ≤ k_)) u9000_ l1 from Kd.R_mono ho1 (fun k_ hk => (.inl hk)))
 have HK := Aside0.mk (Kept.refl w (fun k_ => P1_ k_))
 have HW0 := Aside0.mk hB.size
 have HB := Aside0.mk hB
 clear hB
 have H : (impl_fire.l0 k l1 a2 a3 l0_1 (l0_1.length : Int) 0) = some r := h
 clear h
 have H' := Aside0.mk H
 clear H
 go_enter Try.func101, Try.ntmps101
 go_wp2_with (first | ((with_reducible refine gate_dst (N := 4) rfl ?_); refine box_event ?hg (N := 4) ?hd (cs := #[.int .i64 a0_0, .slice A0_1 l0_1.length c0_1]) (t := 31) ?hr ?_; (case hd => rfl); (case hg => rfl); (case hr => first | (go_simp; done) | (go_simp; rfl)); intro gb314 hg w5 hbox hb; replace HO1 := Aside0.mk (Kd.R_below (Rz HO1) hb); have BK314 := Aside0.mk (hbox); have GW314 := Aside0.mk ((by rw [hg]; exact (by first | exact HK.out.1 | exact (show Kept w _ (fun k_ => P1_ k_) from by repeat (first | (with_reducible first | exact HK.out | apply Kept.alloc | apply Kept.drewN | apply Kept.drew) | exact HK.out)).1) : w.heap.size ≤ gb314)); replace HK := Aside0.mk (Kept.below (S := (fun k_ => P1_ k_)) (by repeat (first | (with_reducible first | exact HK.out | apply Kept.alloc | apply Kept.drewN | apply Kept.drew) | exact HK.out)) hb); have GE314 := Aside0.mk ((by rw [hg]; exact (below_size (Lz HB)) : w0.heap.size ≤ gb314)); replace HB := Aside0.mk (below_step (Lz HB) hb); clear hb hbox hg; have hcz6_0 : w5.cell? ⟨gb314, 0, none⟩ = some (.int .i64 a0_0) := (blk_cell BK314.out 0).trans rfl; have hcz6_1 : w5.cell? ⟨gb314, 1, none⟩ = some (.slice A0_1 l0_1.length c0_1) := (blk_cell BK314.out 1).trans rfl; have hfz6_0 := blk_frozen BK314.out 0; have hfz6_1 := blk_frozen BK314.out 1))
 go_loopg [13] k (fun kq v13 w' => ∃ (x1_1 : List Int) (x13_1 : Int), v13 = .int .i64 x13_1 ∧ Aside0 (impl_fire.l0 kq x1_1 a2 a3 l0_1 (l0_1.length : Int) x13_1 = some r) ∧ Aside0 (kq ≤ k) ∧ Aside0 (Kd.R (Kd.int .i64) 3 w' w0.heap.size (fun k_ => (P1_ k_ ∨ w.heap.size ≤ k_)) u9000_ x1_1) ∧ Aside0 (w'.heap[gb314]? = some (.cells #[.int .i64 a0_0, (.slice A0_1 l0_1.length c0_1)] 31 (0, 0))) ∧ Aside0 (Kept w w' (fun k_ => P1_ k_)) ∧ Aside0 (Below w0.heap.size w0 w'))
 case atStart => exact ⟨(l1), (0), eqA, H', ⟨Nat.le_refl _⟩, ⟨by exact Rz HO1⟩, ⟨by exact Bz BK314⟩, ⟨by repeat (first | (with_reducible first | exact HK.out | apply Kept.alloc | apply Kept.drewN | apply Kept.drew | refine Kept.setCell ?_ (.inr GW314.out) _) | exact HK.out)⟩, ⟨by exact Lz1 HB GE314⟩⟩
 case round =>
  clear H'
  obtain ⟨x1_1, x13_1, rfl, HA, HK1, HO_1, BK314, HK, HB⟩ := hrel
  cases gk with
  | zero => exact absurd HA.out (by simp [impl_fire.l0])
  | succ k1 =>
   have H := HA.out
   clear HA
   simp only [impl_fire.l0] at H
   by_cases c7 : x13_1 < (l0_1.length : Int)
   ·rw [if_pos c7] at H
    have c7b0 : decide (x13_1 < (l0_1.length : Int)) = true := decide_eq_true c7
    clear c7
    by_cases c8 : 0 ≤ x13_1
    ·rw [if_pos c8] at H
     have c8b0 : decide (0 ≤ x13_1) = true := decide_eq_true c8
     clear c8
     by_cases c9 : x13_1 < (l0_1.length : Int)
     ·rw [if_pos c9] at H
      have c9b0 : decide (x13_1 < (l0_1.length : Int)) = true := decide_eq_true c9
      clear c9
      by_cases c10 : a2 = ((rd_T67 l0_1 x13_1).f0)
      ·rw [if_pos c10] at H
       have c10b0 : (a2 == ((rd_T67 l0_1 x13_1).f0)) = true := beq_iff_eq.mpr c10
       have c10b1 : (a2 != ((rd_T67 l0_1 x13_1).f0)) = false := bne_eq_false_iff_eq.mpr c10
       clear c10
       by_cases c11 : 0 ≤ a2
       ·rw [if_pos c11] at H
        have c11b0 : decide (0 ≤ a2) = true := decide_eq_true c11
        clear c11
        by_cases c12 : a2 < (x1_1.length : Int)
        ·rw [if_pos c12] at H
         have c12b0 : decide (a2 < (x1_1.length : Int)) = true := decide_eq_true c12
         clear c12
         obtain ⟨y318, hy318⟩ : ∃ y_ : List Int, y_ = (x1_1.set (a2 : Int).toNat (wrap64 ((rd x1_1 a2) - a3))) := ⟨_, rfl⟩
         replace H : (if 0 ≤ ((rd_T67 l0_1 x13_1).f1) then (if ((rd_T67 l0_1 x13_1).f1) < (x1_1.length : Int) then (impl_fire.l0 k1 (y318.set (((rd_T67 l0_1 x13_1).f1) : Int).toNat (wrap64 ((rd y318 ((rd_T67 l0_1 x13_1).f1)) + a3))) a2 a3 l0_1 (l0_1.length : Int) (wrap64 (x13_1 + 1))) else (none)) else (none)) = some r := by first | (rw [hy318]; with_reducible exact H) | (have H2_ := (Option.bind_some _ _).symm.trans H; rw [hy318]; with_reducible exact H2_) | (have H2_ := (Option.bind_some _ _).symm.trans H; with_reducible exact H2_) | with_reducible exact H | (rw [hy318]; exact H) | exact H
         have Ny318 := Aside0.mk hy318
         clear hy318
         by_cases c14 : 0 ≤ ((rd_T67 l0_1 x13_1).f1)
         ·rw [if_pos c14] at H
          have c14b0 : decide (0 ≤ ((rd_T67 l0_1 x13_1).f1)) = true := decide_eq_true c14
          clear c14
          by_cases c15 : ((rd_T67 l0_1 x13_1).f1) < (x1_1.length : Int)
          ·rw [if_pos c15] at H
           have c15b0 : decide (((rd_T67 l0_1 x13_1).f1) < (x1_1.length : Int)) = true := decide_eq_true c15
           clear c15
           obtain ⟨y320, hy320⟩ : ∃ y_ : List Int, y_ = (y318.set (((rd_T67 l0_1 x13_1).f1) : Int).toNat (wrap64 ((rd y318 ((rd_T67 l0_1 x13_1).f1)) + a3))) := ⟨_, rfl⟩
           replace H : (impl_fire.l0 k1 y320 a2 a3 l0_1 (l0_1.length : Int) (wrap64 (x13_1 + 1))) = some r := by first | (rw [hy320]; with_reducible exact H) | (have H2_ := (Option.bind_some _ _).symm.trans H; rw [hy320]; with_reducible exact H2_) | (have H2_ := (Option.bind_some _ _).symm.trans H; with_reducible exact H2_) | with_reducible exact H | (rw [hy320]; exact H) | exact H
           have Ny320 := Aside0.mk hy320
           clear hy320
           have H' := Aside0.mk H
           clear H
           have p315 : 0 ≤ (x13_1 : Int) := ofA
           have q315 : x13_1 < (l0_1.length : Int) := ofA
           obtain ⟨ad315, e315, hx315_0, hx315_1⟩ := at_T67 (Kd.C_kept_now HR0_1.out HK.out) x13_1 p315 q315
           cases e315
           replace p315 := eq_true p315
           replace q315 := eq_true q315
           go_wp2_with (first | ((with_reducible refine gate_dst (N := 9) rfl ?_); refine box_event ?hg (N := 9) ?hd (cs := #[.int .i64 0, .int .i64 0]) (t := 67) ?hr ?_; (case hd => rfl); (case hg => rfl); (case hr => first | (go_simp; done) | (go_simp; rfl)); intro gb316 hg w17 hbox hb; replace HO_1 := Aside0.mk (Kd.R_below (Rz HO_1) hb); have BK316 := Aside0.mk (hbox); have GW316 := Aside0.mk ((by rw [hg]; exact (by first | exact HK.out.1 | exact (show Kept w _ (fun k_ => P1_ k_) from by repeat (first | (with_reducible first | exact HK.out | apply Kept.alloc | apply Kept.drewN | apply Kept.drew | refine Kept.setCell ?_ (.inr GW314.out) _) | exact HK.out)).1) : w.heap.size ≤ gb316)); replace HK := Aside0.mk (Kept.below (S := (fun k_ => P1_ k_)) (by repeat (first | (with_reducible first | exact HK.out | apply Kept.alloc | apply Kept.drewN | apply Kept.drew | refine Kept.setCell ?_ (.inr GW314.out) _) | exact HK.out)) hb); have GE316 := Aside0.mk ((by rw [hg]; exact (below_size (by exact Lz1 HB GE314)) : w0.heap.size ≤ gb316)); replace HB := Aside0.mk (below_step (by exact Lz1 HB GE314) hb); have NB314_316 := Aside0.mk ((by rw [hg]; exact Nat.ne_of_lt (blk_lt (g := gb314) (o := .cells #[.int .i64 a0_0, .slice (some ad315) l0_1.length c0_1] 31 (0, 0)) (Bz BK314)) : gb314 ≠ gb316)); have NB316_314 := Aside0.mk ((by rw [hg]; exact Nat.ne_of_gt (blk_lt (g := gb314) (o := .cells #[.int .i64 a0_0, .slice (some ad315) l0_1.length c0_1] 31 (0, 0)) (Bz BK314)) : gb316 ≠ gb314)); replace BK314 := Aside0.mk (blk_below (g := gb314) (o := .cells #[.int .i64 a0_0, .slice (some ad315) l0_1.length c0_1] 31 (0, 0)) (Bz BK314) hb); clear hb hbox hg; have hnb18 := NB316_314.out; have hnc18 := NB314_316.out; have hcz19_0 : w17.cell? ⟨gb316, 0, none⟩ = some (.int .i64 0) := (blk_cell BK316.out 0).trans rfl; have hcz19_1 : w17.cell? ⟨gb316, 1, none⟩ = some (.int .i64 0) := (blk_cell BK316.out 1).trans rfl; have hfz19_0 := blk_frozen BK316.out 0; have hfz19_1 := blk_frozen BK316.out 1) | ((with_reducible refine gate_store (t := 67) (p := 9) rfl ?_); refine store_event (t := 67) (p := 9) (v := ?vo_w20) (w1 := ((w17.setCell ⟨gb316, 0, none⟩ (.int .i64 ((rd_T67 l0_1 x13_1).f0))).setCell ⟨gb316, 1, none⟩ (.int .i64 ((rd_T67 l0_1 x13_1).f1)))) ?hg ?ho ?hn ?hr ?_; (case ho => rfl); (case hg => rfl); (case hn => rfl); (case hr => first | (go_simp; done) | (go_simp; rfl)); intro w20 hw; have n0_ : Aside0 (Kd.R (Kd.int .i64) 3 w20 w0.heap.size (fun k_ => (P1_ k_ ∨ w.heap.size ≤ k_)) u9000_ x1_1) := ⟨(by rw [hw]; exact (by (with_reducible repeat (first | apply Kd.R_alloc | apply Kd.R_drewN | apply Kd.R_drew)); exact Kd.R_mono (Kd.R_far (p := ⟨gb316, 1, none⟩) (Kd.R_far (p := ⟨gb316, 0, none⟩) (Kd.R_types HO_1.out BK316.out (by decide)) (fun _ hk => hk.2) (.int .i64 ((rd_T67 l0_1 x13_1).f0))) (fun _ hk => hk.2) (.int .i64 ((rd_T67 l0_1 x13_1).f1))) (fun _ hk => hk.1)))⟩; have n1_ : Aside0 (w20.heap[gb314]? = some (.cells #[.int .i64 a0_0, .slice (some ad315) l0_1.length c0_1] 31 (0, 0))) := ⟨(by rw [hw]; exact (by (with_reducible repeat (first | refine blk_drewN ?_ _ | refine blk_drew ?_ | refine blk_alloc ?_ _)); refine blk_far ?_ NB314_316.out _; (with_reducible repeat (first | refine blk_drewN ?_ _ | refine blk_drew ?_ | refine blk_alloc ?_ _)); refine blk_far ?_ NB314_316.out _; exact Bz BK314))⟩; have n2_ : Aside0 (w20.heap[gb316]? = some (.cells #[.int .i64 ((rd_T67 l0_1 x13_1).f0), .int .i64 ((rd_T67 l0_1 x13_1).f1)] 67 (0, 0))) := ⟨(by rw [hw]; exact (by (with_reducible repeat (first | refine blk_drewN ?_ _ | refine blk_drew ?_ | refine blk_alloc ?_ _)); refine blk_put (cs := #[.int .i64 ((rd_T67 l0_1 x13_1).f0), .int .i64 0]) ?_ 1 _ rfl; (with_reducible repeat (first | refine blk_drewN ?_ _ | refine blk_drew ?_ | refine blk_alloc ?_ _)); refine blk_put (cs := #[.int .i64 0, .int .i64 0]) ?_ 0 _ rfl; exact Bz BK316))⟩; have n3_ : Aside0 (Kept w w20 (fun k_ => P1_ k_)) := ⟨(by rw [hw]; exact (by repeat (first | (with_reducible first | exact HK.out | apply Kept.alloc | apply Kept.drewN | apply Kept.drew | refine Kept.setCell ?_ (.inr GW314.out) _ | refine Kept.setCell ?_ (.inr GW316.out) _) | exact HK.out)))⟩; have n4_ : Aside0 (Below w0.heap.size w0 w20) := ⟨(by rw [hw]; exact (by exact Lz2 HB GE314 GE316))⟩; clear hw; clear HO_1; clear BK314; clear BK316; clear HK; clear HB; have HO_1 := n0_; have BK314 := n1_; have BK316 := n2_; have HK := n3_; have HB := n4_; clear n0_ n1_ n2_ n3_ n4_; have hcz21_0 : w20.cell? ⟨gb316, 0, none⟩ = some (.int .i64 ((rd_T67 l0_1 x13_1).f0)) := (blk_cell BK316.out 0).trans rfl; have hcz21_1 : w20.cell? ⟨gb316, 1, none⟩ = some (.int .i64 ((rd_T67 l0_1 x13_1).f1)) := (blk_cell BK316.out 1).trans rfl; have hfz21_0 := blk_frozen BK316.out 0; have hfz21_1 := blk_frozen BK316.out 1; obtain ⟨Ao22, co22, eo22⟩ := Kd.R_slice HO_1.out; subst eo22; have p317 : 0 ≤ (a2 : Int) := ofA; have q317 : a2 < (x1_1.length : Int) := ofA; obtain ⟨ad317, e317, hx317_0⟩ := Kd.at_int (Kd.R_reads' HO_1.out).2.2 a2 p317 q317; cases e317; replace p317 := eq_true p317; replace q317 := eq_true q317; have p13 : 0 ≤ (a2 : Int) := ofA; have q13 : (a2 : Int) < ((x1_1.length : Int) : Int) := ofA; obtain ⟨go13, co13, eo13, gb13, gl13, cl13, HG13⟩ := Kd.R_form HO_1.out (by omega); (first | cases eo13 | (injection eo13 with ea_ en_ ec_; (first | subst ea_ | (injection ea_ with ea_; subst ea_)); subst ec_; clear en_)); have GB13 := Aside0.mk gb13; have GG13 := Aside0.mk HG13; clear gb13 gl13 HG13; have HMgo13 := Aside0.mk (show (P1_ go13 ∨ w.heap.size ≤ go13) from (HO_1.out.1 _ rfl)); (first | simp only [add_plain] at hx317_0 | skip); obtain ⟨hx13_0, hf13_0⟩ := Kd.R_celln 0 HO_1.out (a2 : Int) p13 q13; replace p13 := eq_true p13; replace q13 := eq_true q13; obtain ⟨hy23_, hz23_⟩ := Kd.R_celln 0 HO_1.out (a2 : Int) (ofA) (ofA); have HP23 := Kd.R_putg HO_1.out (a2 : Int) (wrap64 ((rd x1_1 a2) - a3))) | ((with_reducible refine gate_store (t := 3) (p := 28) rfl ?_); refine store_event (t := 3) (p := 28) (v := ?vo_w24) (w1 := (w20.setCell ⟨go13, (a2 : Int).toNat, none⟩ (.int .i64 (wrap64 ((rd x1_1 a2) - a3))))) ?hg ?ho ?hn ?hr ?_; (case ho => rfl); (case hg => rfl); (case hn => rfl); (case hr => first | (go_simp; done) | (go_simp; rfl)); intro w24 hw; have hg : w20.grownBy w24 (some go13) := (by rw [hw]; exact HP23.2); have hp_ : Kd.R (Kd.int .i64) 3 w24 w0.heap.size (fun k_ => (P1_ k_ ∨ w.heap.size ≤ k_)) (.slice (some ⟨go13, 0, none⟩) x1_1.length co22) y318 := (by rw [hw, Ny318.out]; exact HP23.1); clear HP23; replace BK314 := Aside0.mk (blk_grown (g := gb314) (o := .cells #[.int .i64 a0_0, .slice (some ad315) l0_1.length c0_1] 31 (0, 0)) (Bz BK314) hg (Kd.R_ne HO_1.out BK314.out (by decide))); replace BK316 := Aside0.mk (blk_grown (g := gb316) (o := .cells #[.int .i64 ((rd_T67 l0_1 x13_1).f0), .int .i64 ((rd_T67 l0_1 x13_1).f1)] 67 (0, 0)) (Bz BK316) hg (Kd.R_ne HO_1.out BK316.out (by decide))); replace HB := Aside0.mk ((by rw [hw]; exact below_set (HB.out) GB13.out : Below w0.heap.size w0 w24)); replace HK := Aside0.mk (Kept.of_grown (S := (fun k_ => P1_ k_)) hg (by repeat (first | (with_reducible first | exact HK.out | apply Kept.alloc | apply Kept.drewN | apply Kept.drew | refine Kept.setCell ?_ (.inr GW314.out) _ | refine Kept.setCell ?_ (.inr GW316.out) _) | exact HK.out)) (fun k_ e_ => (HO_1.out.1 k_ e_))); replace HO_1 := Aside0.mk (hp_); clear hg hw hp_; have hcz25_0 : w24.cell? ⟨gb316, 0, none⟩ = some (.int .i64 ((rd_T67 l0_1 x13_1).f0)) := (blk_cell BK316.out 0).trans rfl; have hcz25_1 : w24.cell? ⟨gb316, 1, none⟩ = some (.int .i64 ((rd_T67 l0_1 x13_1).f1)) := (blk_cell BK316.out 1).trans rfl; have hfz25_0 := blk_frozen BK316.out 0; have hfz25_1 := blk_frozen BK316.out 1; have p319 : 0 ≤ (((rd_T67 l0_1 x13_1).f1) : Int) := ofA; have q319 : ((rd_T67 l0_1 x13_1).f1) < (y318.length : Int) := (by have h_ : (((rd_T67 l0_1 x13_1).f1) : Int) < ((x1_1.length : Int) : Int) := ofA; first | (have e_ := (Kd.R_reads' HO_1.out).1; omega) | simpa only [Ny318.out, List.length_set] using h_); have ql319 : ((((rd_T67 l0_1 x13_1).f1) : Int) < ((x1_1.length : Int) : Int)) = True := eq_true (ofA); obtain ⟨ad319, e319, hx319_0⟩ := Kd.at_int (Kd.R_reads' HO_1.out).2.2 ((rd_T67 l0_1 x13_1).f1) p319 q319; obtain rfl : (⟨go13, 0, none⟩ : Addr) = ad319 := (by injection e319); (first | simp only [add_plain] at hx319_0 | simp only [add_at] at hx319_0 | simp only [Addr.add, Nat.zero_add] at hx319_0 | skip); replace p319 := eq_true p319; replace q319 := eq_true q319; have p16 : 0 ≤ (((rd_T67 l0_1 x13_1).f1) : Int) := ofA; have q16 : (((rd_T67 l0_1 x13_1).f1) : Int) < ((x1_1.length : Int) : Int) := ofA; obtain ⟨hx16_0, hf16_0⟩ := Kd.R_celln 0 HO_1.out (((rd_T67 l0_1 x13_1).f1) : Int) p16 q16; replace p16 := eq_true p16; replace q16 := eq_true q16; obtain ⟨hy26_, hz26_⟩ := Kd.R_celln 0 HO_1.out (((rd_T67 l0_1 x13_1).f1) : Int) (ofA) (ofA); have HP26 := Kd.R_putg HO_1.out (((rd_T67 l0_1 x13_1).f1) : Int) (wrap64 ((rd y318 ((rd_T67 l0_1 x13_1).f1)) + a3))) | ((with_reducible refine gate_store (t := 3) (p := 36) rfl ?_); refine store_event (t := 3) (p := 36) (v := ?vo_w27) (w1 := (w24.setCell ⟨go13, (((rd_T67 l0_1 x13_1).f1) : Int).toNat, none⟩ (.int .i64 (wrap64 ((rd y318 ((rd_T67 l0_1 x13_1).f1)) + a3))))) ?hg ?ho ?hn ?hr ?_; (case ho => rfl); (case hg => rfl); (case hn => rfl); (case hr => first | (go_simp; done) | (go_simp; rfl)); intro w27 hw; have hg : w24.grownBy w27 (some go13) := (by rw [hw]; exact HP26.2); have hp_ : Kd.R (Kd.int .i64) 3 w27 w0.heap.size (fun k_ => (P1_ k_ ∨ w.heap.size ≤ k_)) (.slice (some ⟨go13, 0, none⟩) x1_1.length co22) y320 := (by rw [hw, Ny320.out]; exact HP26.1); clear HP26; replace BK314 := Aside0.mk (blk_grown (g := gb314) (o := .cells #[.int .i64 a0_0, .slice (some ad315) l0_1.length c0_1] 31 (0, 0)) (Bz BK314) hg (Kd.R_ne HO_1.out BK314.out (by decide))); replace BK316 := Aside0.mk (blk_grown (g := gb316) (o := .cells #[.int .i64 ((rd_T67 l0_1 x13_1).f0), .int .i64 ((rd_T67 l0_1 x13_1).f1)] 67 (0, 0)) (Bz BK316) hg (Kd.R_ne HO_1.out BK316.out (by decide))); replace HB := Aside0.mk ((by rw [hw]; exact below_set (HB.out) GB13.out : Below w0.heap.size w0 w27)); replace HK := Aside0.mk (Kept.of_grown (S := (fun k_ => P1_ k_)) hg (by repeat (first | (with_reducible first | exact HK.out | apply Kept.alloc | apply Kept.drewN | apply Kept.drew | refine Kept.setCell ?_ (.inr GW314.out) _ | refine Kept.setCell ?_ (.inr GW316.out) _) | exact HK.out)) (fun k_ e_ => (HO_1.out.1 k_ e_))); replace HO_1 := Aside0.mk (hp_); clear hg hw hp_))
           go_roundg k1
           case measure => have := HK1.out; omega
           case rel => exact ⟨(y320), (wrap64 (x13_1 + 1)), eqA, H', ⟨by have := HK1.out; omega⟩, ⟨by exact Rz HO_1⟩, ⟨by exact Bz BK314⟩, ⟨by repeat (first | (with_reducible first | exact HK.out | apply Kept.alloc | apply Kept.drewN | apply Kept.drew | refine Kept.setCell ?_ (.inr GW314.out) _ | refine Kept.setCell ?_ (.inr GW316.out) _) | exact HK.out)⟩, ⟨by exact Lz2 HB GE314 GE316⟩⟩
          rw [if_neg c15] at H
          exact absurd H (by simp)
         rw [if_neg c14] at H
         exact absurd H (by simp)
        rw [if_neg c12] at H
        exact absurd H (by simp)
       rw [if_neg c11] at H
       exact absurd H (by simp)
      rw [if_neg c10] at H
      have c10b0 : (a2 == ((rd_T67 l0_1 x13_1).f0)) = false := beq_eq_false_iff_ne.mpr c10
      have c10b1 : (a2 != ((rd_T67 l0_1 x13_1).f0)) = true := bne_iff_ne.mpr c10
      by_cases c28 : a2 = ((rd_T67 l0_1 x13_1).f1)
      ·rw [if_pos c28] at H
       have c28b0 : (a2 == ((rd_T67 l0_1 x13_1).f1)) = true := beq_iff_eq.mpr c28
       have c28b1 : (a2 != ((rd_T67 l0_1 x13_1).f1)) = false := bne_eq_false_iff_eq.mpr c28
       clear c28
       by_cases c29 : 0 ≤ a2
       ·rw [if_pos c29] at H
        have c29b0 : decide (0 ≤ a2) = true := decide_eq_true c29
        clear c29
        by_cases c30 : a2 < (x1_1.length : Int)
        ·rw [if_pos c30] at H
         have c30b0 : decide (a2 < (x1_1.length : Int)) = true := decide_eq_true c30
         clear c30
         obtain ⟨y322, hy322⟩ : ∃ y_ : List Int, y_ = (x1_1.set (a2 : Int).toNat (wrap64 ((rd x1_1 a2) - a3))) := ⟨_, rfl⟩
         replace H : (if 0 ≤ ((rd_T67 l0_1 x13_1).f0) then (if ((rd_T67 l0_1 x13_1).f0) < (x1_1.length : Int) then (impl_fire.l0 k1 (y322.set (((rd_T67 l0_1 x13_1).f0) : Int).toNat (wrap64 ((rd y322 ((rd_T67 l0_1 x13_1).f0)) + a3))) a2 a3 l0_1 (l0_1.length : Int) (wrap64 (x13_1 + 1))) else (none)) else (none)) = some r := by first | (rw [hy322]; with_reducible exact H) | (have H2_ := (Option.bind_some _ _).symm.trans H; rw [hy322]; with_reducible exact H2_) | (have H2_ := (Option.bind_some _ _).symm.trans H; with_reducible exact H2_) | with_reducible exact H | (rw [hy322]; exact H) | exact H
         have Ny322 := Aside0.mk hy322
         clear hy322
         by_cases c32 : 0 ≤ ((rd_T67 l0_1 x13_1).f0)
         ·rw [if_pos c32] at H
          have c32b0 : decide (0 ≤ ((rd_T67 l0_1 x13_1).f0)) = true := decide_eq_true c32
          clear c32
          by_cases c33 : ((rd_T67 l0_1 x13_1).f0) < (x1_1.length : Int)
          ·rw [if_pos c33] at H
           have c33b0 : decide (((rd_T67 l0_1 x13_1).f0) < (x1_1.length : Int)) = true := decide_eq_true c33
           clear c33
           obtain ⟨y324, hy324⟩ : ∃ y_ : List Int, y_ = (y322.set (((rd_T67 l0_1 x13_1).f0) : Int).toNat (wrap64 ((rd y322 ((rd_T67 l0_1 x13_1).f0)) + a3))) := ⟨_, rfl⟩
           replace H : (impl_fire.l0 k1 y324 a2 a3 l0_1 (l0_1.length : Int) (wrap64 (x13_1 + 1))) = some r := by first | (rw [hy324]; with_reducible exact H) | (have H2_ := (Option.bind_some _ _).symm.trans H; rw [hy324]; with_reducible exact H2_) | (have H2_ := (Option.bind_some _ _).symm.trans H; with_reducible exact H2_) | with_reducible exact H | (rw [hy324]; exact H) | exact H
           have Ny324 := Aside0.mk hy324
           clear hy324
           have H' := Aside0.mk H
           clear H
           have p315 : 0 ≤ (x13_1 : Int) := ofA
           have q315 : x13_1 < (l0_1.length : Int) := ofA
           obtain ⟨ad315, e315, hx315_0, hx315_1⟩ := at_T67 (Kd.C_kept_now HR0_1.out HK.out) x13_1 p315 q315
           cases e315
           replace p315 := eq_true p315
           replace q315 := eq_true q315
           go_wp2_with (first | ((with_reducible refine gate_dst (N := 9) rfl ?_); refine box_event ?hg (N := 9) ?hd (cs := #[.int .i64 0, .int .i64 0]) (t := 67) ?hr ?_; (case hd => rfl); (case hg => rfl); (case hr => first | (go_simp; done) | (go_simp; rfl)); intro gb316 hg w35 hbox hb; replace HO_1 := Aside0.mk (Kd.R_below (Rz HO_1) hb); have BK316 := Aside0.mk (hbox); have GW316 := Aside0.mk ((by rw [hg]; exact (by first | exact HK.out.1 | exact (show Kept w _ (fun k_ => P1_ k_) from by repeat (first | (with_reducible first | exact HK.out | apply Kept.alloc | apply Kept.drewN | apply Kept.drew | refine Kept.setCell ?_ (.inr GW314.out) _) | exact HK.out)).1) : w.heap.size ≤ gb316)); replace HK := Aside0.mk (Kept.below (S := (fun k_ => P1_ k_)) (by repeat (first | (with_reducible first | exact HK.out | apply Kept.alloc | apply Kept.drewN | apply Kept.drew | refine Kept.setCell ?_ (.inr GW314.out) _) | exact HK.out)) hb); have GE316 := Aside0.mk ((by rw [hg]; exact (below_size (by exact Lz1 HB GE314)) : w0.heap.size ≤ gb316)); replace HB := Aside0.mk (below_step (by exact Lz1 HB GE314) hb); have NB314_316 := Aside0.mk ((by rw [hg]; exact Nat.ne_of_lt (blk_lt (g := gb314) (o := .cells #[.int .i64 a0_0, .slice (some ad315) l0_1.length c0_1] 31 (0, 0)) (Bz BK314)) : gb314 ≠ gb316)); have NB316_314 := Aside0.mk ((by rw [hg]; exact Nat.ne_of_gt (blk_lt (g := gb314) (o := .cells #[.int .i64 a0_0, .slice (some ad315) l0_1.length c0_1] 31 (0, 0)) (Bz BK314)) : gb316 ≠ gb314)); replace BK314 := Aside0.mk (blk_below (g := gb314) (o := .cells #[.int .i64 a0_0, .slice (some ad315) l0_1.length c0_1] 31 (0, 0)) (Bz BK314) hb); clear hb hbox hg; have hnb36 := NB316_314.out; have hnc36 := NB314_316.out; have hcz37_0 : w35.cell? ⟨gb316, 0, none⟩ = some (.int .i64 0) := (blk_cell BK316.out 0).trans rfl; have hcz37_1 : w35.cell? ⟨gb316, 1, none⟩ = some (.int .i64 0) := (blk_cell BK316.out 1).trans rfl; have hfz37_0 := blk_frozen BK316.out 0; have hfz37_1 := blk_frozen BK316.out 1) | ((with_reducible refine gate_store (t := 67) (p := 9) rfl ?_); refine store_event (t := 67) (p := 9) (v := ?vo_w38) (w1 := ((w35.setCell ⟨gb316, 0, none⟩ (.int .i64 ((rd_T67 l0_1 x13_1).f0))).setCell ⟨gb316, 1, none⟩ (.int .i64 ((rd_T67 l0_1 x13_1).f1)))) ?hg ?ho ?hn ?hr ?_; (case ho => rfl); (case hg => rfl); (case hn => rfl); (case hr => first | (go_simp; done) | (go_simp; rfl)); intro w38 hw; have n0_ : Aside0 (Kd.R (Kd.int .i64) 3 w38 w0.heap.size (fun k_ => (P1_ k_ ∨ w.heap.size ≤ k_)) u9000_ x1_1) := ⟨(by rw [hw]; exact (by (with_reducible repeat (first | apply Kd.R_alloc | apply Kd.R_drewN | apply Kd.R_drew)); exact Kd.R_mono (Kd.R_far (p := ⟨gb316, 1, none⟩) (Kd.R_far (p := ⟨gb316, 0, none⟩) (Kd.R_types HO_1.out BK316.out (by decide)) (fun _ hk => hk.2) (.int .i64 ((rd_T67 l0_1 x13_1).f0))) (fun _ hk => hk.2) (.int .i64 ((rd_T67 l0_1 x13_1).f1))) (fun _ hk => hk.1)))⟩; have n1_ : Aside0 (w38.heap[gb314]? = some (.cells #[.int .i64 a0_0, .slice (some ad315) l0_1.length c0_1] 31 (0, 0))) := ⟨(by rw [hw]; exact (by (with_reducible repeat (first | refine blk_drewN ?_ _ | refine blk_drew ?_ | refine blk_alloc ?_ _)); refine blk_far ?_ NB314_316.out _; (with_reducible repeat (first | refine blk_drewN ?_ _ | refine blk_drew ?_ | refine blk_alloc ?_ _)); refine blk_far ?_ NB314_316.out _; exact Bz BK314))⟩; have n2_ : Aside0 (w38.heap[gb316]? = some (.cells #[.int .i64 ((rd_T67 l0_1 x13_1).f0), .int .i64 ((rd_T67 l0_1 x13_1).f1)] 67 (0, 0))) := ⟨(by rw [hw]; exact (by (with_reducible repeat (first | refine blk_drewN ?_ _ | refine blk_drew ?_ | refine blk_alloc ?_ _)); refine blk_put (cs := #[.int .i64 ((rd_T67 l0_1 x13_1).f0), .int .i64 0]) ?_ 1 _ rfl; (with_reducible repeat (first | refine blk_drewN ?_ _ | refine blk_drew ?_ | refine blk_alloc ?_ _)); refine blk_put (cs := #[.int .i64 0, .int .i64 0]) ?_ 0 _ rfl; exact Bz BK316))⟩; have n3_ : Aside0 (Kept w w38 (fun k_ => P1_ k_)) := ⟨(by rw [hw]; exact (by repeat (first | (with_reducible first | exact HK.out | apply Kept.alloc | apply Kept.drewN | apply Kept.drew | refine Kept.setCell ?_ (.inr GW314.out) _ | refine Kept.setCell ?_ (.inr GW316.out) _) | exact HK.out)))⟩; have n4_ : Aside0 (Below w0.heap.size w0 w38) := ⟨(by rw [hw]; exact (by exact Lz2 HB GE314 GE316))⟩; clear hw; clear HO_1; clear BK314; clear BK316; clear HK; clear HB; have HO_1 := n0_; have BK314 := n1_; have BK316 := n2_; have HK := n3_; have HB := n4_; clear n0_ n1_ n2_ n3_ n4_; have hcz39_0 : w38.cell? ⟨gb316, 0, none⟩ = some (.int .i64 ((rd_T67 l0_1 x13_1).f0)) := (blk_cell BK316.out 0).trans rfl; have hcz39_1 : w38.cell? ⟨gb316, 1, none⟩ = some (.int .i64 ((rd_T67 l0_1 x13_1).f1)) := (blk_cell BK316.out 1).trans rfl; have hfz39_0 := blk_frozen BK316.out 0; have hfz39_1 := blk_frozen BK316.out 1; obtain ⟨Ao40, co40, eo40⟩ := Kd.R_slice HO_1.out; subst eo40; have p321 : 0 ≤ (a2 : Int) := ofA; have q321 : a2 < (x1_1.length : Int) := ofA; obtain ⟨ad321, e321, hx321_0⟩ := Kd.at_int (Kd.R_reads' HO_1.out).2.2 a2 p321 q321; cases e321; replace p321 := eq_true p321; replace q321 := eq_true q321; have p31 : 0 ≤ (a2 : Int) := ofA; have q31 : (a2 : Int) < ((x1_1.length : Int) : Int) := ofA; obtain ⟨go31, co31, eo31, gb31, gl31, cl31, HG31⟩ := Kd.R_form HO_1.out (by omega); (first | cases eo31 | (injection eo31 with ea_ en_ ec_; (first | subst ea_ | (injection ea_ with ea_; subst ea_)); subst ec_; clear en_)); have GB31 := Aside0.mk gb31; have GG31 := Aside0.mk HG31; clear gb31 gl31 HG31; have HMgo31 := Aside0.mk (show (P1_ go31 ∨ w.heap.size ≤ go31) from (HO_1.out.1 _ rfl)); (first | simp only [add_plain] at hx321_0 | skip); obtain ⟨hx31_0, hf31_0⟩ := Kd.R_celln 0 HO_1.out (a2 : Int) p31 q31; replace p31 := eq_true p31; replace q31 := eq_true q31; obtain ⟨hy41_, hz41_⟩ := Kd.R_celln 0 HO_1.out (a2 : Int) (ofA) (ofA); have HP41 := Kd.R_putg HO_1.out (a2 : Int) (wrap64 ((rd x1_1 a2) - a3))) | ((with_reducible refine gate_store (t := 3) (p := 47) rfl ?_); refine store_event (t := 3) (p := 47) (v := ?vo_w42) (w1 := (w38.setCell ⟨go31, (a2 : Int).toNat, none⟩ (.int .i64 (wrap64 ((rd x1_1 a2) - a3))))) ?hg ?ho ?hn ?hr ?_; (case ho => rfl); (case hg => rfl); (case hn => rfl); (case hr => first | (go_simp; done) | (go_simp; rfl)); intro w42 hw; have hg : w38.grownBy w42 (some go31) := (by rw [hw]; exact HP41.2); have hp_ : Kd.R (Kd.int .i64) 3 w42 w0.heap.size (fun k_ => (P1_ k_ ∨ w.heap.size ≤ k_)) (.slice (some ⟨go31, 0, none⟩) x1_1.length co40) y322 := (by rw [hw, Ny322.out]; exact HP41.1); clear HP41; replace BK314 := Aside0.mk (blk_grown (g := gb314) (o := .cells #[.int .i64 a0_0, .slice (some ad315) l0_1.length c0_1] 31 (0, 0)) (Bz BK314) hg (Kd.R_ne HO_1.out BK314.out (by decide))); replace BK316 := Aside0.mk (blk_grown (g := gb316) (o := .cells #[.int .i64 ((rd_T67 l0_1 x13_1).f0), .int .i64 ((rd_T67 l0_1 x13_1).f1)] 67 (0, 0)) (Bz BK316) hg (Kd.R_ne HO_1.out BK316.out (by decide))); replace HB := Aside0.mk ((by rw [hw]; exact below_set (HB.out) GB31.out : Below w0.heap.size w0 w42)); replace HK := Aside0.mk (Kept.of_grown (S := (fun k_ => P1_ k_)) hg (by repeat (first | (with_reducible first | exact HK.out | apply Kept.alloc | apply Kept.drewN | apply Kept.drew | refine Kept.setCell ?_ (.inr GW314.out) _ | refine Kept.setCell ?_ (.inr GW316.out) _) | exact HK.out)) (fun k_ e_ => (HO_1.out.1 k_ e_))); replace HO_1 := Aside0.mk (hp_); clear hg hw hp_; have hcz43_0 : w42.cell? ⟨gb316, 0, none⟩ = some (.int .i64 ((rd_T67 l0_1 x13_1).f0)) := (blk_cell BK316.out 0).trans rfl; have hcz43_1 : w42.cell? ⟨gb316, 1, none⟩ = some (.int .i64 ((rd_T67 l0_1 x13_1).f1)) := (blk_cell BK316.out 1).trans rfl; have hfz43_0 := blk_frozen BK316.out 0; have hfz43_1 := blk_frozen BK316.out 1; have p323 : 0 ≤ (((rd_T67 l0_1 x13_1).f0) : Int) := ofA; have q323 : ((rd_T67 l0_1 x13_1).f0) < (y322.length : Int) := (by have h_ : (((rd_T67 l0_1 x13_1).f0) : Int) < ((x1_1.length : Int) : Int) := ofA; first | (have e_ := (Kd.R_reads' HO_1.out).1; omega) | simpa only [Ny322.out, List.length_set] using h_); have ql323 : ((((rd_T67 l0_1 x13_1).f0) : Int) < ((x1_1.length : Int) : Int)) = True := eq_true (ofA); obtain ⟨ad323, e323, hx323_0⟩ := Kd.at_int (Kd.R_reads' HO_1.out).2.2 ((rd_T67 l0_1 x13_1).f0) p323 q323; obtain rfl : (⟨go31, 0, none⟩ : Addr) = ad323 := (by injection e323); (first | simp only [add_plain] at hx323_0 | simp only [add_at] at hx323_0 | simp only [Addr.add, Nat.zero_add] at hx323_0 | skip); replace p323 := eq_true p323; replace q323 := eq_true q323; have p34 : 0 ≤ (((rd_T67 l0_1 x13_1).f0) : Int) := ofA; have q34 : (((rd_T67 l0_1 x13_1).f0) : Int) < ((x1_1.length : Int) : Int) := ofA; obtain ⟨hx34_0, hf34_0⟩ := Kd.R_celln 0 HO_1.out (((rd_T67 l0_1 x13_1).f0) : Int) p34 q34; replace p34 := eq_true p34; replace q34 := eq_true q34; obtain ⟨hy44_, hz44_⟩ := Kd.R_celln 0 HO_1.out (((rd_T67 l0_1 x13_1).f0) : Int) (ofA) (ofA); have HP44 := Kd.R_putg HO_1.out (((rd_T67 l0_1 x13_1).f0) : Int) (wrap64 ((rd y322 ((rd_T67 l0_1 x13_1).f0)) + a3))) | ((with_reducible refine gate_store (t := 3) (p := 55) rfl ?_); refine store_event (t := 3) (p := 55) (v := ?vo_w45) (w1 := (w42.setCell ⟨go31, (((rd_T67 l0_1 x13_1).f0) : Int).toNat, none⟩ (.int .i64 (wrap64 ((rd y322 ((rd_T67 l0_1 x13_1).f0)) + a3))))) ?hg ?ho ?hn ?hr ?_; (case ho => rfl); (case hg => rfl); (case hn => rfl); (case hr => first | (go_simp; done) | (go_simp; rfl)); intro w45 hw; have hg : w42.grownBy w45 (some go31) := (by rw [hw]; exact HP44.2); have hp_ : Kd.R (Kd.int .i64) 3 w45 w0.heap.size (fun k_ => (P1_ k_ ∨ w.heap.size ≤ k_)) (.slice (some ⟨go31, 0, none⟩) x1_1.length co40) y324 := (by rw [hw, Ny324.out]; exact HP44.1); clear HP44; replace BK314 := Aside0.mk (blk_grown (g := gb314) (o := .cells #[.int .i64 a0_0, .slice (some ad315) l0_1.length c0_1] 31 (0, 0)) (Bz BK314) hg (Kd.R_ne HO_1.out BK314.out (by decide))); replace BK316 := Aside0.mk (blk_grown (g := gb316) (o := .cells #[.int .i64 ((rd_T67 l0_1 x13_1).f0), .int .i64 ((rd_T67 l0_1 x13_1).f1)] 67 (0, 0)) (Bz BK316) hg (Kd.R_ne HO_1.out BK316.out (by decide))); replace HB := Aside0.mk ((by rw [hw]; exact below_set (HB.out) GB31.out : Below w0.heap.size w0 w45)); replace HK := Aside0.mk (Kept.of_grown (S := (fun k_ => P1_ k_)) hg (by repeat (first | (with_reducible first | exact HK.out | apply Kept.alloc | apply Kept.drewN | apply Kept.drew | refine Kept.setCell ?_ (.inr GW314.out) _ | refine Kept.setCell ?_ (.inr GW316.out) _) | exact HK.out)) (fun k_ e_ => (HO_1.out.1 k_ e_))); replace HO_1 := Aside0.mk (hp_); clear hg hw hp_))
           go_roundg k1
           case measure => have := HK1.out; omega
           case rel => exact ⟨(y324), (wrap64 (x13_1 + 1)), eqA, H', ⟨by have := HK1.out; omega⟩, ⟨by exact Rz HO_1⟩, ⟨by exact Bz BK314⟩, ⟨by repeat (first | (with_reducible first | exact HK.out | apply Kept.alloc | apply Kept.drewN | apply Kept.drew | refine Kept.setCell ?_ (.inr GW314.out) _ | refine Kept.setCell ?_ (.inr GW316.out) _) | exact HK.out)⟩, ⟨by exact Lz2 HB GE314 GE316⟩⟩
          rw [if_neg c33] at H
          exact absurd H (by simp)
         rw [if_neg c32] at H
         exact absurd H (by simp)
        rw [if_neg c30] at H
        exact absurd H (by simp)
       rw [if_neg c29] at H
       exact absurd H (by simp)
      rw [if_neg c28] at H
      have c28b0 : (a2 == ((rd_T67 l0_1 x13_1).f1)) = false := beq_eq_false_iff_ne.mpr c28
      have c28b1 : (a2 != ((rd_T67 l0_1 x13_1).f1)) = true := bne_iff_ne.mpr c28
      have H' := Aside0.mk H
      clear H
      have p315 : 0 ≤ (x13_1 : Int) := ofA
      have q315 : x13_1 < (l0_1.length : Int) := ofA
      obtain ⟨ad315, e315, hx315_0, hx315_1⟩ := at_T67 (Kd.C_kept_now HR0_1.out HK.out) x13_1 p315 q315
      cases e315
      replace p315 := eq_true p315
      replace q315 := eq_true q315
      go_wp2_with (first | ((with_reducible refine gate_dst (N := 9) rfl ?_); refine box_event ?hg (N := 9) ?hd (cs := #[.int .i64 0, .int .i64 0]) (t := 67) ?hr ?_; (case hd => rfl); (case hg => rfl); (case hr => first | (go_simp; done) | (go_simp; rfl)); intro gb316 hg w46 hbox hb; replace HO_1 := Aside0.mk (Kd.R_below (Rz HO_1) hb); have BK316 := Aside0.mk (hbox); have GW316 := Aside0.mk ((by rw [hg]; exact (by first | exact HK.out.1 | exact (show Kept w _ (fun k_ => P1_ k_) from by repeat (first | (with_reducible first | exact HK.out | apply Kept.alloc | apply Kept.drewN | apply Kept.drew | refine Kept.setCell ?_ (.inr GW314.out) _) | exact HK.out)).1) : w.heap.size ≤ gb316)); replace HK := Aside0.mk (Kept.below (S := (fun k_ => P1_ k_)) (by repeat (first | (with_reducible first | exact HK.out | apply Kept.alloc | apply Kept.drewN | apply Kept.drew | refine Kept.setCell ?_ (.inr GW314.out) _) | exact HK.out)) hb); have GE316 := Aside0.mk ((by rw [hg]; exact (below_size (by exact Lz1 HB GE314)) : w0.heap.size ≤ gb316)); replace HB := Aside0.mk (below_step (by exact Lz1 HB GE314) hb); have NB314_316 := Aside0.mk ((by rw [hg]; exact Nat.ne_of_lt (blk_lt (g := gb314) (o := .cells #[.int .i64 a0_0, .slice (some ad315) l0_1.length c0_1] 31 (0, 0)) (Bz BK314)) : gb314 ≠ gb316)); have NB316_314 := Aside0.mk ((by rw [hg]; exact Nat.ne_of_gt (blk_lt (g := gb314) (o := .cells #[.int .i64 a0_0, .slice (some ad315) l0_1.length c0_1] 31 (0, 0)) (Bz BK314)) : gb316 ≠ gb314)); replace BK314 := Aside0.mk (blk_below (g := gb314) (o := .cells #[.int .i64 a0_0, .slice (some ad315) l0_1.length c0_1] 31 (0, 0)) (Bz BK314) hb); clear hb hbox hg; have hnb47 := NB316_314.out; have hnc47 := NB314_316.out; have hcz48_0 : w46.cell? ⟨gb316, 0, none⟩ = some (.int .i64 0) := (blk_cell BK316.out 0).trans rfl; have hcz48_1 : w46.cell? ⟨gb316, 1, none⟩ = some (.int .i64 0) := (blk_cell BK316.out 1).trans rfl; have hfz48_0 := blk_frozen BK316.out 0; have hfz48_1 := blk_frozen BK316.out 1))
      go_roundg k1
      case measure => have := HK1.out; omega
      case rel => exact ⟨(x1_1), (wrap64 (x13_1 + 1)), eqA, H', ⟨by have := HK1.out; omega⟩, ⟨by (with_reducible repeat (first | apply Kd.R_alloc | apply Kd.R_drewN | apply Kd.R_drew)); exact Kd.R_mono (Kd.R_far (p := ⟨gb316, 1, none⟩) (Kd.R_far (p := ⟨gb316, 0, none⟩) (Kd.R_types HO_1.out BK316.out (by decide)) (fun _ hk => hk.2) (.int .i64 ((rd_T67 l0_1 x13_1).f0))) (fun _ hk => hk.2) (.int .i64 ((rd_T67 l0_1 x13_1).f1))) (fun _ hk => hk.1)⟩, ⟨by (with_reducible repeat (first | refine blk_drewN ?_ _ | refine blk_drew ?_ | refine blk_alloc ?_ _)); refine blk_far ?_ NB314_316.out _; (with_reducible repeat (first | refine blk_drewN ?_ _ | refine blk_drew ?_ | refine blk_alloc ?_ _)); refine blk_far ?_ NB314_316.out _; exact Bz BK314⟩, ⟨by repeat (first | (with_reducible first | exact HK.out | apply Kept.alloc | apply Kept.drewN | apply Kept.drew | refine Kept.setCell ?_ (.inr GW314.out) _ | refine Kept.setCell ?_ (.inr GW316.out) _) | exact HK.out)⟩, ⟨by exact Lz2 HB GE314 GE316⟩⟩
     rw [if_neg c9] at H
     exact absurd H (by simp)
    rw [if_neg c8] at H
    exact absurd H (by simp)
   rw [if_neg c7] at H
   have c7b0 : decide (x13_1 < (l0_1.length : Int)) = false := decide_eq_false c7
   clear c7
   obtain rfl := Option.some.inj H
   go_wp2
   first | go_end0 | ((try simp only [Exit.inBlock, Exit.then]); refine bodyPost_ret (results_none rfl _ _ _) rfl ?_)
   exact ⟨by first | rfl | (simp [errW_none, errW_some] <;> rfl) | (simp [*, errW_none, errW_some] <;> rfl), by exact Rz HO_1, by exact Lz1 HB GE314, by repeat (first | (with_reducible first | exact HK.out | apply Kept.alloc | apply Kept.drewN | apply Kept.drew | refine Kept.setCell ?_ (.inr GW314.out) _) | exact HK.out)⟩
mutual
def impl_reduce.l0 : Nat → Int → List Int → List Int → Int → Int → List (S67) → Option (List Int × List Int)
 | 0, _, _, _, _, _, _ => none
 | k + 1, x2, x8, x9, x10, x326000, x326001 => if x10 ≥ 0 then ((impl_Valence.f k x326000 x326001 x10).bind fun t333 => (if 0 ≤ x10 then (if x10 < (x8.length : Int) then (if t333 = 0 then (none) else ((impl_fire.f k x326000 x326001 x8 x10 (wrap64 (-(wrap64 (Int.tdiv (wrap64 ((wrap64 (t333 - 1)) - (rd x8 x10))) t333))))).bind fun t335 => (if x10 < (x9.length : Int) then ((impl_inDebt.f k t335 x2).bind fun t338 => (impl_reduce.l0 k x2 t335 (x9.set (x10 : Int).toNat (wrap64 ((rd x9 x10) - (wrap64 (Int.tdiv (wrap64 ((wrap64 (t333 - 1)) - (rd x8 x10))) t333))))) t338 x326000 x326001)) else (none)))) else (none)) else (none))) else (impl_reduce.l1 k x2 x8 x9 x326000 x326001)
def impl_reduce.l1 : Nat → Int → List Int → List Int → Int → List (S67) → Option (List Int × List Int)
 | 0, _, _, _, _, _ => none
 | k + 1, x2, x8, x9, x326000, x326001 => (impl_burn.f k x326000 x326001 x8 x2).bind fun t339 => (if (t339.length : Int) = x326000 then (some (x8, x9)) else (impl_reduce.l2 k x2 x8 x9 t339 (x9.length : Int) 0 x326000 x326001))
def impl_reduce.l2 : Nat → Int → List Int → List Int → List Int → Int → Int → Int → List (S67) → Option (List Int × List Int)
 | 0, _, _, _, _, _, _, _, _ => none
 | k + 1, x2, x8, x9, x13, x65, x66, x326000, x326001 => if x66 < x65 then ((slices_Contains_int_int.f k x13 x66).bind fun t342 => (if t342 = true then (impl_reduce.l2 k x2 x8 x9 x13 x65 (wrap64 (x66 + 1)) x326000 x326001) else ((impl_fire.f k x326000 x326001 x8 x66 1).bind fun t343 => (if 0 ≤ x66 then (if x66 < (x9.length : Int) then (impl_reduce.l2 k x2 t343 (x9.set (x66 : Int).toNat (wrap64 ((rd x9 x66) + 1))) x13 x65 (wrap64 (x66 + 1)) x326000 x326001) else (none)) else (none))))) else (impl_reduce.l1 k x2 x8 x9 x326000 x326001)
end
def impl_reduce.f (k : Nat) (a0_0 : Int) (l0_1 : List (S67)) (l1 : List Int) (a2 : Int) : Option (List Int × List Int) := (impl_copyInts.f l1).bind fun t326 => (if 0 ≤ a0_0 then (if (a0_0 : Int).toNat ≤ 35184372088832 then ((impl_inDebt.f k t326 a2).bind fun t332 => (impl_reduce.l0 k a2 t326 (List.replicate (a0_0 : Int).toNat 0) t332 a0_0 l0_1)) else (none)) else (none))
set_option maxHeartbeats 8000000 in
set_option maxRecDepth 100000 in
theorem impl_reduce.calls (k : Nat) (a0_0 : Int) (A0_1 : Option Addr) (c0_1 : Nat) (l0_1 : List (S67)) (A1 : Option Addr) (c1 : Nat) (l1 : List Int) (a2 : Int) (r1 : List Int) (r2 : List Int) (w : World) (hr0_1 : Kd.C k67 w A0_1 l0_1.length l0_1) (hc0_1 : l0_1.length ≤ c0_1) (hr1 : Kd.C (Kd.int .i64) w A1 l1.length l1) (hc1 : l1.length ≤ c1) (h : impl_reduce.f k a0_0 l0_1 l1 a2 = some (r1, r2)) :
  Calls Try.prog 60 #[.agg #[.int .i64 a0_0, .slice A0_1 l0_1.length c0_1], .slice A1 l1.length c1, .int .i64 a2] w fun e w' => ∃ v0_ v1_ : Value, e = .returned (.tuple #[v0_, v1_]) ∧ Kd.R (Kd.int .i64) 3 w' w.heap.size (fun k_ => some k_ ≠ (v1_ : Value).ownBlock) v0_ r1 ∧ Kd.R (Kd.int .i64) 3 w' w.heap.size (fun k_ => some k_ ≠ (v0_ : Value).ownBlock) v1_ r2 ∧ Below w.heap.size w w' := by
 have hu31 := Try.underlying31
 have HR0_1 := Aside0.mk hr0_1
 have HC0_1 := Aside0.mk hc0_1
 clear hr0_1 hc0_1
 have HR1 := Aside0.mk hr1
 have HC1 := Aside0.mk hc1
 clear hr1 hc1
 have HB := Aside0.mk (Below.refl w.heap.size w)
 have H : ((impl_copyInts.f l1).bind fun t326 => (if 0 ≤ a0_0 then (if (a0_0 : Int).toNat ≤ 35184372088832 then ((impl_inDebt.f k t326 a2).bind fun t332 => (impl_reduce.l0 k a2 t326 (List.replicate (a0_0 : Int).toNat 0) t332 a0_0 l0_1)) else (none)) else (none))) = some (r1, r2) := h
 clear h
 replace H := Option.bind_eq_some_iff.mp H
 obtain ⟨t326, A40, H⟩ := H
 replace H : (if 0 ≤ a0_0 then (if (a0_0 : Int).toNat ≤ 35184372088832 then ((impl_inDebt.f k t326 a2).bind fun t332 => (impl_reduce.l0 k a2 t326 (List.replicate (a0_0 : Int).toNat 0) t332 a0_0 l0_1)) else (none)) else (none)) = some (r1, r2) := H
 have A4 := Aside0.mk A40
 clear A40
 by_cases c5 : 0 ≤ a0_0
 ·rw [if_pos c5] at H
  have c5b0 := eq_true c5
  have c5b1 : decide (0 ≤ a0_0) = true := decide_eq_true c5
  clear c5
  by_cases c6 : (a0_0 : Int).toNat ≤ 35184372088832
  ·rw [if_pos c6] at H
   have c6b0 := eq_true c6
   have c6b1 : decide ((a0_0 : Int).toNat ≤ 35184372088832) = true := decide_eq_true c6
   clear c6
   obtain ⟨y329, hy329⟩ : ∃ y_ : List Int, y_ = (List.replicate (a0_0 : Int).toNat 0) := ⟨_, rfl⟩
   replace H : ((impl_inDebt.f k t326 a2).bind fun t332 => (impl_reduce.l0 k a2 t326 y329 t332 a0_0 l0_1)) = some (r1, r2) := by first | (rw [hy329]; with_reducible exact H) | (have H2_ := (Option.bind_some _ _).symm.trans H; rw [hy329]; with_reducible exact H2_) | (have H2_ := (Option.bind_some _ _).symm.trans H; with_reducible exact H2_) | with_reducible exact H | (rw [hy329]; exact H) | exact H
   have Ny329 := Aside0.mk hy329
   clear hy329
   replace H := Option.bind_eq_some_iff.mp H
   obtain ⟨t332, A70, H⟩ := H
   replace H : (impl_reduce.l0 k a2 t326 y329 t332 a0_0 l0_1) = some (r1, r2) := H
   have A7 := Aside0.mk A70
   clear A70
   have H' := Aside0.mk H
   clear H
   go_enter Try.func60, Try.ntmps60
   go_wp2_with (first | ((with_reducible refine gate_dst (N := 3) rfl ?_); refine box_event ?hg (N := 3) ?hd (cs := #[.int .i64 a0_0, .slice A0_1 l0_1.length c0_1]) (t := 31) ?hr ?_; (case hd => rfl); (case hg => rfl); (case hr => first | (go_simp; done) | (go_simp; rfl)); intro gb325 hg w8 hbox hb; have BK325 := Aside0.mk (hbox); have GW325 := Aside0.mk ((by rw [hg]; exact (below_size (Lz HB)) : w.heap.size ≤ gb325)); have GE325 := Aside0.mk ((by rw [hg]; exact (below_size (Lz HB)) : w.heap.size ≤ gb325)); replace HB := Aside0.mk (below_step (Lz HB) hb); clear hb hbox hg) | ((with_reducible refine gate_callee (f := 79) rfl ?_); refine goesM_ (some 16) rfl rfl Try.func79 (by kernel_rfl) rfl #[.slice A1 l1.length c1] rfl ?_; (with_reducible refine (impl_copyInts.calls _ _ l1 t326 _ ?side1 ?side2 A4.out).mono ?_); (case side1 => exact Cz ((Kd.C_below HR1.out HB.out))); (case side2 => exact HC1.out); rintro e w9 ⟨v327, rfl, ho0, hb⟩; refine ⟨_, rfl, ?_⟩; have HO328 := Aside0.mk (Kd.R_lower ho0 (below_size (by exact Lz1 HB GE325))); replace BK325 := Aside0.mk (blk_below (g := gb325) (o := .cells #[.int .i64 a0_0, .slice A0_1 l0_1.length c0_1] 31 (0, 0)) (Bz BK325) hb); replace HB := Aside0.mk (below_step (by exact Lz1 HB GE325) hb); (try clear hb); (try clear ho0); have hcz10_0 : w9.cell? ⟨gb325, 0, none⟩ = some (.int .i64 a0_0) := (blk_cell BK325.out 0).trans rfl; have hcz10_1 : w9.cell? ⟨gb325, 1, none⟩ = some (.slice A0_1 l0_1.length c0_1) := (blk_cell BK325.out 1).trans rfl; have hfz10_0 := blk_frozen BK325.out 0; have hfz10_1 := blk_frozen BK325.out 1) | ((with_reducible refine gate_dst (N := 19) rfl ?_); refine Kd.R_make (Kd.int .i64) _ 3 rfl (N := 19) rfl 25 _ _ rfl a0_0 rfl rfl Try.underlying25 (.int .i64 0) 8 info3 rfl (by decide) (by omega) 0 (ok := fun _ => True) (okp := fun _ => True) rfl (fun _ hk => hk) trivial (ofA) (Nat.le_trans (Nat.mul_le_mul_right _ (ofA : a0_0.toNat ≤ 35184372088832)) (by omega)) (Below.refl _ _) (Nat.le_refl _) ?_; intro v330 w11 ho12 hb hg_ hnew_; clear hg_ hnew_; (first | rw [← Ny329.out] at ho12 | (simp only [Int.reduceToNat] at ho12; rw [← Ny329.out] at ho12)); have HO331 := Aside0.mk (Kd.R_lower (Kd.R_new' ho12 (Kd.R_lt (Rz HO328))) (below_size (by exact Lz1 HB GE325))); replace HO328 := Aside0.mk (Kd.R_elder' (Rz HO328) (Kd.R_base ho12) hb); replace BK325 := Aside0.mk (blk_below (g := gb325) (o := .cells #[.int .i64 a0_0, .slice A0_1 l0_1.length c0_1] 31 (0, 0)) (Bz BK325) hb); replace HB := Aside0.mk (below_step (by exact Lz1 HB GE325) hb); clear hb ho12; obtain ⟨Ao13, co13, eo13⟩ := Kd.R_slice HO328.out; subst eo13) | ((with_reducible refine gate_callee (f := 74) rfl ?_); refine goesM_ (some 22) rfl rfl Try.func74 (by kernel_rfl) rfl #[.slice Ao13 t326.length co13, .int .i64 a2] rfl ?_; (with_reducible refine (impl_inDebt.calls k _ _ t326 a2 t332 _ ?side1 ?side2 A7.out).mono ?_); (case side1 => exact Cz ((Kd.R_reads' HO328.out).2.2)); (case side2 => exact (Kd.R_reads' HO328.out).2.1); rintro e w' ⟨rfl, ⟨nd, rfl⟩⟩; refine ⟨_, rfl, ?_⟩))
   go_loopg [10] k (fun kq v10 w' => ∃ (x8_1 : List Int) (x9_1 : List Int) (x10_1 : Int), v10 = .int .i64 x10_1 ∧ Aside0 (impl_reduce.l0 kq a2 x8_1 x9_1 x10_1 a0_0 l0_1 = some (r1, r2)) ∧ Aside0 (kq ≤ k) ∧ Aside0 (Kd.R (Kd.int .i64) 3 w' w.heap.size (fun k_ => some k_ ≠ (v330 : Value).ownBlock) (.slice Ao13 t326.length co13) x8_1) ∧ Aside0 (Kd.R (Kd.int .i64) 3 w' w.heap.size (fun k_ => some k_ ≠ ((.slice Ao13 t326.length co13) : Value).ownBlock) v330 x9_1) ∧ Aside0 (w'.heap[gb325]? = some (.cells #[.int .i64 a0_0, (.slice A0_1 l0_1.length c0_1)] 31 (0, 0))) ∧ Aside0 (Below w.heap.size w w'))
   case atStart => exact ⟨(t326), (y329), (t332), eqA, H', ⟨Nat.le_refl _⟩, ⟨by (with_reducible repeat (first | apply Kd.R_alloc | apply Kd.R_drewN | apply Kd.R_drew)); exact Kd.R_mono HO328.out (fun _ hk => hk.2)⟩, ⟨by (with_reducible repeat (first | apply Kd.R_alloc | apply Kd.R_drewN | apply Kd.R_drew)); exact Kd.R_mono HO331.out (fun _ hk => hk.2)⟩, ⟨by exact Bz BK325⟩, ⟨by exact Lz1 HB GE325⟩⟩
   case round =>
    clear H'
    try clear c1
    try clear c5
    try clear c5b0
    try clear c5b1
    try clear c6
    try clear c6b0
    try clear c6b1
    obtain ⟨x8_1, x9_1, x10_1, rfl, HA, HK1, HO_8, HO_9, BK325, HB⟩ := hrel
    have hl8_1 := (Kd.R_reads' HO_8.out).1
    rw [hl8_1] at HO_8
    (try simp only [hl8_1])
    (try simp only [hl8_1] at BK325)
    (try simp only [hl8_1] at HO_9)
    cases gk with
    | zero => exact absurd HA.out (by simp [impl_reduce.l0])
    | succ k1 =>
     have H := HA.out
     clear HA
     simp only [impl_reduce.l0] at H
     by_cases c14 : x10_1 ≥ 0
     ·rw [if_pos c14] at H
      have c14b0 : decide (0 ≤ x10_1) = true := decide_eq_true c14
      clear c14
      replace H := Option.bind_eq_some_iff.mp H
      obtain ⟨t333, A150, H⟩ := H
      replace H : (if 0 ≤ x10_1 then (if x10_1 < (x8_1.length : Int) then (if t333 = 0 then (none) else ((impl_fire.f k1 a0_0 l0_1 x8_1 x10_1 (wrap64 (-(wrap64 (Int.tdiv (wrap64 ((wrap64 (t333 - 1)) - (rd x8_1 x10_1))) t333))))).bind fun t335 => (if x10_1 < (x9_1.length : Int) then ((impl_inDebt.f k1 t335 a2).bind fun t338 => (impl_reduce.l0 k1 a2 t335 (x9_1.set (x10_1 : Int).toNat (wrap64 ((rd x9_1 x10_1) - (wrap64 (Int.tdiv (wrap64 ((wrap64 (t333 - 1)) - (rd x8_1 x10_1))) t333))))) t338 a0_0 l0_1)) else (none)))) else (none)) else (none)) = some (r1, r2) := H
      have A15 := Aside0.mk A150
      clear A150
      by_cases c16 : 0 ≤ x10_1
      ·rw [if_pos c16] at H
       have c16b0 : decide (0 ≤ x10_1) = true := decide_eq_true c16
       clear c16
       by_cases c17 : x10_1 < (x8_1.length : Int)
       ·rw [if_pos c17] at H
        have c17b0 : decide (x10_1 < (x8_1.length : Int)) = true := decide_eq_true c17
        (try simp only [hl8_1, hl8_2, hl8_3, hl9_3] at c17b0)
        clear c17
        by_cases c18 : t333 = 0
        ·rw [if_pos c18] at H
         exact absurd H (by simp)
        rw [if_neg c18] at H
        have c18b0 : (t333 == 0) = false := beq_eq_false_iff_ne.mpr c18
        have c18b1 : (t333 != 0) = true := bne_iff_ne.mpr c18
        replace H := Option.bind_eq_some_iff.mp H
        obtain ⟨t335, A190, H⟩ := H
        replace H : (if x10_1 < (x9_1.length : Int) then ((impl_inDebt.f k1 t335 a2).bind fun t338 => (impl_reduce.l0 k1 a2 t335 (x9_1.set (x10_1 : Int).toNat (wrap64 ((rd x9_1 x10_1) - (wrap64 (Int.tdiv (wrap64 ((wrap64 (t333 - 1)) - (rd x8_1 x10_1))) t333))))) t338 a0_0 l0_1)) else (none)) = some (r1, r2) := H
        have A19 := Aside0.mk A190
        clear A190
        by_cases c20 : x10_1 < (x9_1.length : Int)
        ·rw [if_pos c20] at H
         have c20b0 : decide (x10_1 < (x9_1.length : Int)) = true := decide_eq_true c20
         (try simp only [hl8_1, hl8_2, hl8_3, hl9_3] at c20b0)
         clear c20
         obtain ⟨y337, hy337⟩ : ∃ y_ : List Int, y_ = (x9_1.set (x10_1 : Int).toNat (wrap64 ((rd x9_1 x10_1) - (wrap64 (Int.tdiv (wrap64 ((wrap64 (t333 - 1)) - (rd x8_1 x10_1))) t333))))) := ⟨_, rfl⟩
         replace H : ((impl_inDebt.f k1 t335 a2).bind fun t338 => (impl_reduce.l0 k1 a2 t335 y337 t338 a0_0 l0_1)) = some (r1, r2) := by first | (rw [hy337]; with_reducible exact H) | (have H2_ := (Option.bind_some _ _).symm.trans H; rw [hy337]; with_reducible exact H2_) | (have H2_ := (Option.bind_some _ _).symm.trans H; with_reducible exact H2_) | with_reducible exact H | (rw [hy337]; exact H) | exact H
         have Ny337 := Aside0.mk hy337
         clear hy337
         replace H := Option.bind_eq_some_iff.mp H
         obtain ⟨t338, A220, H⟩ := H
         replace H : (impl_reduce.l0 k1 a2 t335 y337 t338 a0_0 l0_1) = some (r1, r2) := H
         have A22 := Aside0.mk A220
         clear A220
         have H' := Aside0.mk H
         clear H
         have hcz23_0 : wr.cell? ⟨gb325, 0, none⟩ = some (.int .i64 a0_0) := (blk_cell BK325.out 0).trans rfl
         have hcz23_1 : wr.cell? ⟨gb325, 1, none⟩ = some (.slice A0_1 l0_1.length c0_1) := (blk_cell BK325.out 1).trans rfl
         have hfz23_0 := blk_frozen BK325.out 0
         have hfz23_1 := blk_frozen BK325.out 1
         go_wp2_with (first | ((with_reducible refine gate_callee (f := 47) rfl ?_); refine goesM_ (some 30) rfl rfl Try.func47 (by kernel_rfl) rfl #[.agg #[.int .i64 a0_0, .slice A0_1 l0_1.length c0_1], .int .i64 x10_1] rfl ?_; (with_reducible refine (impl_Valence.calls k1 a0_0 _ _ l0_1 x10_1 t333 _ ?side1 ?side2 A15.out).mono ?_); (case side1 => exact Cz ((Kd.C_below HR0_1.out HB.out))); (case side2 => exact HC0_1.out); rintro e w24 ⟨rfl, hb⟩; refine ⟨_, rfl, ?_⟩; replace HO_8 := Aside0.mk (Kd.R_below (Rz HO_8) hb); replace HO_9 := Aside0.mk (Kd.R_below (Rz HO_9) hb); replace BK325 := Aside0.mk (blk_below (g := gb325) (o := .cells #[.int .i64 a0_0, .slice A0_1 l0_1.length c0_1] 31 (0, 0)) (Bz BK325) hb); replace HB := Aside0.mk (below_step (by exact Lz1 HB GE325) hb); (try clear hb); (try clear hb2); (try clear hk); (try clear hi); have p334 : 0 ≤ (x10_1 : Int) := ofA; have q334 : x10_1 < (x8_1.length : Int) := ofA; obtain ⟨ad334, e334, hx334_0⟩ := Kd.at_int (Kd.R_reads' HO_8.out).2.2 x10_1 p334 q334; cases e334; replace p334 := eq_true p334; replace q334 := eq_true q334; have hcz25_0 : w24.cell? ⟨gb325, 0, none⟩ = some (.int .i64 a0_0) := (blk_cell BK325.out 0).trans rfl; have hcz25_1 : w24.cell? ⟨gb325, 1, none⟩ = some (.slice A0_1 l0_1.length c0_1) := (blk_cell BK325.out 1).trans rfl; have hfz25_0 := blk_frozen BK325.out 0; have hfz25_1 := blk_frozen BK325.out 1) | ((with_reducible refine gate_callee (f := 101) rfl ?_); refine goesM_ (some 45) rfl rfl Try.func101 (by kernel_rfl) rfl #[.agg #[.int .i64 a0_0, .slice A0_1 l0_1.length c0_1], .slice (some ad334) x8_1.length co13, .int .i64 x10_1, .int .i64 (wrap64 (-(wrap64 (Int.tdiv (wrap64 ((wrap64 (t333 - 1)) - (rd x8_1 x10_1))) t333))))] rfl ?_; (with_reducible refine (impl_fire.calls k1 a0_0 _ _ l0_1 (fun k_ => some k_ = (.slice (some ad334) x8_1.length co13 : Value).ownBlock) (.slice (some ad334) x8_1.length co13) x8_1 x10_1 (wrap64 (-(wrap64 (Int.tdiv (wrap64 ((wrap64 (t333 - 1)) - (rd x8_1 x10_1))) t333)))) t335 w _ ?side1 ?side2 ?side3 ?side4 A19.out).mono ?_); (case side1 => exact Lz1 HB GE325); (case side2 => exact Kd.C_kept_came k67_heap HR0_1.out (by exact Lz1 HB GE325) (fun k_ hs_ => (fun e_ => Kd.R_base HO_8.out k_ e_.symm) hs_)); (case side3 => exact HC0_1.out); (case side4 => exact Kd.R_tight rfl HO_8.out); rintro e w26 ⟨rfl, hy0, hb, hkp⟩; refine ⟨_, rfl, ?_⟩; replace HO_9 := Aside0.mk (Kd.R_mono (ok' := fun k_ => some k_ ≠ (.slice (some ad334) x8_1.length co13 : Value).ownBlock) (Kd.R_keptB (HO_9.out) hkp (fun k_ hk_ hs_ => (hk_) hs_)) (fun k_ hk_ => hk_.1)); replace BK325 := Aside0.mk (blk_kept (Bz BK325) hkp (fun hs_ => (fun e_ => (Kd.R_ne HO_8.out BK325.out (by decide)) e_) hs_)); replace HO_8 := Aside0.mk (Kd.R_reok rfl hy0 (fun k_ e_ => HO_8.out.1 k_ e_)); replace HB := Aside0.mk (hb); (try clear hb); (try clear hkp); (try clear hy0); obtain ⟨Ao27, co27, eo27⟩ := Kd.R_slice HO_9.out; subst eo27; have p336 : 0 ≤ (x10_1 : Int) := ofA; have q336 : x10_1 < (x9_1.length : Int) := ofA; obtain ⟨ad336, e336, hx336_0⟩ := Kd.at_int (Kd.R_reads' HO_9.out).2.2 x10_1 p336 q336; cases e336; replace p336 := eq_true p336; replace q336 := eq_true q336; have p21 : 0 ≤ (x10_1 : Int) := ofA; have q21 : (x10_1 : Int) < ((x9_1.length : Int) : Int) := ofA; obtain ⟨go21, co21, eo21, gb21, gl21, cl21, HG21⟩ := Kd.R_form HO_9.out (by omega); (first | cases eo21 | (injection eo21 with ea_ en_ ec_; (first | subst ea_ | (injection ea_ with ea_; subst ea_)); subst ec_; clear en_)); have GB21 := Aside0.mk gb21; have GG21 := Aside0.mk HG21; clear gb21 gl21 HG21; (first | simp only [add_plain] at hx336_0 | skip); obtain ⟨hx21_0, hf21_0⟩ := Kd.R_celln 0 HO_9.out (x10_1 : Int) p21 q21; replace p21 := eq_true p21; replace q21 := eq_true q21; obtain ⟨hy28_, hz28_⟩ := Kd.R_celln 0 HO_9.out (x10_1 : Int) (ofA) (ofA); have HP28 := Kd.R_putg HO_9.out (x10_1 : Int) (wrap64 ((rd x9_1 x10_1) - (wrap64 (Int.tdiv (wrap64 ((wrap64 (t333 - 1)) - (rd x8_1 x10_1))) t333))))) | ((with_reducible refine gate_store (t := 3) (p := 52) rfl ?_); refine store_event (t := 3) (p := 52) (v := ?vo_w29) (w1 := (w26.setCell ⟨go21, (x10_1 : Int).toNat, none⟩ (.int .i64 (wrap64 ((rd x9_1 x10_1) - (wrap64 (Int.tdiv (wrap64 ((wrap64 (t333 - 1)) - (rd x8_1 x10_1))) t333))))))) ?hg ?ho ?hn ?hr ?_; (case ho => rfl); (case hg => rfl); (case hn => rfl); (case hr => first | (go_simp; done) | (go_simp; rfl)); intro w29 hw; have hg : w26.grownBy w29 (some go21) := (by rw [hw]; exact HP28.2); have hp_ : Kd.R (Kd.int .i64) 3 w29 w.heap.size (fun k_ => some k_ ≠ (.slice (some ad334) x8_1.length co13 : Value).ownBlock) (.slice (some ⟨go21, 0, none⟩) x9_1.length co27) y337 := (by rw [hw, Ny337.out]; exact HP28.1); clear HP28; replace HO_8 := Aside0.mk (Kd.R_after (v := (.slice (some ⟨go21, 0, none⟩) x9_1.length co27)) (v1 := (.slice (some ⟨go21, 0, none⟩) x9_1.length co27)) (ok := (fun _ => True)) (by (with_reducible repeat (first | apply Kd.R_alloc | apply Kd.R_drewN | apply Kd.R_drew)); exact Kd.R_mono HO_8.out (fun _ hk => ⟨trivial, hk⟩)) hg (.inl rfl)); replace BK325 := Aside0.mk (blk_grown (g := gb325) (o := .cells #[.int .i64 a0_0, .slice A0_1 l0_1.length c0_1] 31 (0, 0)) (Bz BK325) hg (Kd.R_ne HO_9.out BK325.out (by decide))); replace HO_9 := Aside0.mk (hp_); replace HB := Aside0.mk ((by rw [hw]; exact below_set (HB.out) GB21.out : Below w.heap.size w w29)); clear hg hw hp_) | ((with_reducible refine gate_callee (f := 74) rfl ?_); refine goesL_ (some 27) rfl rfl Try.func74 (by kernel_rfl) rfl #[.slice (some ad334) t335.length co13, .int .i64 a2] rfl (by (try simp only [List.map_toArray, List.map_cons, List.map_nil]); first | done | (rw [show t335.length = x8_1.length from (Kd.R_reads' HO_8.out).1.symm] <;> rfl) | rfl | (simp only [List.length_drop, List.length_take]; rfl)) ?_; (with_reducible refine (impl_inDebt.calls k1 _ _ t335 a2 t338 _ ?side1 ?side2 A22.out).mono ?_); (case side1 => exact Cz ((Kd.R_reads' HO_8.out).2.2)); (case side2 => rw [show t335.length = x8_1.length from (Kd.R_reads' HO_8.out).1.symm]; exact (Kd.R_reads' HO_8.out).2.1); rintro e w' ⟨rfl, ⟨nd, rfl⟩⟩; refine ⟨_, rfl, ?_⟩))
         (try simp only [← hl8_1])
         go_roundg k1
         case measure => have := HK1.out; omega
         case rel => exact ⟨(t335), (y337), (t338), eqA, H', ⟨by have := HK1.out; omega⟩, ⟨by (try simp only [hl8_1]); (with_reducible repeat (first | apply Kd.R_alloc | apply Kd.R_drewN | apply Kd.R_drew)); exact Kd.R_mono HO_8.out (fun _ hk => hk.2)⟩, ⟨by (try simp only [hl8_1]); exact Rz HO_9⟩, ⟨by (try simp only [hl8_1]); exact Bz BK325⟩, ⟨by exact Lz1 HB GE325⟩⟩
        rw [if_neg c20] at H
        exact absurd H (by simp)
       rw [if_neg c17] at H
       exact absurd H (by simp)
      rw [if_neg c16] at H
      exact absurd H (by simp)
     rw [if_neg c14] at H
     have c14b0 : decide (0 ≤ x10_1) = false := decide_eq_false c14
     clear c14
     have H' := Aside0.mk H
     clear H
     go_wp2
     go_loopg [] k1 (fun kq w' => ∃ (x8_2 : List Int) (x9_2 : List Int), Aside0 (impl_reduce.l1 kq a2 x8_2 x9_2 a0_0 l0_1 = some (r1, r2)) ∧ Aside0 (kq ≤ k1) ∧ Aside0 (Kd.R (Kd.int .i64) 3 w' w.heap.size (fun k_ => some k_ ≠ (v330 : Value).ownBlock) (.slice Ao13 x8_1.length co13) x8_2) ∧ Aside0 (Kd.R (Kd.int .i64) 3 w' w.heap.size (fun k_ => some k_ ≠ ((.slice Ao13 x8_1.length co13) : Value).ownBlock) v330 x9_2) ∧ Aside0 (w'.heap[gb325]? = some (.cells #[.int .i64 a0_0, (.slice A0_1 l0_1.length c0_1)] 31 (0, 0))) ∧ Aside0 (Below w.heap.size w w'))
     case atStart => exact ⟨(x8_1), (x9_1), H', ⟨Nat.le_refl _⟩, ⟨by (try simp only [hl8_1]); exact Rz HO_8⟩, ⟨by (try simp only [hl8_1]); exact Rz HO_9⟩, ⟨by (try simp only [hl8_1]); exact Bz BK325⟩, ⟨by exact Lz1 HB GE325⟩⟩
     case round =>
      clear H'
      try clear c1
      try clear c5
      try clear c5b0
      try clear c5b1
      try clear c6
      try clear c6b0
      try clear c6b1
      try clear c14
      try clear c14b0
      try clear c16
      try clear c16b0
      try clear c17
      try clear c17b0
      try clear c18
      try clear c18b0
      try clear c18b1
      try clear c20
      try clear c20b0
      try clear p21
      try clear q21
      try clear p21
      try clear p334
      try clear p336
      try clear q21
      try clear q334
      try clear q336
      obtain ⟨x8_2, x9_2, HA, HK2, HO_8, HO_9, BK325, HB⟩ := hrel
      have hl8_2 := (Kd.R_reads' HO_8.out).1
      rw [hl8_2] at HO_8
      (try simp only [hl8_2])
      (try simp only [hl8_2] at BK325)
      (try simp only [hl8_2] at HO_9)
      cases gk with
      | zero => exact absurd HA.out (by simp [impl_reduce.l1])
      | succ k2 =>
       have H := HA.out
       clear HA
       simp only [impl_reduce.l1] at H
       replace H := Option.bind_eq_some_iff.mp H
       obtain ⟨t339, A300, H⟩ := H
       replace H : (if (t339.length : Int) = a0_0 then (some (x8_2, x9_2)) else (impl_reduce.l2 k2 a2 x8_2 x9_2 t339 (x9_2.length : Int) 0 a0_0 l0_1)) = some (r1, r2) := H
       have A30 := Aside0.mk A300
       clear A300
       by_cases c31 : (t339.length : Int) = a0_0
       ·rw [if_pos c31] at H
        have c31b0 : ((t339.length : Int) == a0_0) = true := beq_iff_eq.mpr c31
        have c31b1 : ((t339.length : Int) != a0_0) = false := bne_eq_false_iff_eq.mpr c31
        clear c31
        simp only [Option.some.injEq, Prod.mk.injEq] at H
        obtain ⟨rfl, rfl⟩ := H
        have hcz32_0 : wr.cell? ⟨gb325, 0, none⟩ = some (.int .i64 a0_0) := (blk_cell BK325.out 0).trans rfl
        have hcz32_1 : wr.cell? ⟨gb325, 1, none⟩ = some (.slice A0_1 l0_1.length c0_1) := (blk_cell BK325.out 1).trans rfl
        have hfz32_0 := blk_frozen BK325.out 0
        have hfz32_1 := blk_frozen BK325.out 1
        go_wp2_with (first | ((with_reducible refine gate_callee (f := 78) rfl ?_); refine goesM_ (some 56) rfl rfl Try.func78 (by kernel_rfl) rfl #[.agg #[.int .i64 a0_0, .slice A0_1 l0_1.length c0_1], .slice Ao13 x8_2.length co13, .int .i64 a2] rfl ?_; (with_reducible refine (impl_burn.calls k2 a0_0 _ _ l0_1 _ _ x8_2 a2 t339 _ ?side1 ?side2 ?side3 ?side4 A30.out).mono ?_); (case side1 => exact Cz ((Kd.C_below HR0_1.out HB.out))); (case side2 => exact HC0_1.out); (case side3 => exact Cz ((Kd.R_reads' HO_8.out).2.2)); (case side4 => exact (Kd.R_reads' HO_8.out).2.1); rintro e w33 ⟨v340, rfl, ho0, hb⟩; refine ⟨_, rfl, ?_⟩; have HO341 := Aside0.mk (Kd.R_lower (Kd.R_new' (Kd.R_new' ho0 (Kd.R_lt (Rz HO_8))) (Kd.R_lt (Rz HO_9))) (below_size (by exact Lz1 HB GE325))); replace HO_8 := Aside0.mk (Kd.R_elder' (Rz HO_8) (Kd.R_base ho0) hb); replace HO_9 := Aside0.mk (Kd.R_elder' (Rz HO_9) (Kd.R_base ho0) hb); replace BK325 := Aside0.mk (blk_below (g := gb325) (o := .cells #[.int .i64 a0_0, .slice A0_1 l0_1.length c0_1] 31 (0, 0)) (Bz BK325) hb); replace HB := Aside0.mk (below_step (by exact Lz1 HB GE325) hb); (try clear hb); (try clear ho0); obtain ⟨Ao34, co34, eo34⟩ := Kd.R_slice HO341.out; subst eo34; have hcz35_0 : w33.cell? ⟨gb325, 0, none⟩ = some (.int .i64 a0_0) := (blk_cell BK325.out 0).trans rfl; have hcz35_1 : w33.cell? ⟨gb325, 1, none⟩ = some (.slice A0_1 l0_1.length c0_1) := (blk_cell BK325.out 1).trans rfl; have hfz35_0 := blk_frozen BK325.out 0; have hfz35_1 := blk_frozen BK325.out 1))
        go_ret2
        exact ⟨_, _, by first | rfl | (simp [errW_none, errW_some] <;> rfl) | (simp [*, errW_none, errW_some] <;> rfl), by (with_reducible repeat (first | apply Kd.R_alloc | apply Kd.R_drewN | apply Kd.R_drew)); exact Kd.R_mono HO_8.out (fun _ hk => hk.1), by (with_reducible repeat (first | apply Kd.R_alloc | apply Kd.R_drewN | apply Kd.R_drew)); exact Kd.R_mono HO_9.out (fun _ hk => hk.1), by exact Lz1 HB GE325⟩
       rw [if_neg c31] at H
       have c31b0 : ((t339.length : Int) == a0_0) = false := beq_eq_false_iff_ne.mpr c31
       have c31b1 : ((t339.length : Int) != a0_0) = true := bne_iff_ne.mpr c31
       have H' := Aside0.mk H
       clear H
       have hcz36_0 : wr.cell? ⟨gb325, 0, none⟩ = some (.int .i64 a0_0) := (blk_cell BK325.out 0).trans rfl
       have hcz36_1 : wr.cell? ⟨gb325, 1, none⟩ = some (.slice A0_1 l0_1.length c0_1) := (blk_cell BK325.out 1).trans rfl
       have hfz36_0 := blk_frozen BK325.out 0
       have hfz36_1 := blk_frozen BK325.out 1
       go_wp2_with (first | ((with_reducible refine gate_callee (f := 78) rfl ?_); refine goesM_ (some 56) rfl rfl Try.func78 (by kernel_rfl) rfl #[.agg #[.int .i64 a0_0, .slice A0_1 l0_1.length c0_1], .slice Ao13 x8_2.length co13, .int .i64 a2] rfl ?_; (with_reducible refine (impl_burn.calls k2 a0_0 _ _ l0_1 _ _ x8_2 a2 t339 _ ?side1 ?side2 ?side3 ?side4 A30.out).mono ?_); (case side1 => exact Cz ((Kd.C_below HR0_1.out HB.out))); (case side2 => exact HC0_1.out); (case side3 => exact Cz ((Kd.R_reads' HO_8.out).2.2)); (case side4 => exact (Kd.R_reads' HO_8.out).2.1); rintro e w37 ⟨v340, rfl, ho0, hb⟩; refine ⟨_, rfl, ?_⟩; have HO341 := Aside0.mk (Kd.R_lower (Kd.R_new' (Kd.R_new' ho0 (Kd.R_lt (Rz HO_8))) (Kd.R_lt (Rz HO_9))) (below_size (by exact Lz1 HB GE325))); replace HO_8 := Aside0.mk (Kd.R_elder' (Rz HO_8) (Kd.R_base ho0) hb); replace HO_9 := Aside0.mk (Kd.R_elder' (Rz HO_9) (Kd.R_base ho0) hb); replace BK325 := Aside0.mk (blk_below (g := gb325) (o := .cells #[.int .i64 a0_0, .slice A0_1 l0_1.length c0_1] 31 (0, 0)) (Bz BK325) hb); replace HB := Aside0.mk (below_step (by exact Lz1 HB GE325) hb); (try clear hb); (try clear ho0); obtain ⟨Ao38, co38, eo38⟩ := Kd.R_slice HO341.out; subst eo38; have hcz39_0 : w37.cell? ⟨gb325, 0, none⟩ = some (.int .i64 a0_0) := (blk_cell BK325.out 0).trans rfl; have hcz39_1 : w37.cell? ⟨gb325, 1, none⟩ = some (.slice A0_1 l0_1.length c0_1) := (blk_cell BK325.out 1).trans rfl; have hfz39_0 := blk_frozen BK325.out 0; have hfz39_1 := blk_frozen BK325.out 1; obtain ⟨Ao40, co40, eo40⟩ := Kd.R_slice HO_9.out; subst eo40))
       go_loopg [66] k2 (fun kq v66 w' => ∃ (x8_3 : List Int) (x9_3 : List Int) (x66_3 : Int), v66 = .int .i64 x66_3 ∧ Aside0 (impl_reduce.l2 kq a2 x8_3 x9_3 t339 (x9_2.length : Int) x66_3 a0_0 l0_1 = some (r1, r2)) ∧ Aside0 (kq ≤ k2) ∧ Aside0 (Kd.R (Kd.int .i64) 3 w' w.heap.size (fun k_ => some k_ ≠ ((.slice Ao40 x9_2.length co40) : Value).ownBlock ∧ some k_ ≠ ((.slice Ao38 t339.length co38) : Value).ownBlock) (.slice Ao13 x8_2.length co13) x8_3) ∧ Aside0 (Kd.R (Kd.int .i64) 3 w' w.heap.size (fun k_ => some k_ ≠ ((.slice Ao13 x8_2.length co13) : Value).ownBlock ∧ some k_ ≠ ((.slice Ao38 t339.length co38) : Value).ownBlock) (.slice Ao40 x9_2.length co40) x9_3) ∧ Aside0 (Kd.R (Kd.int .i64) 3 w' w.heap.size (fun k_ => some k_ ≠ ((.slice Ao13 x8_2.length co13) : Value).ownBlock ∧ some k_ ≠ ((.slice Ao40 x9_2.length co40) : Value).ownBlock) (.slice Ao38 t339.length co38) t339) ∧ Aside0 (w'.heap[gb325]? = some (.cells #[.int .i64 a0_0, (.slice A0_1 l0_1.length c0_1)] 31 (0, 0))) ∧ Aside0 (Below w.heap.size w w'))
       case atStart => exact ⟨(x8_2), (x9_2), (0), eqA, H', ⟨Nat.le_refl _⟩, ⟨by (try simp only [hl8_1]); (try simp only [hl8_2]); exact Rz HO_8⟩, ⟨by (try simp only [hl8_1]); (try simp only [hl8_2]); exact Rz HO_9⟩, ⟨by (try simp only [hl8_1]); (try simp only [hl8_2]); (with_reducible repeat (first | apply Kd.R_alloc | apply Kd.R_drewN | apply Kd.R_drew)); exact Kd.R_mono HO341.out (fun _ hk => ⟨hk.1.2, hk.2⟩)⟩, ⟨by (try simp only [hl8_1]); (try simp only [hl8_2]); exact Bz BK325⟩, ⟨by exact Lz1 HB GE325⟩⟩
       case round =>
        clear H'
        try clear c1
        try clear c5
        try clear c5b0
        try clear c5b1
        try clear c6
        try clear c6b0
        try clear c6b1
        try clear c14
        try clear c14b0
        try clear c16
        try clear c16b0
        try clear c17
        try clear c17b0
        try clear c18
        try clear c18b0
        try clear c18b1
        try clear c20
        try clear c20b0
        try clear p21
        try clear q21
        try clear c31
        try clear c31b0
        try clear c31b1
        try clear p21
        try clear p334
        try clear p336
        try clear q21
        try clear q334
        try clear q336
        obtain ⟨x8_3, x9_3, x66_3, rfl, HA, HK3, HO_8, HO_9, HO_13, BK325, HB⟩ := hrel
        have hl8_3 := (Kd.R_reads' HO_8.out).1
        rw [hl8_3] at HO_8
        (try simp only [hl8_3])
        (try simp only [hl8_3] at BK325)
        (try simp only [hl8_3] at HO_9)
        (try simp only [hl8_3] at HO_13)
        have hl9_3 := (Kd.R_reads' HO_9.out).1
        rw [hl9_3] at HO_9
        (try simp only [hl9_3])
        (try simp only [hl9_3] at BK325)
        (try simp only [hl9_3] at HO_8)
        (try simp only [hl9_3] at HO_13)
        cases gk with
        | zero => exact absurd HA.out (by simp [impl_reduce.l2])
        | succ k3 =>
         have H := HA.out
         clear HA
         simp only [impl_reduce.l2] at H
         by_cases c41 : x66_3 < (x9_2.length : Int)
         ·rw [if_pos c41] at H
          have c41b0 : decide (x66_3 < (x9_2.length : Int)) = true := decide_eq_true c41
          (try simp only [hl8_1, hl8_2, hl8_3, hl9_3] at c41b0)
          clear c41
          replace H := Option.bind_eq_some_iff.mp H
          obtain ⟨t342, A420, H⟩ := H
          replace H : (if t342 = true then (impl_reduce.l2 k3 a2 x8_3 x9_3 t339 (x9_2.length : Int) (wrap64 (x66_3 + 1)) a0_0 l0_1) else ((impl_fire.f k3 a0_0 l0_1 x8_3 x66_3 1).bind fun t343 => (if 0 ≤ x66_3 then (if x66_3 < (x9_3.length : Int) then (impl_reduce.l2 k3 a2 t343 (x9_3.set (x66_3 : Int).toNat (wrap64 ((rd x9_3 x66_3) + 1))) t339 (x9_2.length : Int) (wrap64 (x66_3 + 1)) a0_0 l0_1) else (none)) else (none)))) = some (r1, r2) := H
          have A42 := Aside0.mk A420
          clear A420
          by_cases c43 : t342 = true
          ·subst c43
           have H1 : (impl_reduce.l2 k3 a2 x8_3 x9_3 t339 (x9_2.length : Int) (wrap64 (x66_3 + 1)) a0_0 l0_1) = some (r1, r2) := by rw [if_pos rfl] at H; exact H
           clear H
           have H := H1
           clear H1
           have H' := Aside0.mk H
           clear H
           go_wp2_with (first | ((with_reducible refine gate_callee (f := 76) rfl ?_); refine goesM_ (some 71) rfl rfl Try.func76 (by kernel_rfl) rfl #[.slice Ao38 t339.length co38, .int .i64 x66_3] rfl ?_; (with_reducible refine (slices_Contains_int_int.calls k3 _ _ t339 x66_3 true _ ?side1 ?side2 A42.out).mono ?_); (case side1 => exact Cz ((Kd.R_reads' HO_13.out).2.2)); (case side2 => exact (Kd.R_reads' HO_13.out).2.1); rintro e w' ⟨rfl, ⟨nd, rfl⟩⟩; refine ⟨_, rfl, ?_⟩))
           (try simp only [← hl8_3, ← hl9_3])
           go_roundg k3
           case measure => have := HK1.out; have := HK2.out; have := HK3.out; omega
           case rel => exact ⟨(x8_3), (x9_3), (wrap64 (x66_3 + 1)), eqA, H', ⟨by have := HK1.out; have := HK2.out; have := HK3.out; omega⟩, ⟨by (try simp only [hl8_1]); (try simp only [hl8_2]); (try simp only [hl8_3]); (try simp only [hl9_3]); exact Rz HO_8⟩, ⟨by (try simp only [hl8_1]); (try simp only [hl8_2]); (try simp only [hl8_3]); (try simp only [hl9_3]); exact Rz HO_9⟩, ⟨by (try simp only [hl8_1]); (try simp only [hl8_2]); (try simp only [hl8_3]); (try simp only [hl9_3]); exact Rz HO_13⟩, ⟨by (try simp only [hl8_1]); (try simp only [hl8_2]); (try simp only [hl8_3]); (try simp only [hl9_3]); exact Bz BK325⟩, ⟨by exact Lz1 HB GE325⟩⟩
          replace c43 := Bool.eq_false_iff.mpr c43
          subst c43
          have H1 : ((impl_fire.f k3 a0_0 l0_1 x8_3 x66_3 1).bind fun t343 => (if 0 ≤ x66_3 then (if x66_3 < (x9_3.length : Int) then (impl_reduce.l2 k3 a2 t343 (x9_3.set (x66_3 : Int).toNat (wrap64 ((rd x9_3 x66_3) + 1))) t339 (x9_2.length : Int) (wrap64 (x66_3 + 1)) a0_0 l0_1) else (none)) else (none))) = some (r1, r2) := by rw [if_neg (show ¬ (false = true) by decide)] at H; exact H
          clear H
          have H := H1
          clear H1
          replace H := Option.bind_eq_some_iff.mp H
          obtain ⟨t343, A440, H⟩ := H
          replace H : (if 0 ≤ x66_3 then (if x66_3 < (x9_3.length : Int) then (impl_reduce.l2 k3 a2 t343 (x9_3.set (x66_3 : Int).toNat (wrap64 ((rd x9_3 x66_3) + 1))) t339 (x9_2.length : Int) (wrap64 (x66_3 + 1)) a0_0 l0_1) else (none)) else (none)) = some (r1, r2) := H
          have A44 := Aside0.mk A440
          clear A440
          by_cases c45 : 0 ≤ x66_3
          ·rw [if_pos c45] at H
           have c45b0 : decide (0 ≤ x66_3) = true := decide_eq_true c45
           clear c45
           by_cases c46 : x66_3 < (x9_3.length : Int)
           ·rw [if_pos c46] at H
            have c46b0 : decide (x66_3 < (x9_3.length : Int)) = true := decide_eq_true c46
            (try simp only [hl8_1, hl8_2, hl8_3, hl9_3] at c46b0)
            clear c46
            obtain ⟨y345, hy345⟩ : ∃ y_ : List Int, y_ = (x9_3.set (x66_3 : Int).toNat (wrap64 ((rd x9_3 x66_3) + 1))) := ⟨_, rfl⟩
            replace H : (impl_reduce.l2 k3 a2 t343 y345 t339 (x9_2.length : Int) (wrap64 (x66_3 + 1)) a0_0 l0_1) = some (r1, r2) := by first | (rw [hy345]; with_reducible exact H) | (have H2_ := (Option.bind_some _ _).symm.trans H; rw [hy345]; with_reducible exact H2_) | (have H2_ := (Option.bind_some _ _).symm.trans H; with_reducible exact H2_) | with_reducible exact H | (rw [hy345]; exact H) | exact H
            have Ny345 := Aside0.mk hy345
            clear hy345
            have H' := Aside0.mk H
            clear H
            go_wp2_with (first | ((with_reducible refine gate_callee (f := 76) rfl ?_); refine goesM_ (some 71) rfl rfl Try.func76 (by kernel_rfl) rfl #[.slice Ao38 t339.length co38, .int .i64 x66_3] rfl ?_; (with_reducible refine (slices_Contains_int_int.calls k3 _ _ t339 x66_3 false _ ?side1 ?side2 A42.out).mono ?_); (case side1 => exact Cz ((Kd.R_reads' HO_13.out).2.2)); (case side2 => exact (Kd.R_reads' HO_13.out).2.1); rintro e w' ⟨rfl, ⟨nd, rfl⟩⟩; refine ⟨_, rfl, ?_⟩; (try (rw [drewN_self wr]; generalize hq_ : World.drewN wr _ = wr; have n0_ : Aside0 (Kd.R (Kd.int .i64) 3 wr w.heap.size (fun k_ => some k_ ≠ (.slice Ao13 x8_3.length co13 : Value).ownBlock ∧ some k_ ≠ (.slice Ao40 x9_3.length co40 : Value).ownBlock) (.slice Ao38 t339.length co38) t339) := ⟨by rw [← hq_]; exact (Rz HO_13)⟩; have n1_ : Aside0 (Kd.R (Kd.int .i64) 3 wr w.heap.size (fun k_ => some k_ ≠ (.slice Ao38 t339.length co38 : Value).ownBlock ∧ some k_ ≠ (.slice Ao40 x9_3.length co40 : Value).ownBlock) (.slice Ao13 x8_3.length co13) x8_3) := ⟨by rw [← hq_]; exact (by (with_reducible repeat (first | apply Kd.R_alloc | apply Kd.R_drewN | apply Kd.R_drew)); exact Kd.R_mono HO_8.out (fun _ hk => by first | exact hk | exact ⟨hk.2, hk.1⟩))⟩; have n2_ : Aside0 (Kd.R (Kd.int .i64) 3 wr w.heap.size (fun k_ => some k_ ≠ (.slice Ao38 t339.length co38 : Value).ownBlock ∧ some k_ ≠ (.slice Ao13 x8_3.length co13 : Value).ownBlock) (.slice Ao40 x9_3.length co40) x9_3) := ⟨by rw [← hq_]; exact (by (with_reducible repeat (first | apply Kd.R_alloc | apply Kd.R_drewN | apply Kd.R_drew)); exact Kd.R_mono HO_9.out (fun _ hk => by first | exact hk | exact ⟨hk.2, hk.1⟩))⟩; have n3_ : Aside0 (wr.heap[gb325]? = some (.cells #[.int .i64 a0_0, .slice A0_1 l0_1.length c0_1] 31 (0, 0))) := ⟨by rw [← hq_]; exact (Bz BK325)⟩; have n4_ : Aside0 (Below w.heap.size w wr) := ⟨by rw [← hq_]; exact (by exact Lz1 HB GE325)⟩; clear HO_13 HO_8 HO_9 BK325 HB hq_; have HO_13 := n0_; have HO_8 := n1_; have HO_9 := n2_; have BK325 := n3_; have HB := n4_; clear n0_ n1_ n2_ n3_ n4_)); have hcz48_0 : wr.cell? ⟨gb325, 0, none⟩ = some (.int .i64 a0_0) := (blk_cell BK325.out 0).trans rfl; have hcz48_1 : wr.cell? ⟨gb325, 1, none⟩ = some (.slice A0_1 l0_1.length c0_1) := (blk_cell BK325.out 1).trans rfl; have hfz48_0 := blk_frozen BK325.out 0; have hfz48_1 := blk_frozen BK325.out 1) | ((with_reducible refine gate_callee (f := 101) rfl ?_); refine goesM_ (some 76) rfl rfl Try.func101 (by kernel_rfl) rfl #[.agg #[.int .i64 a0_0, .slice A0_1 l0_1.length c0_1], .slice Ao13 x8_3.length co13, .int .i64 x66_3, .int .i64 1] rfl ?_; (with_reducible refine (impl_fire.calls k3 a0_0 _ _ l0_1 (fun k_ => some k_ = (.slice Ao13 x8_3.length co13 : Value).ownBlock) (.slice Ao13 x8_3.length co13) x8_3 x66_3 1 t343 w _ ?side1 ?side2 ?side3 ?side4 A44.out).mono ?_); (case side1 => exact Lz1 HB GE325); (case side2 => exact Kd.C_kept_came k67_heap HR0_1.out (by exact Lz1 HB GE325) (fun k_ hs_ => (fun e_ => Kd.R_base HO_8.out k_ e_.symm) hs_)); (case side3 => exact HC0_1.out); (case side4 => exact Kd.R_tight rfl HO_8.out); rintro e w49 ⟨rfl, hy0, hb, hkp⟩; refine ⟨_, rfl, ?_⟩; replace HO_9 := Aside0.mk (Kd.R_mono (ok' := fun k_ => some k_ ≠ (.slice Ao13 x8_3.length co13 : Value).ownBlock ∧ some k_ ≠ (.slice Ao38 t339.length co38 : Value).ownBlock) (Kd.R_keptB (HO_9.out) hkp (fun k_ hk_ hs_ => by first | exact (hk_.1) hs_ | exact (hk_.2) hs_)) (fun k_ hk_ => by first | exact ⟨hk_.1.1, hk_.1.2⟩ | exact ⟨hk_.1.2, hk_.1.1⟩)); replace HO_13 := Aside0.mk (Kd.R_mono (ok' := fun k_ => some k_ ≠ (.slice Ao13 x8_3.length co13 : Value).ownBlock ∧ some k_ ≠ (.slice Ao40 x9_3.length co40 : Value).ownBlock) (Kd.R_keptB (HO_13.out) hkp (fun k_ hk_ hs_ => by first | exact (hk_.1) hs_ | exact (hk_.2) hs_)) (fun k_ hk_ => by first | exact ⟨hk_.1.1, hk_.1.2⟩ | exact ⟨hk_.1.2, hk_.1.1⟩)); replace BK325 := Aside0.mk (blk_kept (Bz BK325) hkp (fun hs_ => (fun e_ => (Kd.R_ne HO_8.out BK325.out (by decide)) e_) hs_)); replace HO_8 := Aside0.mk (Kd.R_reok rfl hy0 (fun k_ e_ => HO_8.out.1 k_ e_)); replace HB := Aside0.mk (hb); (try clear hb); (try clear hkp); (try clear hy0); have p344 : 0 ≤ (x66_3 : Int) := ofA; have q344 : x66_3 < (x9_3.length : Int) := ofA; obtain ⟨ad344, e344, hx344_0⟩ := Kd.at_int (Kd.R_reads' HO_9.out).2.2 x66_3 p344 q344; cases e344; replace p344 := eq_true p344; replace q344 := eq_true q344; have p47 : 0 ≤ (x66_3 : Int) := ofA; have q47 : (x66_3 : Int) < ((x9_3.length : Int) : Int) := ofA; obtain ⟨go47, co47, eo47, gb47, gl47, cl47, HG47⟩ := Kd.R_form HO_9.out (by omega); (first | cases eo47 | (injection eo47 with ea_ en_ ec_; (first | subst ea_ | (injection ea_ with ea_; subst ea_)); subst ec_; clear en_)); have GB47 := Aside0.mk gb47; have GG47 := Aside0.mk HG47; clear gb47 gl47 HG47; (first | simp only [add_plain] at hx344_0 | skip); obtain ⟨hx47_0, hf47_0⟩ := Kd.R_celln 0 HO_9.out (x66_3 : Int) p47 q47; replace p47 := eq_true p47; replace q47 := eq_true q47; obtain ⟨hy50_, hz50_⟩ := Kd.R_celln 0 HO_9.out (x66_3 : Int) (ofA) (ofA); have HP50 := Kd.R_putg HO_9.out (x66_3 : Int) (wrap64 ((rd x9_3 x66_3) + 1))) | ((with_reducible refine gate_store (t := 3) (p := 82) rfl ?_); refine store_event (t := 3) (p := 82) (v := ?vo_w51) (w1 := (w49.setCell ⟨go47, (x66_3 : Int).toNat, none⟩ (.int .i64 (wrap64 ((rd x9_3 x66_3) + 1))))) ?hg ?ho ?hn ?hr ?_; (case ho => rfl); (case hg => rfl); (case hn => rfl); (case hr => first | (go_simp; done) | (go_simp; rfl)); intro w51 hw; have hg : w49.grownBy w51 (some go47) := (by rw [hw]; exact HP50.2); have hp_ : Kd.R (Kd.int .i64) 3 w51 w.heap.size (fun k_ => some k_ ≠ (.slice Ao13 x8_3.length co13 : Value).ownBlock ∧ some k_ ≠ (.slice Ao38 t339.length co38 : Value).ownBlock) (.slice (some ⟨go47, 0, none⟩) x9_3.length co40) y345 := (by rw [hw, Ny345.out]; exact HP50.1); clear HP50; replace HO_8 := Aside0.mk (Kd.R_after (v := (.slice (some ⟨go47, 0, none⟩) x9_3.length co40)) (v1 := (.slice (some ⟨go47, 0, none⟩) x9_3.length co40)) (ok := (fun k_ => some k_ ≠ (.slice Ao38 t339.length co38 : Value).ownBlock)) (by (with_reducible repeat (first | apply Kd.R_alloc | apply Kd.R_drewN | apply Kd.R_drew)); exact Kd.R_mono HO_8.out (fun _ hk => by first | exact hk | exact ⟨hk.2, hk.1⟩)) hg (.inl rfl)); replace HO_13 := Aside0.mk (Kd.R_after (v := (.slice (some ⟨go47, 0, none⟩) x9_3.length co40)) (v1 := (.slice (some ⟨go47, 0, none⟩) x9_3.length co40)) (ok := (fun k_ => some k_ ≠ (.slice Ao13 x8_3.length co13 : Value).ownBlock)) (Rz HO_13) hg (.inl rfl)); replace BK325 := Aside0.mk (blk_grown (g := gb325) (o := .cells #[.int .i64 a0_0, .slice A0_1 l0_1.length c0_1] 31 (0, 0)) (Bz BK325) hg (Kd.R_ne HO_9.out BK325.out (by decide))); replace HO_9 := Aside0.mk (hp_); replace HB := Aside0.mk ((by rw [hw]; exact below_set (HB.out) GB47.out : Below w.heap.size w w51)); clear hg hw hp_))
            (try simp only [← hl8_3, ← hl9_3])
            go_roundg k3
            case measure => have := HK1.out; have := HK2.out; have := HK3.out; omega
            case rel => exact ⟨(t343), (y345), (wrap64 (x66_3 + 1)), eqA, H', ⟨by have := HK1.out; have := HK2.out; have := HK3.out; omega⟩, ⟨by (try simp only [hl8_1]); (try simp only [hl8_2]); (try simp only [hl8_3]); (try simp only [hl9_3]); (with_reducible repeat (first | apply Kd.R_alloc | apply Kd.R_drewN | apply Kd.R_drew)); exact Kd.R_mono HO_8.out (fun _ hk => by first | exact hk | exact ⟨hk.2, hk.1⟩)⟩, ⟨by (try simp only [hl8_1]); (try simp only [hl8_2]); (try simp only [hl8_3]); (try simp only [hl9_3]); exact Rz HO_9⟩, ⟨by (try simp only [hl8_1]); (try simp only [hl8_2]); (try simp only [hl8_3]); (try simp only [hl9_3]); exact Rz HO_13⟩, ⟨by (try simp only [hl8_1]); (try simp only [hl8_2]); (try simp only [hl8_3]); (try simp only [hl9_3]); exact Bz BK325⟩, ⟨by exact Lz1 HB GE325⟩⟩
           rw [if_neg c46] at H
           exact absurd H (by simp)
          rw [if_neg c45] at H
          exact absurd H (by simp)
         rw [if_neg c41] at H
         have c41b0 : decide (x66_3 < (x9_2.length : Int)) = false := decide_eq_false c41
         (try simp only [hl8_1, hl8_2, hl8_3, hl9_3] at c41b0)
         clear c41
         have H' := Aside0.mk H
         clear H
         go_wp2
         (try simp only [← hl8_2, ← hl8_3, ← hl9_3])
         go_roundg k3
         case measure => have := HK1.out; have := HK2.out; have := HK3.out; omega
         case rel => exact ⟨(x8_3), (x9_3), H', ⟨by have := HK1.out; have := HK2.out; have := HK3.out; omega⟩, ⟨by (try simp only [hl8_1]); (try simp only [hl8_2]); (try simp only [hl8_3]); (try simp only [hl9_3]); (with_reducible repeat (first | apply Kd.R_alloc | apply Kd.R_drewN | apply Kd.R_drew)); exact Kd.R_mono HO_8.out (fun _ hk => hk.1)⟩, ⟨by (try simp only [hl8_1]); (try simp only [hl8_2]); (try simp only [hl8_3]); (try simp only [hl9_3]); (with_reducible repeat (first | apply Kd.R_alloc | apply Kd.R_drewN | apply Kd.R_drew)); exact Kd.R_mono HO_9.out (fun _ hk => hk.1)⟩, ⟨by (try simp only [hl8_1]); (try simp only [hl8_2]); (try simp only [hl8_3]); (try simp only [hl9_3]); exact Bz BK325⟩, ⟨by exact Lz1 HB GE325⟩⟩
  rw [if_neg c6] at H
  exact absurd H (by simp)
 rw [if_neg c5] at H
 exact absurd H (by simp)
def impl_isVertex.f (k : Nat) (a0_0 : Int) (l0_1 : List (S67)) (a1 : Int) : Option (Bool) := (impl_GraphOk.f k a0_0 l0_1).bind fun t501 => (if t501 = true then ((impl_within.f a1 0 (wrap64 (a0_0 - 1))).bind fun t502 => (some t502)) else (some false))
set_option maxHeartbeats 8000000 in
set_option maxRecDepth 100000 in
theorem impl_isVertex.calls (k : Nat) (a0_0 : Int) (A0_1 : Option Addr) (c0_1 : Nat) (l0_1 : List (S67)) (a1 : Int) (r : Bool) (w : World) (hr0_1 : Kd.C k67 w A0_1 l0_1.length l0_1) (hc0_1 : l0_1.length ≤ c0_1) (h : impl_isVertex.f k a0_0 l0_1 a1 = some r) :
  Calls Try.prog 72 #[.agg #[.int .i64 a0_0, .slice A0_1 l0_1.length c0_1], .int .i64 a1] w fun e w' => e = .returned (.bool r) ∧ Below w.heap.size w w' := by
 have hu31 := Try.underlying31
 have HR0_1 := Aside0.mk hr0_1
 have HC0_1 := Aside0.mk hc0_1
 clear hr0_1 hc0_1
 have HB := Aside0.mk (Below.refl w.heap.size w)
 have H : ((impl_GraphOk.f k a0_0 l0_1).bind fun t501 => (if t501 = true then ((impl_within.f a1 0 (wrap64 (a0_0 - 1))).bind fun t502 => (some t502)) else (some false))) = some r := h
 clear h
 replace H := Option.bind_eq_some_iff.mp H
 obtain ⟨t501, A30, H⟩ := H
 replace H : (if t501 = true then ((impl_within.f a1 0 (wrap64 (a0_0 - 1))).bind fun t502 => (some t502)) else (some false)) = some r := H
 have A3 := Aside0.mk A30
 clear A30
 by_cases c4 : t501 = true
 ·subst c4
  have H1 : ((impl_within.f a1 0 (wrap64 (a0_0 - 1))).bind fun t502 => (some t502)) = some r := by rw [if_pos rfl] at H; exact H
  clear H
  have H := H1
  clear H1
  replace H := Option.bind_eq_some_iff.mp H
  obtain ⟨t502, A50, H⟩ := H
  replace H : (some t502) = some r := H
  have A5 := Aside0.mk A50
  clear A50
  obtain rfl := Option.some.inj H
  go_enter Try.func72, Try.ntmps72
  go_wp2_with (first | ((with_reducible refine gate_dst (N := 2) rfl ?_); refine box_event ?hg (N := 2) ?hd (cs := #[.int .i64 a0_0, .slice A0_1 l0_1.length c0_1]) (t := 31) ?hr ?_; (case hd => rfl); (case hg => rfl); (case hr => first | (go_simp; done) | (go_simp; rfl)); intro gb500 hg w6 hbox hb; have BK500 := Aside0.mk (hbox); have GW500 := Aside0.mk ((by rw [hg]; exact (below_size (Lz HB)) : w.heap.size ≤ gb500)); have GE500 := Aside0.mk ((by rw [hg]; exact (below_size (Lz HB)) : w.heap.size ≤ gb500)); replace HB := Aside0.mk (below_step (Lz HB) hb); clear hb hbox hg; have hcz7_0 : w6.cell? ⟨gb500, 0, none⟩ = some (.int .i64 a0_0) := (blk_cell BK500.out 0).trans rfl; have hcz7_1 : w6.cell? ⟨gb500, 1, none⟩ = some (.slice A0_1 l0_1.length c0_1) := (blk_cell BK500.out 1).trans rfl; have hfz7_0 := blk_frozen BK500.out 0; have hfz7_1 := blk_frozen BK500.out 1) | ((with_reducible refine gate_callee (f := 50) rfl ?_); refine goesM_ (some 6) rfl rfl Try.func50 (by kernel_rfl) rfl #[.agg #[.int .i64 a0_0, .slice A0_1 l0_1.length c0_1]] rfl ?_; (with_reducible refine (impl_GraphOk.calls k a0_0 _ _ l0_1 true _ ?side1 ?side2 A3.out).mono ?_); (case side1 => exact Cz ((Kd.C_below HR0_1.out HB.out))); (case side2 => exact HC0_1.out); rintro e w8 ⟨rfl, hb⟩; refine ⟨_, rfl, ?_⟩; replace BK500 := Aside0.mk (blk_below (g := gb500) (o := .cells #[.int .i64 a0_0, .slice A0_1 l0_1.length c0_1] 31 (0, 0)) (Bz BK500) hb); replace HB := Aside0.mk (below_step (by exact Lz1 HB GE500) hb); (try clear hb); (try clear hb2); (try clear hk); (try clear hi); have hcz9_0 : w8.cell? ⟨gb500, 0, none⟩ = some (.int .i64 a0_0) := (blk_cell BK500.out 0).trans rfl; have hcz9_1 : w8.cell? ⟨gb500, 1, none⟩ = some (.slice A0_1 l0_1.length c0_1) := (blk_cell BK500.out 1).trans rfl; have hfz9_0 := blk_frozen BK500.out 0; have hfz9_1 := blk_frozen BK500.out 1) | (go_at_call 81; (with_reducible refine (impl_within.calls a1 0 (wrap64 (a0_0 - 1)) t502 _ A5.out).mono ?_); rintro e w' ⟨rfl, ⟨nd, rfl⟩⟩))
  go_ret
  exact ⟨by first | rfl | (simp [errW_none, errW_some] <;> rfl) | (simp [*, errW_none, errW_some] <;> rfl), by exact Lz1 HB GE500⟩
 replace c4 := Bool.eq_false_iff.mpr c4
 subst c4
 have H1 : (some false) = some r := by rw [if_neg (show ¬ (false = true) by decide)] at H; exact H
 clear H
 have H := H1
 clear H1
 obtain rfl := Option.some.inj H
 go_enter Try.func72, Try.ntmps72
 go_wp2_with (first | ((with_reducible refine gate_dst (N := 2) rfl ?_); refine box_event ?hg (N := 2) ?hd (cs := #[.int .i64 a0_0, .slice A0_1 l0_1.length c0_1]) (t := 31) ?hr ?_; (case hd => rfl); (case hg => rfl); (case hr => first | (go_simp; done) | (go_simp; rfl)); intro gb500 hg w10 hbox hb; have BK500 := Aside0.mk (hbox); have GW500 := Aside0.mk ((by rw [hg]; exact (below_size (Lz HB)) : w.heap.size ≤ gb500)); have GE500 := Aside0.mk ((by rw [hg]; exact (below_size (Lz HB)) : w.heap.size ≤ gb500)); replace HB := Aside0.mk (below_step (Lz HB) hb); clear hb hbox hg; have hcz11_0 : w10.cell? ⟨gb500, 0, none⟩ = some (.int .i64 a0_0) := (blk_cell BK500.out 0).trans rfl; have hcz11_1 : w10.cell? ⟨gb500, 1, none⟩ = some (.slice A0_1 l0_1.length c0_1) := (blk_cell BK500.out 1).trans rfl; have hfz11_0 := blk_frozen BK500.out 0; have hfz11_1 := blk_frozen BK500.out 1) | ((with_reducible refine gate_callee (f := 50) rfl ?_); refine goesM_ (some 6) rfl rfl Try.func50 (by kernel_rfl) rfl #[.agg #[.int .i64 a0_0, .slice A0_1 l0_1.length c0_1]] rfl ?_; (with_reducible refine (impl_GraphOk.calls k a0_0 _ _ l0_1 false _ ?side1 ?side2 A3.out).mono ?_); (case side1 => exact Cz ((Kd.C_below HR0_1.out HB.out))); (case side2 => exact HC0_1.out); rintro e w12 ⟨rfl, hb⟩; refine ⟨_, rfl, ?_⟩; replace BK500 := Aside0.mk (blk_below (g := gb500) (o := .cells #[.int .i64 a0_0, .slice A0_1 l0_1.length c0_1] 31 (0, 0)) (Bz BK500) hb); replace HB := Aside0.mk (below_step (by exact Lz1 HB GE500) hb); (try clear hb); (try clear hb2); (try clear hk); (try clear hi)))
 go_ret
 exact ⟨by first | rfl | (simp [errW_none, errW_some] <;> rfl) | (simp [*, errW_none, errW_some] <;> rfl), by exact Lz1 HB GE500⟩
def impl_ReducedOf.f (k : Nat) (a0_0 : Int) (l0_1 : List (S67)) (l1 : List Int) (a2 : Int) : Option (List Int × Bool) := (impl_DivisorOk.f k a0_0 l0_1 l1).bind fun t504 => (if t504 = true then ((impl_isVertex.f k a0_0 l0_1 a2).bind fun t505 => (if t505 = true then ((impl_reduce.f k a0_0 l0_1 l1 a2).bind fun bt506 => (some (bt506.1, true))) else (some (([] : List Int), false)))) else (some (([] : List Int), false)))
set_option maxHeartbeats 8000000 in
set_option maxRecDepth 100000 in
theorem impl_ReducedOf.calls (k : Nat) (a0_0 : Int) (A0_1 : Option Addr) (c0_1 : Nat) (l0_1 : List (S67)) (A1 : Option Addr) (c1 : Nat) (l1 : List Int) (a2 : Int) (r1 : List Int) (r2 : Bool) (w : World) (hr0_1 : Kd.C k67 w A0_1 l0_1.length l0_1) (hc0_1 : l0_1.length ≤ c0_1) (hr1 : Kd.C (Kd.int .i64) w A1 l1.length l1) (hc1 : l1.length ≤ c1) (h : impl_ReducedOf.f k a0_0 l0_1 l1 a2 = some (r1, r2)) :
  Calls Try.prog 25 #[.agg #[.int .i64 a0_0, .slice A0_1 l0_1.length c0_1], .slice A1 l1.length c1, .int .i64 a2] w fun e w' => ∃ v0_ : Value, e = .returned (.tuple #[v0_, .bool r2]) ∧ Kd.R (Kd.int .i64) 3 w' w.heap.size (fun _ => True) v0_ r1 ∧ Below w.heap.size w w' := by
 have hu31 := Try.underlying31
 have HR0_1 := Aside0.mk hr0_1
 have HC0_1 := Aside0.mk hc0_1
 clear hr0_1 hc0_1
 have HR1 := Aside0.mk hr1
 have HC1 := Aside0.mk hc1
 clear hr1 hc1
 have HB := Aside0.mk (Below.refl w.heap.size w)
 have H : ((impl_DivisorOk.f k a0_0 l0_1 l1).bind fun t504 => (if t504 = true then ((impl_isVertex.f k a0_0 l0_1 a2).bind fun t505 => (if t505 = true then ((impl_reduce.f k a0_0 l0_1 l1 a2).bind fun bt506 => (some (bt506.1, true))) else (some (([] : List Int), false)))) else (some (([] : List Int), false)))) = some (r1, r2) := h
 clear h
 replace H := Option.bind_eq_some_iff.mp H
 obtain ⟨t504, A40, H⟩ := H
 replace H : (if t504 = true then ((impl_isVertex.f k a0_0 l0_1 a2).bind fun t505 => (if t505 = true then ((impl_reduce.f k a0_0 l0_1 l1 a2).bind fun bt506 => (some (bt506.1, true))) else (some (([] : List Int), false)))) else (some (([] : List Int), false))) = some (r1, r2) := H
 have A4 := Aside0.mk A40
 clear A40
 by_cases c5 : t504 = true
 ·subst c5
  have H1 : ((impl_isVertex.f k a0_0 l0_1 a2).bind fun t505 => (if t505 = true then ((impl_reduce.f k a0_0 l0_1 l1 a2).bind fun bt506 => (some (bt506.1, true))) else (some (([] : List Int), false)))) = some (r1, r2) := by rw [if_pos rfl] at H; exact H
  clear H
  have H := H1
  clear H1
  replace H := Option.bind_eq_some_iff.mp H
  obtain ⟨t505, A60, H⟩ := H
  replace H : (if t505 = true then ((impl_reduce.f k a0_0 l0_1 l1 a2).bind fun bt506 => (some (bt506.1, true))) else (some (([] : List Int), false))) = some (r1, r2) := H
  have A6 := Aside0.mk A60
  clear A60
  by_cases c7 : t505 = true
  ·subst c7
   have H1 : ((impl_reduce.f k a0_0 l0_1 l1 a2).bind fun bt506 => (some (bt506.1, true))) = some (r1, r2) := by rw [if_pos rfl] at H; exact H
   clear H
   have H := H1
   clear H1
   replace H := Option.bind_eq_some_iff.mp H
   obtain ⟨⟨t506, t509⟩, A80, H⟩ := H
   replace H : (some (t506, true)) = some (r1, r2) := H
   have A8 := Aside0.mk A80
   clear A80
   simp only [Option.some.injEq, Prod.mk.injEq] at H
   obtain ⟨rfl, rfl⟩ := H
   go_enter Try.func25, Try.ntmps25
   go_wp2_with (first | ((with_reducible refine gate_dst (N := 3) rfl ?_); refine box_event ?hg (N := 3) ?hd (cs := #[.int .i64 a0_0, .slice A0_1 l0_1.length c0_1]) (t := 31) ?hr ?_; (case hd => rfl); (case hg => rfl); (case hr => first | (go_simp; done) | (go_simp; rfl)); intro gb503 hg w9 hbox hb; have BK503 := Aside0.mk (hbox); have GW503 := Aside0.mk ((by rw [hg]; exact (below_size (Lz HB)) : w.heap.size ≤ gb503)); have GE503 := Aside0.mk ((by rw [hg]; exact (below_size (Lz HB)) : w.heap.size ≤ gb503)); replace HB := Aside0.mk (below_step (Lz HB) hb); clear hb hbox hg; have hcz10_0 : w9.cell? ⟨gb503, 0, none⟩ = some (.int .i64 a0_0) := (blk_cell BK503.out 0).trans rfl; have hcz10_1 : w9.cell? ⟨gb503, 1, none⟩ = some (.slice A0_1 l0_1.length c0_1) := (blk_cell BK503.out 1).trans rfl; have hfz10_0 := blk_frozen BK503.out 0; have hfz10_1 := blk_frozen BK503.out 1) | ((with_reducible refine gate_callee (f := 71) rfl ?_); refine goesM_ (some 12) rfl rfl Try.func71 (by kernel_rfl) rfl #[.agg #[.int .i64 a0_0, .slice A0_1 l0_1.length c0_1], .slice A1 l1.length c1] rfl ?_; (with_reducible refine (impl_DivisorOk.calls k a0_0 _ _ l0_1 _ _ l1 true _ ?side1 ?side2 ?side3 ?side4 A4.out).mono ?_); (case side1 => exact Cz ((Kd.C_below HR0_1.out HB.out))); (case side2 => exact HC0_1.out); (case side3 => exact Cz ((Kd.C_below HR1.out HB.out))); (case side4 => exact HC1.out); rintro e w11 ⟨rfl, hb⟩; refine ⟨_, rfl, ?_⟩; replace BK503 := Aside0.mk (blk_below (g := gb503) (o := .cells #[.int .i64 a0_0, .slice A0_1 l0_1.length c0_1] 31 (0, 0)) (Bz BK503) hb); replace HB := Aside0.mk (below_step (by exact Lz1 HB GE503) hb); (try clear hb); (try clear hb2); (try clear hk); (try clear hi); have hcz12_0 : w11.cell? ⟨gb503, 0, none⟩ = some (.int .i64 a0_0) := (blk_cell BK503.out 0).trans rfl; have hcz12_1 : w11.cell? ⟨gb503, 1, none⟩ = some (.slice A0_1 l0_1.length c0_1) := (blk_cell BK503.out 1).trans rfl; have hfz12_0 := blk_frozen BK503.out 0; have hfz12_1 := blk_frozen BK503.out 1) | (go_at_call 72; (with_reducible refine (impl_isVertex.calls k a0_0 _ _ l0_1 a2 true _ ?side1 ?side2 A6.out).mono ?_); (case side1 => exact Cz ((Kd.C_below HR0_1.out HB.out))); (case side2 => exact HC0_1.out); rintro e w13 ⟨rfl, hb⟩; replace BK503 := Aside0.mk (blk_below (g := gb503) (o := .cells #[.int .i64 a0_0, .slice A0_1 l0_1.length c0_1] 31 (0, 0)) (Bz BK503) hb); replace HB := Aside0.mk (below_step (by exact Lz1 HB GE503) hb); (try clear hb); (try clear hb2); (try clear hk); (try clear hi); have hcz14_0 : w13.cell? ⟨gb503, 0, none⟩ = some (.int .i64 a0_0) := (blk_cell BK503.out 0).trans rfl; have hcz14_1 : w13.cell? ⟨gb503, 1, none⟩ = some (.slice A0_1 l0_1.length c0_1) := (blk_cell BK503.out 1).trans rfl; have hfz14_0 := blk_frozen BK503.out 0; have hfz14_1 := blk_frozen BK503.out 1) | ((with_reducible refine gate_callee (f := 60) rfl ?_); refine goesM_ (some 24) rfl rfl Try.func60 (by kernel_rfl) rfl #[.agg #[.int .i64 a0_0, .slice A0_1 l0_1.length c0_1], .slice A1 l1.length c1, .int .i64 a2] rfl ?_; (with_reducible refine (impl_reduce.calls k a0_0 _ _ l0_1 _ _ l1 a2 t506 t509 _ ?side1 ?side2 ?side3 ?side4 A8.out).mono ?_); (case side1 => exact Cz ((Kd.C_below HR0_1.out HB.out))); (case side2 => exact HC0_1.out); (case side3 => exact Cz ((Kd.C_below HR1.out HB.out))); (case side4 => exact HC1.out); rintro e w15 ⟨v507, v510, rfl, ho0, ho1, hb⟩; refine ⟨_, rfl, ?_⟩; have HO508 := Aside0.mk (Kd.R_lower ho0 (below_size (by exact Lz1 HB GE503))); have HO511 := Aside0.mk (Kd.R_lower ho1 (below_size (by exact Lz1 HB GE503))); replace BK503 := Aside0.mk (blk_below (g := gb503) (o := .cells #[.int .i64 a0_0, .slice A0_1 l0_1.length c0_1] 31 (0, 0)) (Bz BK503) hb); replace HB := Aside0.mk (below_step (by exact Lz1 HB GE503) hb); (try clear hb); (try clear ho0); (try clear ho1)))
   go_ret2
   exact ⟨_, by first | rfl | (simp [errW_none, errW_some] <;> rfl) | (simp [*, errW_none, errW_some] <;> rfl), by (with_reducible repeat (first | apply Kd.R_alloc | apply Kd.R_drewN | apply Kd.R_drew)); exact Kd.R_mono HO508.out (fun _ hk => trivial), by exact Lz1 HB GE503⟩
  replace c7 := Bool.eq_false_iff.mpr c7
  subst c7
  have H1 : (some (([] : List Int), false)) = some (r1, r2) := by rw [if_neg (show ¬ (false = true) by decide)] at H; exact H
  clear H
  have H := H1
  clear H1
  simp only [Option.some.injEq, Prod.mk.injEq] at H
  obtain ⟨rfl, rfl⟩ := H
  go_enter Try.func25, Try.ntmps25
  go_wp2_with (first | ((with_reducible refine gate_dst (N := 3) rfl ?_); refine box_event ?hg (N := 3) ?hd (cs := #[.int .i64 a0_0, .slice A0_1 l0_1.length c0_1]) (t := 31) ?hr ?_; (case hd => rfl); (case hg => rfl); (case hr => first | (go_simp; done) | (go_simp; rfl)); intro gb503 hg w16 hbox hb; have BK503 := Aside0.mk (hbox); have GW503 := Aside0.mk ((by rw [hg]; exact (below_size (Lz HB)) : w.heap.size ≤ gb503)); have GE503 := Aside0.mk ((by rw [hg]; exact (below_size (Lz HB)) : w.heap.size ≤ gb503)); replace HB := Aside0.mk (below_step (Lz HB) hb); clear hb hbox hg; have hcz17_0 : w16.cell? ⟨gb503, 0, none⟩ = some (.int .i64 a0_0) := (blk_cell BK503.out 0).trans rfl; have hcz17_1 : w16.cell? ⟨gb503, 1, none⟩ = some (.slice A0_1 l0_1.length c0_1) := (blk_cell BK503.out 1).trans rfl; have hfz17_0 := blk_frozen BK503.out 0; have hfz17_1 := blk_frozen BK503.out 1) | ((with_reducible refine gate_callee (f := 71) rfl ?_); refine goesM_ (some 12) rfl rfl Try.func71 (by kernel_rfl) rfl #[.agg #[.int .i64 a0_0, .slice A0_1 l0_1.length c0_1], .slice A1 l1.length c1] rfl ?_; (with_reducible refine (impl_DivisorOk.calls k a0_0 _ _ l0_1 _ _ l1 true _ ?side1 ?side2 ?side3 ?side4 A4.out).mono ?_); (case side1 => exact Cz ((Kd.C_below HR0_1.out HB.out))); (case side2 => exact HC0_1.out); (case side3 => exact Cz ((Kd.C_below HR1.out HB.out))); (case side4 => exact HC1.out); rintro e w18 ⟨rfl, hb⟩; refine ⟨_, rfl, ?_⟩; replace BK503 := Aside0.mk (blk_below (g := gb503) (o := .cells #[.int .i64 a0_0, .slice A0_1 l0_1.length c0_1] 31 (0, 0)) (Bz BK503) hb); replace HB := Aside0.mk (below_step (by exact Lz1 HB GE503) hb); (try clear hb); (try clear hb2); (try clear hk); (try clear hi); have hcz19_0 : w18.cell? ⟨gb503, 0, none⟩ = some (.int .i64 a0_0) := (blk_cell BK503.out 0).trans rfl; have hcz19_1 : w18.cell? ⟨gb503, 1, none⟩ = some (.slice A0_1 l0_1.length c0_1) := (blk_cell BK503.out 1).trans rfl; have hfz19_0 := blk_frozen BK503.out 0; have hfz19_1 := blk_frozen BK503.out 1) | (go_at_call 72; (with_reducible refine (impl_isVertex.calls k a0_0 _ _ l0_1 a2 false _ ?side1 ?side2 A6.out).mono ?_); (case side1 => exact Cz ((Kd.C_below HR0_1.out HB.out))); (case side2 => exact HC0_1.out); rintro e w20 ⟨rfl, hb⟩; replace BK503 := Aside0.mk (blk_below (g := gb503) (o := .cells #[.int .i64 a0_0, .slice A0_1 l0_1.length c0_1] 31 (0, 0)) (Bz BK503) hb); replace HB := Aside0.mk (below_step (by exact Lz1 HB GE503) hb); (try clear hb); (try clear hb2); (try clear hk); (try clear hi)))
  go_ret2
  exact ⟨_, by first | rfl | (simp [errW_none, errW_some] <;> rfl) | (simp [*, errW_none, errW_some] <;> rfl), by first | exact Kd.R_nil _ _ _ _ _ | exact Kd.N_nil _ _ _ _ _ | exact Kd.V_nil _ _ _ _ _ | exact Kd.Q_nil _ _ _ _ _ | exact Kd.S_nil _ _ _ _ _, by exact Lz1 HB GE503⟩
 replace c5 := Bool.eq_false_iff.mpr c5
 subst c5
 have H1 : (some (([] : List Int), false)) = some (r1, r2) := by rw [if_neg (show ¬ (false = true) by decide)] at H; exact H
 clear H
 have H := H1
 clear H1
 simp only [Option.some.injEq, Prod.mk.injEq] at H
 obtain ⟨rfl, rfl⟩ := H
 go_enter Try.func25, Try.ntmps25
 go_wp2_with (first | ((with_reducible refine gate_dst (N := 3) rfl ?_); refine box_event ?hg (N := 3) ?hd (cs := #[.int .i64 a0_0, .slice A0_1 l0_1.length c0_1]) (t := 31) ?hr ?_; (case hd => rfl); (case hg => rfl); (case hr => first | (go_simp; done) | (go_simp; rfl)); intro gb503 hg w21 hbox hb; have BK503 := Aside0.mk (hbox); have GW503 := Aside0.mk ((by rw [hg]; exact (below_size (Lz HB)) : w.heap.size ≤ gb503)); have GE503 := Aside0.mk ((by rw [hg]; exact (below_size (Lz HB)) : w.heap.size ≤ gb503)); replace HB := Aside0.mk (below_step (Lz HB) hb); clear hb hbox hg; have hcz22_0 : w21.cell? ⟨gb503, 0, none⟩ = some (.int .i64 a0_0) := (blk_cell BK503.out 0).trans rfl; have hcz22_1 : w21.cell? ⟨gb503, 1, none⟩ = some (.slice A0_1 l0_1.length c0_1) := (blk_cell BK503.out 1).trans rfl; have hfz22_0 := blk_frozen BK503.out 0; have hfz22_1 := blk_frozen BK503.out 1) | ((with_reducible refine gate_callee (f := 71) rfl ?_); refine goesM_ (some 12) rfl rfl Try.func71 (by kernel_rfl) rfl #[.agg #[.int .i64 a0_0, .slice A0_1 l0_1.length c0_1], .slice A1 l1.length c1] rfl ?_; (with_reducible refine (impl_DivisorOk.calls k a0_0 _ _ l0_1 _ _ l1 false _ ?side1 ?side2 ?side3 ?side4 A4.out).mono ?_); (case side1 => exact Cz ((Kd.C_below HR0_1.out HB.out))); (case side2 => exact HC0_1.out); (case side3 => exact Cz ((Kd.C_below HR1.out HB.out))); (case side4 => exact HC1.out); rintro e w23 ⟨rfl, hb⟩; refine ⟨_, rfl, ?_⟩; replace BK503 := Aside0.mk (blk_below (g := gb503) (o := .cells #[.int .i64 a0_0, .slice A0_1 l0_1.length c0_1] 31 (0, 0)) (Bz BK503) hb); replace HB := Aside0.mk (below_step (by exact Lz1 HB GE503) hb); (try clear hb); (try clear hb2); (try clear hk); (try clear hi)))
 go_ret2
 exact ⟨_, by first | rfl | (simp [errW_none, errW_some] <;> rfl) | (simp [*, errW_none, errW_some] <;> rfl), by first | exact Kd.R_nil _ _ _ _ _ | exact Kd.N_nil _ _ _ _ _ | exact Kd.V_nil _ _ _ _ _ | exact Kd.Q_nil _ _ _ _ _ | exact Kd.S_nil _ _ _ _ _, by exact Lz1 HB GE503⟩
def impl_RepresentativeOf.f (k : Nat) (a0_0 : Int) (l0_1 : List (S67)) (l1 : List Int) : Option (List Int × Bool) := (impl_ReducedOf.f k a0_0 l0_1 l1 0).bind fun bt513 => (some (bt513.1, bt513.2))
set_option maxHeartbeats 8000000 in
set_option maxRecDepth 100000 in
theorem impl_RepresentativeOf.calls (k : Nat) (a0_0 : Int) (A0_1 : Option Addr) (c0_1 : Nat) (l0_1 : List (S67)) (A1 : Option Addr) (c1 : Nat) (l1 : List Int) (r1 : List Int) (r2 : Bool) (w : World) (hr0_1 : Kd.C k67 w A0_1 l0_1.length l0_1) (hc0_1 : l0_1.length ≤ c0_1) (hr1 : Kd.C (Kd.int .i64) w A1 l1.length l1) (hc1 : l1.length ≤ c1) (h : impl_RepresentativeOf.f k a0_0 l0_1 l1 = some (r1, r2)) :
  Calls Try.prog 84 #[.agg #[.int .i64 a0_0, .slice A0_1 l0_1.length c0_1], .slice A1 l1.length c1] w fun e w' => ∃ v0_ : Value, e = .returned (.tuple #[v0_, .bool r2]) ∧ Kd.R (Kd.int .i64) 3 w' w.heap.size (fun _ => True) v0_ r1 ∧ Below w.heap.size w w' := by
 have hu31 := Try.underlying31
 have HR0_1 := Aside0.mk hr0_1
 have HC0_1 := Aside0.mk hc0_1
 clear hr0_1 hc0_1
 have HR1 := Aside0.mk hr1
 have HC1 := Aside0.mk hc1
 clear hr1 hc1
 have HB := Aside0.mk (Below.refl w.heap.size w)
 have H : ((impl_ReducedOf.f k a0_0 l0_1 l1 0).bind fun bt513 => (some (bt513.1, bt513.2))) = some (r1, r2) := h
 clear h
 replace H := Option.bind_eq_some_iff.mp H
 obtain ⟨⟨t513, t516⟩, A30, H⟩ := H
 replace H : (some (t513, t516)) = some (r1, r2) := H
 have A3 := Aside0.mk A30
 clear A30
 simp only [Option.some.injEq, Prod.mk.injEq] at H
 obtain ⟨rfl, rfl⟩ := H
 go_enter Try.func84, Try.ntmps84
 go_wp2_with (first | ((with_reducible refine gate_dst (N := 2) rfl ?_); refine box_event ?hg (N := 2) ?hd (cs := #[.int .i64 a0_0, .slice A0_1 l0_1.length c0_1]) (t := 31) ?hr ?_; (case hd => rfl); (case hg => rfl); (case hr => first | (go_simp; done) | (go_simp; rfl)); intro gb512 hg w4 hbox hb; have BK512 := Aside0.mk (hbox); have GW512 := Aside0.mk ((by rw [hg]; exact (below_size (Lz HB)) : w.heap.size ≤ gb512)); have GE512 := Aside0.mk ((by rw [hg]; exact (below_size (Lz HB)) : w.heap.size ≤ gb512)); replace HB := Aside0.mk (below_step (Lz HB) hb); clear hb hbox hg; have hcz5_0 : w4.cell? ⟨gb512, 0, none⟩ = some (.int .i64 a0_0) := (blk_cell BK512.out 0).trans rfl; have hcz5_1 : w4.cell? ⟨gb512, 1, none⟩ = some (.slice A0_1 l0_1.length c0_1) := (blk_cell BK512.out 1).trans rfl; have hfz5_0 := blk_frozen BK512.out 0; have hfz5_1 := blk_frozen BK512.out 1) | ((with_reducible refine gate_callee (f := 25) rfl ?_); refine goesM_ (some 8) rfl rfl Try.func25 (by kernel_rfl) rfl #[.agg #[.int .i64 a0_0, .slice A0_1 l0_1.length c0_1], .slice A1 l1.length c1, .int .i64 0] rfl ?_; (with_reducible refine (impl_ReducedOf.calls k a0_0 _ _ l0_1 _ _ l1 0 t513 t516 _ ?side1 ?side2 ?side3 ?side4 A3.out).mono ?_); (case side1 => exact Cz ((Kd.C_below HR0_1.out HB.out))); (case side2 => exact HC0_1.out); (case side3 => exact Cz ((Kd.C_below HR1.out HB.out))); (case side4 => exact HC1.out); rintro e w6 ⟨v514, rfl, ho0, hb⟩; refine ⟨_, rfl, ?_⟩; have HO515 := Aside0.mk (Kd.R_lower ho0 (below_size (by exact Lz1 HB GE512))); replace BK512 := Aside0.mk (blk_below (g := gb512) (o := .cells #[.int .i64 a0_0, .slice A0_1 l0_1.length c0_1] 31 (0, 0)) (Bz BK512) hb); replace HB := Aside0.mk (below_step (by exact Lz1 HB GE512) hb); (try clear hb); (try clear ho0)))
 go_ret2
 exact ⟨_, by first | rfl | (simp [errW_none, errW_some] <;> rfl) | (simp [*, errW_none, errW_some] <;> rfl), by exact Rz HO515, by exact Lz1 HB GE512⟩
def slices_Equal_int_int.l0 : Nat → List Int → List Int → Int → Int → Option (Bool)
 | 0, _, _, _, _ => none
 | k + 1, x0, x1, x12, x13 => if x13 < x12 then (if 0 ≤ x13 then (if x13 < (x0.length : Int) then (if x13 < (x1.length : Int) then (if (rd x0 x13) = (rd x1 x13) then (slices_Equal_int_int.l0 k x0 x1 x12 (wrap64 (x13 + 1))) else (some false)) else (none)) else (none)) else (none)) else (some true)
def slices_Equal_int_int.f (k : Nat) (l0 : List Int) (l1 : List Int) : Option (Bool) := if (l0.length : Int) = (l1.length : Int) then (slices_Equal_int_int.l0 k l0 l1 (l0.length : Int) 0) else (some false)
set_option maxHeartbeats 8000000 in
set_option maxRecDepth 100000 in
theorem slices_Equal_int_int.calls (k : Nat) (A0 : Option Addr) (c0 : Nat) (l0 : List Int) (A1 : Option Addr) (c1 : Nat) (l1 : List Int) (r : Bool) (w : World) (hr0 : Kd.C (Kd.int .i64) w A0 l0.length l0) (hc0 : l0.length ≤ c0) (hr1 : Kd.C (Kd.int .i64) w A1 l1.length l1) (hc1 : l1.length ≤ c1) (h : slices_Equal_int_int.f k l0 l1 = some r) :
  Calls Try.prog 110 #[.slice A0 l0.length c0, .slice A1 l1.length c1] w fun e w' => e = .returned (.bool r) ∧ Drawn0 w w' := by
 have HR0 := Aside0.mk hr0
 have HC0 := Aside0.mk hc0
 clear hr0 hc0
 have HR1 := Aside0.mk hr1
 have HC1 := Aside0.mk hc1
 clear hr1 hc1
 have H : (if (l0.length : Int) = (l1.length : Int) then (slices_Equal_int_int.l0 k l0 l1 (l0.length : Int) 0) else (some false)) = some r := h
 clear h
 by_cases c3 : (l0.length : Int) = (l1.length : Int)
 ·rw [if_pos c3] at H
  have c3b0 : ((l0.length : Int) == (l1.length : Int)) = true := beq_iff_eq.mpr c3
  have c3b1 : ((l0.length : Int) != (l1.length : Int)) = false := bne_eq_false_iff_eq.mpr c3
  have c3b2 : (l0.length == l1.length) = true := by first | simpa using c3 | (simp at c3 ⊢; omega)
  clear c3
  have H' := Aside0.mk H
  clear H
  go_enter Try.func110, Try.ntmps110
  go_wp2
  repeat (go_quiet (fail); try go_wp2)
  go_loopg [13] k (fun kq v13 w' => ∃ (x13_1 : Int), v13 = .int .i64 x13_1 ∧ Aside0 (slices_Equal_int_int.l0 kq l0 l1 (l0.length : Int) x13_1 = some r) ∧ Aside0 (kq ≤ k) ∧ Drawn0 w w')
  case atStart => exact ⟨(0), eqA, H', ⟨Nat.le_refl _⟩, by repeat (first | exact Drawn0.refl _ | apply Drawn0.step)⟩
  case round =>
   clear H'
   try clear c1
   try clear c3
   try clear c3b0
   try clear c3b1
   try clear c3b2
   obtain ⟨x13_1, rfl, HA, HK1, ⟨m1, rfl⟩⟩ := hrel
   cases gk with
   | zero => exact absurd HA.out (by simp [slices_Equal_int_int.l0])
   | succ k1 =>
    have H := HA.out
    clear HA
    simp only [slices_Equal_int_int.l0] at H
    by_cases c4 : x13_1 < (l0.length : Int)
    ·rw [if_pos c4] at H
     have c4b0 : decide (x13_1 < (l0.length : Int)) = true := decide_eq_true c4
     clear c4
     by_cases c5 : 0 ≤ x13_1
     ·rw [if_pos c5] at H
      have c5b0 : decide (0 ≤ x13_1) = true := decide_eq_true c5
      clear c5
      by_cases c6 : x13_1 < (l0.length : Int)
      ·rw [if_pos c6] at H
       have c6b0 : decide (x13_1 < (l0.length : Int)) = true := decide_eq_true c6
       clear c6
       by_cases c7 : x13_1 < (l1.length : Int)
       ·rw [if_pos c7] at H
        have c7b0 : decide (x13_1 < (l1.length : Int)) = true := decide_eq_true c7
        clear c7
        by_cases c8 : (rd l0 x13_1) = (rd l1 x13_1)
        ·rw [if_pos c8] at H
         have c8b0 : ((rd l0 x13_1) == (rd l1 x13_1)) = true := beq_iff_eq.mpr c8
         have c8b1 : ((rd l0 x13_1) != (rd l1 x13_1)) = false := bne_eq_false_iff_eq.mpr c8
         clear c8
         have H' := Aside0.mk H
         clear H
         have p517 : 0 ≤ (x13_1 : Int) := ofA
         have q517 : x13_1 < (l0.length : Int) := ofA
         obtain ⟨ad517, e517, hx517_0⟩ := Kd.at_int HR0.out x13_1 p517 q517
         cases e517
         replace p517 := eq_true p517
         replace q517 := eq_true q517
         have p518 : 0 ≤ (x13_1 : Int) := ofA
         have q518 : x13_1 < (l1.length : Int) := ofA
         obtain ⟨ad518, e518, hx518_0⟩ := Kd.at_int HR1.out x13_1 p518 q518
         cases e518
         replace p518 := eq_true p518
         replace q518 := eq_true q518
         go_wp2
         repeat (go_quiet (fail); try go_wp2)
         go_roundg k1
         case measure => have := HK1.out; omega
         case rel => exact ⟨(wrap64 (x13_1 + 1)), eqA, H', ⟨by have := HK1.out; omega⟩, by repeat (first | exact Drawn0.refl _ | apply Drawn0.step)⟩
        rw [if_neg c8] at H
        have c8b0 : ((rd l0 x13_1) == (rd l1 x13_1)) = false := beq_eq_false_iff_ne.mpr c8
        have c8b1 : ((rd l0 x13_1) != (rd l1 x13_1)) = true := bne_iff_ne.mpr c8
        obtain rfl := Option.some.inj H
        have p517 : 0 ≤ (x13_1 : Int) := ofA
        have q517 : x13_1 < (l0.length : Int) := ofA
        obtain ⟨ad517, e517, hx517_0⟩ := Kd.at_int HR0.out x13_1 p517 q517
        cases e517
        replace p517 := eq_true p517
        replace q517 := eq_true q517
        have p518 : 0 ≤ (x13_1 : Int) := ofA
        have q518 : x13_1 < (l1.length : Int) := ofA
        obtain ⟨ad518, e518, hx518_0⟩ := Kd.at_int HR1.out x13_1 p518 q518
        cases e518
        replace p518 := eq_true p518
        replace q518 := eq_true q518
        go_wp2
        repeat (go_quiet (fail); try go_wp2)
        go_ret
        exact ⟨eqA, by repeat (first | exact Drawn0.refl _ | apply Drawn0.step)⟩
       rw [if_neg c7] at H
       exact absurd H (by simp)
      rw [if_neg c6] at H
      exact absurd H (by simp)
     rw [if_neg c5] at H
     exact absurd H (by simp)
    rw [if_neg c4] at H
    have c4b0 : decide (x13_1 < (l0.length : Int)) = false := decide_eq_false c4
    clear c4
    obtain rfl := Option.some.inj H
    go_wp2
    repeat (go_quiet (fail); try go_wp2)
    go_ret
    exact ⟨eqA, by repeat (first | exact Drawn0.refl _ | apply Drawn0.step)⟩
 rw [if_neg c3] at H
 have c3b0 : ((l0.length : Int) == (l1.length : Int)) = false := beq_eq_false_iff_ne.mpr c3
 have c3b1 : ((l0.length : Int) != (l1.length : Int)) = true := bne_iff_ne.mpr c3
 have c3b2 : (l0.length == l1.length) = false := by first | simpa using c3 | (simp at c3 ⊢; omega)
 obtain rfl := Option.some.inj H
 go_enter Try.func110, Try.ntmps110
 go_wp2
 repeat (go_quiet (fail); try go_wp2)
 go_ret
 exact ⟨eqA, by repeat (first | exact Drawn0.refl _ | apply Drawn0.step)⟩
def impl_SameDivisor.f (k : Nat) (l0 : List Int) (l1 : List Int) : Option (Bool) := (slices_Equal_int_int.f k l0 l1).bind fun t519 => (some t519)
set_option maxHeartbeats 8000000 in
set_option maxRecDepth 100000 in
theorem impl_SameDivisor.calls (k : Nat) (A0 : Option Addr) (c0 : Nat) (l0 : List Int) (A1 : Option Addr) (c1 : Nat) (l1 : List Int) (r : Bool) (w : World) (hr0 : Kd.C (Kd.int .i64) w A0 l0.length l0) (hc0 : l0.length ≤ c0) (hr1 : Kd.C (Kd.int .i64) w A1 l1.length l1) (hc1 : l1.length ≤ c1) (h : impl_SameDivisor.f k l0 l1 = some r) :
  Calls Try.prog 85 #[.slice A0 l0.length c0, .slice A1 l1.length c1] w fun e w' => e = .returned (.bool r) ∧ Drawn0 w w' := by
 have HR0 := Aside0.mk hr0
 have HC0 := Aside0.mk hc0
 clear hr0 hc0
 have HR1 := Aside0.mk hr1
 have HC1 := Aside0.mk hc1
 clear hr1 hc1
 have H : ((slices_Equal_int_int.f k l0 l1).bind fun t519 => (some t519)) = some r := h
 clear h
 replace H := Option.bind_eq_some_iff.mp H
 obtain ⟨t519, A30, H⟩ := H
 replace H : (some t519) = some r := H
 have A3 := Aside0.mk A30
 clear A30
 obtain rfl := Option.some.inj H
 go_enter Try.func85, Try.ntmps85
 go_wp2_with (first | ((with_reducible refine gate_callee (f := 110) rfl ?_); refine goesM_ (some 7) rfl rfl Try.func110 (by kernel_rfl) rfl #[.slice A0 l0.length c0, .slice A1 l1.length c1] rfl ?_; (with_reducible refine (slices_Equal_int_int.calls k _ _ l0 _ _ l1 t519 _ ?side1 ?side2 ?side3 ?side4 A3.out).mono ?_); (case side1 => exact Cz (HR0.out)); (case side2 => exact HC0.out); (case side3 => exact Cz (HR1.out)); (case side4 => exact HC1.out); rintro e w' ⟨rfl, ⟨nd, rfl⟩⟩; refine ⟨_, rfl, ?_⟩))
 go_ret
 exact ⟨eqA, by repeat (first | exact Drawn0.refl _ | apply Drawn0.step)⟩
def impl_AreEquivalent.f (k : Nat) (a0_0 : Int) (l0_1 : List (S67)) (l1 : List Int) (l2 : List Int) : Option (Bool) := (impl_RepresentativeOf.f k a0_0 l0_1 l1).bind fun bt521 => ((impl_RepresentativeOf.f k a0_0 l0_1 l2).bind fun bt525 => (if bt521.2 = true then (if bt525.2 = true then ((impl_SameDivisor.f k bt521.1 bt525.1).bind fun t529 => (some t529)) else (some false)) else (some false)))
set_option maxHeartbeats 8000000 in
set_option maxRecDepth 100000 in
theorem impl_AreEquivalent.calls (k : Nat) (a0_0 : Int) (A0_1 : Option Addr) (c0_1 : Nat) (l0_1 : List (S67)) (A1 : Option Addr) (c1 : Nat) (l1 : List Int) (A2 : Option Addr) (c2 : Nat) (l2 : List Int) (r : Bool) (w : World) (hr0_1 : Kd.C k67 w A0_1 l0_1.length l0_1) (hc0_1 : l0_1.length ≤ c0_1) (hr1 : Kd.C (Kd.int .i64) w A1 l1.length l1) (hc1 : l1.length ≤ c1) (hr2 : Kd.C (Kd.int .i64) w A2 l2.length l2) (hc2 : l2.length ≤ c2) (h : impl_AreEquivalent.f k a0_0 l0_1 l1 l2 = some r) :
  Calls Try.prog 45 #[.agg #[.int .i64 a0_0, .slice A0_1 l0_1.length c0_1], .slice A1 l1.length c1, .slice A2 l2.length c2] w fun e w' => e = .returned (.bool r) ∧ Below w.heap.size w w' := by
 have hu31 := Try.underlying31
 have HR0_1 := Aside0.mk hr0_1
 have HC0_1 := Aside0.mk hc0_1
 clear hr0_1 hc0_1
 have HR1 := Aside0.mk hr1
 have HC1 := Aside0.mk hc1
 clear hr1 hc1
 have HR2 := Aside0.mk hr2
 have HC2 := Aside0.mk hc2
 clear hr2 hc2
 have HB := Aside0.mk (Below.refl w.heap.size w)
 have H : ((impl_RepresentativeOf.f k a0_0 l0_1 l1).bind fun bt521 => ((impl_RepresentativeOf.f k a0_0 l0_1 l2).bind fun bt525 => (if bt521.2 = true then (if bt525.2 = true then ((impl_SameDivisor.f k bt521.1 bt525.1).bind fun t529 => (some t529)) else (some false)) else (some false)))) = some r := h
 clear h
 replace H := Option.bind_eq_some_iff.mp H
 obtain ⟨⟨t521, t524⟩, A40, H⟩ := H
 replace H : ((impl_RepresentativeOf.f k a0_0 l0_1 l2).bind fun bt525 => (if t524 = true then (if bt525.2 = true then ((impl_SameDivisor.f k t521 bt525.1).bind fun t529 => (some t529)) else (some false)) else (some false))) = some r := H
 have A4 := Aside0.mk A40
 clear A40
 replace H := Option.bind_eq_some_iff.mp H
 obtain ⟨⟨t525, t528⟩, A50, H⟩ := H
 replace H : (if t524 = true then (if t528 = true then ((impl_SameDivisor.f k t521 t525).bind fun t529 => (some t529)) else (some false)) else (some false)) = some r := H
 have A5 := Aside0.mk A50
 clear A50
 by_cases c6 : t524 = true
 ·subst c6
  have H1 : (if t528 = true then ((impl_SameDivisor.f k t521 t525).bind fun t529 => (some t529)) else (some false)) = some r := by rw [if_pos rfl] at H; exact H
  clear H
  have H := H1
  clear H1
  by_cases c7 : t528 = true
  ·subst c7
   have H1 : ((impl_SameDivisor.f k t521 t525).bind fun t529 => (some t529)) = some r := by rw [if_pos rfl] at H; exact H
   clear H
   have H := H1
   clear H1
   replace H := Option.bind_eq_some_iff.mp H
   obtain ⟨t529, A80, H⟩ := H
   replace H : (some t529) = some r := H
   have A8 := Aside0.mk A80
   clear A80
   obtain rfl := Option.some.inj H
   go_enter Try.func45, Try.ntmps45
   go_wp2_with (first | ((with_reducible refine gate_dst (N := 3) rfl ?_); refine box_event ?hg (N := 3) ?hd (cs := #[.int .i64 a0_0, .slice A0_1 l0_1.length c0_1]) (t := 31) ?hr ?_; (case hd => rfl); (case hg => rfl); (case hr => first | (go_simp; done) | (go_simp; rfl)); intro gb520 hg w9 hbox hb; have BK520 := Aside0.mk (hbox); have GW520 := Aside0.mk ((by rw [hg]; exact (below_size (Lz HB)) : w.heap.size ≤ gb520)); have GE520 := Aside0.mk ((by rw [hg]; exact (below_size (Lz HB)) : w.heap.size ≤ gb520)); replace HB := Aside0.mk (below_step (Lz HB) hb); clear hb hbox hg; have hcz10_0 : w9.cell? ⟨gb520, 0, none⟩ = some (.int .i64 a0_0) := (blk_cell BK520.out 0).trans rfl; have hcz10_1 : w9.cell? ⟨gb520, 1, none⟩ = some (.slice A0_1 l0_1.length c0_1) := (blk_cell BK520.out 1).trans rfl; have hfz10_0 := blk_frozen BK520.out 0; have hfz10_1 := blk_frozen BK520.out 1) | ((with_reducible refine gate_callee (f := 84) rfl ?_); refine goesM_ (some 14) rfl rfl Try.func84 (by kernel_rfl) rfl #[.agg #[.int .i64 a0_0, .slice A0_1 l0_1.length c0_1], .slice A1 l1.length c1] rfl ?_; (with_reducible refine (impl_RepresentativeOf.calls k a0_0 _ _ l0_1 _ _ l1 t521 true _ ?side1 ?side2 ?side3 ?side4 A4.out).mono ?_); (case side1 => exact Cz ((Kd.C_below HR0_1.out HB.out))); (case side2 => exact HC0_1.out); (case side3 => exact Cz ((Kd.C_below HR1.out HB.out))); (case side4 => exact HC1.out); rintro e w11 ⟨v522, rfl, ho0, hb⟩; refine ⟨_, rfl, ?_⟩; have HO523 := Aside0.mk (Kd.R_lower ho0 (below_size (by exact Lz1 HB GE520))); replace BK520 := Aside0.mk (blk_below (g := gb520) (o := .cells #[.int .i64 a0_0, .slice A0_1 l0_1.length c0_1] 31 (0, 0)) (Bz BK520) hb); replace HB := Aside0.mk (below_step (by exact Lz1 HB GE520) hb); (try clear hb); (try clear ho0); have hcz12_0 : w11.cell? ⟨gb520, 0, none⟩ = some (.int .i64 a0_0) := (blk_cell BK520.out 0).trans rfl; have hcz12_1 : w11.cell? ⟨gb520, 1, none⟩ = some (.slice A0_1 l0_1.length c0_1) := (blk_cell BK520.out 1).trans rfl; have hfz12_0 := blk_frozen BK520.out 0; have hfz12_1 := blk_frozen BK520.out 1) | ((with_reducible refine gate_callee (f := 84) rfl ?_); refine goesM_ (some 20) rfl rfl Try.func84 (by kernel_rfl) rfl #[.agg #[.int .i64 a0_0, .slice A0_1 l0_1.length c0_1], .slice A2 l2.length c2] rfl ?_; (with_reducible refine (impl_RepresentativeOf.calls k a0_0 _ _ l0_1 _ _ l2 t525 true _ ?side1 ?side2 ?side3 ?side4 A5.out).mono ?_); (case side1 => exact Cz ((Kd.C_below HR0_1.out HB.out))); (case side2 => exact HC0_1.out); (case side3 => exact Cz ((Kd.C_below HR2.out HB.out))); (case side4 => exact HC2.out); rintro e w13 ⟨v526, rfl, ho0, hb⟩; refine ⟨_, rfl, ?_⟩; have HO527 := Aside0.mk (Kd.R_lower (Kd.R_new' ho0 (Kd.R_lt (Rz HO523))) (below_size (by exact Lz1 HB GE520))); replace HO523 := Aside0.mk (Kd.R_elder' (Rz HO523) (Kd.R_base ho0) hb); replace BK520 := Aside0.mk (blk_below (g := gb520) (o := .cells #[.int .i64 a0_0, .slice A0_1 l0_1.length c0_1] 31 (0, 0)) (Bz BK520) hb); replace HB := Aside0.mk (below_step (by exact Lz1 HB GE520) hb); (try clear hb); (try clear ho0); obtain ⟨Ao14, co14, eo14⟩ := Kd.R_slice HO523.out; subst eo14; obtain ⟨Ao15, co15, eo15⟩ := Kd.R_slice HO527.out; subst eo15) | (go_at_call 85; (with_reducible refine (impl_SameDivisor.calls k _ _ t521 _ _ t525 t529 _ ?side1 ?side2 ?side3 ?side4 A8.out).mono ?_); (case side1 => exact Cz ((Kd.R_reads' HO523.out).2.2)); (case side2 => exact (Kd.R_reads' HO523.out).2.1); (case side3 => exact Cz ((Kd.R_reads' HO527.out).2.2)); (case side4 => exact (Kd.R_reads' HO527.out).2.1); rintro e w' ⟨rfl, ⟨nd, rfl⟩⟩))
   go_ret
   exact ⟨by first | rfl | (simp [errW_none, errW_some] <;> rfl) | (simp [*, errW_none, errW_some] <;> rfl), by exact Lz1 HB GE520⟩
  replace c7 := Bool.eq_false_iff.mpr c7
  subst c7
  have H1 : (some false) = some r := by rw [if_neg (show ¬ (false = true) by decide)] at H; exact H
  clear H
  have H := H1
  clear H1
  obtain rfl := Option.some.inj H
  go_enter Try.func45, Try.ntmps45
  go_wp2_with (first | ((with_reducible refine gate_dst (N := 3) rfl ?_); refine box_event ?hg (N := 3) ?hd (cs := #[.int .i64 a0_0, .slice A0_1 l0_1.length c0_1]) (t := 31) ?hr ?_; (case hd => rfl); (case hg => rfl); (case hr => first | (go_simp; done) | (go_simp; rfl)); intro gb520 hg w16 hbox hb; have BK520 := Aside0.mk (hbox); have GW520 := Aside0.mk ((by rw [hg]; exact (below_size (Lz HB)) : w.heap.size ≤ gb520)); have GE520 := Aside0.mk ((by rw [hg]; exact (below_size (Lz HB)) : w.heap.size ≤ gb520)); replace HB := Aside0.mk (below_step (Lz HB) hb); clear hb hbox hg; have hcz17_0 : w16.cell? ⟨gb520, 0, none⟩ = some (.int .i64 a0_0) := (blk_cell BK520.out 0).trans rfl; have hcz17_1 : w16.cell? ⟨gb520, 1, none⟩ = some (.slice A0_1 l0_1.length c0_1) := (blk_cell BK520.out 1).trans rfl; have hfz17_0 := blk_frozen BK520.out 0; have hfz17_1 := blk_frozen BK520.out 1) | ((with_reducible refine gate_callee (f := 84) rfl ?_); refine goesM_ (some 14) rfl rfl Try.func84 (by kernel_rfl) rfl #[.agg #[.int .i64 a0_0, .slice A0_1 l0_1.length c0_1], .slice A1 l1.length c1] rfl ?_; (with_reducible refine (impl_RepresentativeOf.calls k a0_0 _ _ l0_1 _ _ l1 t521 true _ ?side1 ?side2 ?side3 ?side4 A4.out).mono ?_); (case side1 => exact Cz ((Kd.C_below HR0_1.out HB.out))); (case side2 => exact HC0_1.out); (case side3 => exact Cz ((Kd.C_below HR1.out HB.out))); (case side4 => exact HC1.out); rintro e w18 ⟨v522, rfl, ho0, hb⟩; refine ⟨_, rfl, ?_⟩; have HO523 := Aside0.mk (Kd.R_lower ho0 (below_size (by exact Lz1 HB GE520))); replace BK520 := Aside0.mk (blk_below (g := gb520) (o := .cells #[.int .i64 a0_0, .slice A0_1 l0_1.length c0_1] 31 (0, 0)) (Bz BK520) hb); replace HB := Aside0.mk (below_step (by exact Lz1 HB GE520) hb); (try clear hb); (try clear ho0); have hcz19_0 : w18.cell? ⟨gb520, 0, none⟩ = some (.int .i64 a0_0) := (blk_cell BK520.out 0).trans rfl; have hcz19_1 : w18.cell? ⟨gb520, 1, none⟩ = some (.slice A0_1 l0_1.length c0_1) := (blk_cell BK520.out 1).trans rfl; have hfz19_0 := blk_frozen BK520.out 0; have hfz19_1 := blk_frozen BK520.out 1) | ((with_reducible refine gate_callee (f := 84) rfl ?_); refine goesM_ (some 20) rfl rfl Try.func84 (by kernel_rfl) rfl #[.agg #[.int .i64 a0_0, .slice A0_1 l0_1.length c0_1], .slice A2 l2.length c2] rfl ?_; (with_reducible refine (impl_RepresentativeOf.calls k a0_0 _ _ l0_1 _ _ l2 t525 false _ ?side1 ?side2 ?side3 ?side4 A5.out).mono ?_); (case side1 => exact Cz ((Kd.C_below HR0_1.out HB.out))); (case side2 => exact HC0_1.out); (case side3 => exact Cz ((Kd.C_below HR2.out HB.out))); (case side4 => exact HC2.out); rintro e w20 ⟨v526, rfl, ho0, hb⟩; refine ⟨_, rfl, ?_⟩; have HO527 := Aside0.mk (Kd.R_lower (Kd.R_new' ho0 (Kd.R_lt (Rz HO523))) (below_size (by exact Lz1 HB GE520))); replace HO523 := Aside0.mk (Kd.R_elder' (Rz HO523) (Kd.R_base ho0) hb); replace BK520 := Aside0.mk (blk_below (g := gb520) (o := .cells #[.int .i64 a0_0, .slice A0_1 l0_1.length c0_1] 31 (0, 0)) (Bz BK520) hb); replace HB := Aside0.mk (below_step (by exact Lz1 HB GE520) hb); (try clear hb); (try clear ho0)))
  go_ret
  exact ⟨by first | rfl | (simp [errW_none, errW_some] <;> rfl) | (simp [*, errW_none, errW_some] <;> rfl), by exact Lz1 HB GE520⟩
 replace c6 := Bool.eq_false_iff.mpr c6
 subst c6
 have H1 : (some false) = some r := by rw [if_neg (show ¬ (false = true) by decide)] at H; exact H
 clear H
 have H := H1
 clear H1
 obtain rfl := Option.some.inj H
 go_enter Try.func45, Try.ntmps45
 go_wp2_with (first | ((with_reducible refine gate_dst (N := 3) rfl ?_); refine box_event ?hg (N := 3) ?hd (cs := #[.int .i64 a0_0, .slice A0_1 l0_1.length c0_1]) (t := 31) ?hr ?_; (case hd => rfl); (case hg => rfl); (case hr => first | (go_simp; done) | (go_simp; rfl)); intro gb520 hg w21 hbox hb; have BK520 := Aside0.mk (hbox); have GW520 := Aside0.mk ((by rw [hg]; exact (below_size (Lz HB)) : w.heap.size ≤ gb520)); have GE520 := Aside0.mk ((by rw [hg]; exact (below_size (Lz HB)) : w.heap.size ≤ gb520)); replace HB := Aside0.mk (below_step (Lz HB) hb); clear hb hbox hg; have hcz22_0 : w21.cell? ⟨gb520, 0, none⟩ = some (.int .i64 a0_0) := (blk_cell BK520.out 0).trans rfl; have hcz22_1 : w21.cell? ⟨gb520, 1, none⟩ = some (.slice A0_1 l0_1.length c0_1) := (blk_cell BK520.out 1).trans rfl; have hfz22_0 := blk_frozen BK520.out 0; have hfz22_1 := blk_frozen BK520.out 1) | ((with_reducible refine gate_callee (f := 84) rfl ?_); refine goesM_ (some 14) rfl rfl Try.func84 (by kernel_rfl) rfl #[.agg #[.int .i64 a0_0, .slice A0_1 l0_1.length c0_1], .slice A1 l1.length c1] rfl ?_; (with_reducible refine (impl_RepresentativeOf.calls k a0_0 _ _ l0_1 _ _ l1 t521 false _ ?side1 ?side2 ?side3 ?side4 A4.out).mono ?_); (case side1 => exact Cz ((Kd.C_below HR0_1.out HB.out))); (case side2 => exact HC0_1.out); (case side3 => exact Cz ((Kd.C_below HR1.out HB.out))); (case side4 => exact HC1.out); rintro e w23 ⟨v522, rfl, ho0, hb⟩; refine ⟨_, rfl, ?_⟩; have HO523 := Aside0.mk (Kd.R_lower ho0 (below_size (by exact Lz1 HB GE520))); replace BK520 := Aside0.mk (blk_below (g := gb520) (o := .cells #[.int .i64 a0_0, .slice A0_1 l0_1.length c0_1] 31 (0, 0)) (Bz BK520) hb); replace HB := Aside0.mk (below_step (by exact Lz1 HB GE520) hb); (try clear hb); (try clear ho0); have hcz24_0 : w23.cell? ⟨gb520, 0, none⟩ = some (.int .i64 a0_0) := (blk_cell BK520.out 0).trans rfl; have hcz24_1 : w23.cell? ⟨gb520, 1, none⟩ = some (.slice A0_1 l0_1.length c0_1) := (blk_cell BK520.out 1).trans rfl; have hfz24_0 := blk_frozen BK520.out 0; have hfz24_1 := blk_frozen BK520.out 1) | ((with_reducible refine gate_callee (f := 84) rfl ?_); refine goesM_ (some 20) rfl rfl Try.func84 (by kernel_rfl) rfl #[.agg #[.int .i64 a0_0, .slice A0_1 l0_1.length c0_1], .slice A2 l2.length c2] rfl ?_; (with_reducible refine (impl_RepresentativeOf.calls k a0_0 _ _ l0_1 _ _ l2 t525 t528 _ ?side1 ?side2 ?side3 ?side4 A5.out).mono ?_); (case side1 => exact Cz ((Kd.C_below HR0_1.out HB.out))); (case side2 => exact HC0_1.out); (case side3 => exact Cz ((Kd.C_below HR2.out HB.out))); (case side4 => exact HC2.out); rintro e w25 ⟨v526, rfl, ho0, hb⟩; refine ⟨_, rfl, ?_⟩; have HO527 := Aside0.mk (Kd.R_lower (Kd.R_new' ho0 (Kd.R_lt (Rz HO523))) (below_size (by exact Lz1 HB GE520))); replace HO523 := Aside0.mk (Kd.R_elder' (Rz HO523) (Kd.R_base ho0) hb); replace BK520 := Aside0.mk (blk_below (g := gb520) (o := .cells #[.int .i64 a0_0, .slice A0_1 l0_1.length c0_1] 31 (0, 0)) (Bz BK520) hb); replace HB := Aside0.mk (below_step (by exact Lz1 HB GE520) hb); (try clear hb); (try clear ho0)))
 go_ret
 exact ⟨by first | rfl | (simp [errW_none, errW_some] <;> rfl) | (simp [*, errW_none, errW_some] <;> rfl), by exact Lz1 HB GE520⟩
def IsS101 (w0 W : World) (g : Nat) (f0 : List Int) (f1 : Int) (f2 : Int) : Prop := ∃ A0 c0, W.heap[g]? = some (.cells #[.slice A0 f0.length c0, .int .i64 f1, .int .i64 f2] 101 (0, 0)) ∧ w0.heap.size ≤ g ∧ Kd.C (Kd.int .u8) w0 A0 f0.length f0
theorem IsS101.grown {w0 W : World} {g : Nat} {f0 : List Int} {f1 : Int} {f2 : Int} {W1 : World} {row : Option Nat} (h : IsS101 w0 W g f0 f1 f2) (hw : W.grownBy W1 row) (hne : some g ≠ row) : IsS101 w0 W1 g f0 f1 f2 := by
 obtain ⟨A0, c0, hb, hg, hr0⟩ := h
 exact ⟨A0, c0, blk_grown hb hw hne, hg, hr0⟩
theorem IsS101.grownF {WF : World} {w0 W : World} {g : Nat} {f0 : List Int} {f1 : Int} {f2 : Int} {W1 : World} {row : Option Nat} (_h0 : IsS101 w0 WF g f0 f1 f2) (h : IsS101 w0 W g f0 f1 f2) (hw : W.grownBy W1 row) (hne : some g ≠ row) : IsS101 w0 W1 g f0 f1 f2 := h.grown hw hne
theorem IsS101.kept {w0 W : World} {g : Nat} {f0 : List Int} {f1 : Int} {f2 : Int} {W1 : World} {S : Nat → Prop} (h : IsS101 w0 W g f0 f1 f2) (hk : Kept W W1 S) (hne : ¬ S g) : IsS101 w0 W1 g f0 f1 f2 := by
 obtain ⟨A0, c0, hb, hg, hr0⟩ := h
 exact ⟨A0, c0, blk_kept hb hk hne, hg, hr0⟩
theorem IsS101.below {w0 W : World} {g : Nat} {f0 : List Int} {f1 : Int} {f2 : Int} {W1 : World} (h : IsS101 w0 W g f0 f1 f2) (hw : Below W.heap.size W W1) : IsS101 w0 W1 g f0 f1 f2 := h.grown (grown_of_below hw none) (by simp)
theorem IsS101.alloc {w0 W : World} {g : Nat} {f0 : List Int} {f1 : Int} {f2 : Int} (h : IsS101 w0 W g f0 f1 f2) (o : Obj) : IsS101 w0 (W.alloc o) g f0 f1 f2 := h.below (below_alloc (Below.refl _ _) o)
theorem IsS101.drewN {w0 W : World} {g : Nat} {f0 : List Int} {f1 : Int} {f2 : Int} (h : IsS101 w0 W g f0 f1 f2) (m : Nat) : IsS101 w0 (W.drewN m) g f0 f1 f2 := h
theorem IsS101.drew {w0 W : World} {g : Nat} {f0 : List Int} {f1 : Int} {f2 : Int} (h : IsS101 w0 W g f0 f1 f2) : IsS101 w0 W.drew g f0 f1 f2 := h
theorem IsS101.at_ {w0 W : World} {g : Nat} {f0 : List Int} {f1 : Int} {f2 : Int} {w' : World} {m : Nat} (hq : W.drewN m = w') (h : IsS101 w0 W g f0 f1 f2) : IsS101 w0 w' g f0 f1 f2 := by subst hq; exact IsS101.drewN h m
theorem IsS101.apart {w0 W : World} {g : Nat} {f0 : List Int} {f1 : Int} {f2 : Int} {α : Type} {d : Kd α} {e : Nat} {base : Nat} {ok : Nat → Prop} {v : Value} {xs : List α} (h : IsS101 w0 W g f0 f1 f2) (ho : d.R e W base ok v xs) (ht : ∀ q, q ∈ e :: d.E → q ≠ 101) : d.R e W base (fun k => ok k ∧ k ≠ g) v xs := by
 obtain ⟨A0, c0, hb, hg, hr0⟩ := h
 exact Kd.R_types ho hb ht
theorem IsS101.own_ne {w0 W : World} {g : Nat} {f0 : List Int} {f1 : Int} {f2 : Int} {α : Type} {d : Kd α} {e : Nat} {base : Nat} {ok : Nat → Prop} {v : Value} {xs : List α} (h : IsS101 w0 W g f0 f1 f2) (ho : d.R e W base ok v xs) (ht : e ≠ 101) : some g ≠ v.ownBlock := by
 obtain ⟨A0, c0, hb, hg, hr0⟩ := h
 exact Kd.R_ne ho hb ht
theorem IsS101.lt {w0 W : World} {g : Nat} {f0 : List Int} {f1 : Int} {f2 : Int} (h : IsS101 w0 W g f0 f1 f2) : g < W.heap.size := by
 obtain ⟨A0, c0, hb, hg, hr0⟩ := h
 exact blk_lt hb
theorem IsS101.ge {w0 W : World} {g : Nat} {f0 : List Int} {f1 : Int} {f2 : Int} (h : IsS101 w0 W g f0 f1 f2) : w0.heap.size ≤ g := by
 obtain ⟨A0, c0, hb, hg, hr0⟩ := h
 exact hg
theorem IsS101.ne_blk {w0 W : World} {g : Nat} {f0 : List Int} {f1 : Int} {f2 : Int} {a : Nat} {cs : Array Value} {t : TypeId} {fr : Nat × Nat} (h : IsS101 w0 W g f0 f1 f2) (hb2 : W.heap[a]? = some (.cells cs t fr)) (ht : t ≠ 101) : g ≠ a := by
 obtain ⟨A0, c0, hb, hg, hr0⟩ := h
 rintro rfl
 rw [hb] at hb2
 injection hb2 with hb2
 injection hb2 with _ ht2
 exact ht ht2.symm
theorem IsS101.far {w0 W : World} {g : Nat} {f0 : List Int} {f1 : Int} {f2 : Int} {p : Addr} (h : IsS101 w0 W g f0 f1 f2) (hne : g ≠ p.block) (u : Value) : IsS101 w0 (W.setCell p u) g f0 f1 f2 := by
 obtain ⟨A0, c0, hb, hg, hr0⟩ := h
 exact ⟨A0, c0, blk_far hb hne u, hg, hr0⟩
theorem cellS101_0 {W : World} {g : Nat} {A0 : Option Addr} {c0 : Nat} {f0 : List Int} {f1 : Int} {f2 : Int} (h : W.heap[g]? = some (.cells #[.slice A0 f0.length c0, .int .i64 f1, .int .i64 f2] 101 (0, 0))) : W.cell? ⟨g, 0, none⟩ = some (.slice A0 f0.length c0) := (blk_cell h 0).trans rfl
theorem cellS101_1 {W : World} {g : Nat} {A0 : Option Addr} {c0 : Nat} {f0 : List Int} {f1 : Int} {f2 : Int} (h : W.heap[g]? = some (.cells #[.slice A0 f0.length c0, .int .i64 f1, .int .i64 f2] 101 (0, 0))) : W.cell? ⟨g, 1, none⟩ = some (.int .i64 f1) := (blk_cell h 1).trans rfl
theorem IsS101.set_1 {w0 W : World} {g : Nat} {f0 : List Int} {f1 : Int} {f2 : Int} (h : IsS101 w0 W g f0 f1 f2) (x : Int) : IsS101 w0 (W.setCell ⟨g, 1, none⟩ (.int .i64 x)) g f0 x f2 := by
 obtain ⟨A0, c0, hb, hg, hr0⟩ := h
 exact ⟨A0, c0, by simpa using blk_set hb 1 (.int .i64 x), hg, hr0⟩
theorem cellS101_2 {W : World} {g : Nat} {A0 : Option Addr} {c0 : Nat} {f0 : List Int} {f1 : Int} {f2 : Int} (h : W.heap[g]? = some (.cells #[.slice A0 f0.length c0, .int .i64 f1, .int .i64 f2] 101 (0, 0))) : W.cell? ⟨g, 2, none⟩ = some (.int .i64 f2) := (blk_cell h 2).trans rfl
theorem IsS101.set_2 {w0 W : World} {g : Nat} {f0 : List Int} {f1 : Int} {f2 : Int} (h : IsS101 w0 W g f0 f1 f2) (x : Int) : IsS101 w0 (W.setCell ⟨g, 2, none⟩ (.int .i64 x)) g f0 f1 x := by
 obtain ⟨A0, c0, hb, hg, hr0⟩ := h
 exact ⟨A0, c0, by simpa using blk_set hb 2 (.int .i64 x), hg, hr0⟩
def spec_l01Byte.f (s0_0 : List Int) (s0_1 : Int) (s0_2 : Int) : Option (Int × Int × Int) := if s0_1 < (s0_0.length : Int) then (if 0 ≤ s0_1 then (some (Go.bits .and .i64 (wrap64 ((Go.bits .and .i64 (Go.bits .xor .i64 ((wrap64 ((wrap64 (s0_2 * 6364136223846793005)) + 1442695040888963407)) / 8589934592) ((wrap64 ((wrap64 (s0_2 * 6364136223846793005)) + 1442695040888963407)) / 35184372088832)) 255) + (wrap64 (rd s0_0 s0_1)))) 255, wrap64 (s0_1 + 1), wrap64 ((wrap64 (s0_2 * 6364136223846793005)) + 1442695040888963407))) else (none)) else (some (Go.bits .and .i64 (Go.bits .xor .i64 ((wrap64 ((wrap64 (s0_2 * 6364136223846793005)) + 1442695040888963407)) / 8589934592) ((wrap64 ((wrap64 (s0_2 * 6364136223846793005)) + 1442695040888963407)) / 35184372088832)) 255, s0_1, wrap64 ((wrap64 (s0_2 * 6364136223846793005)) + 1442695040888963407)))
set_option maxHeartbeats 8000000 in
set_option maxRecDepth 100000 in
theorem spec_l01Byte.calls (g : Nat) (s0_0 : List Int) (s0_1 : Int) (s0_2 : Int) (r1 : Int) (r2 : Int) (r3 : Int) (w0 w : World) (hI : IsS101 w0 w g s0_0 s0_1 s0_2) (hB : Below w0.heap.size w0 w) (h : spec_l01Byte.f s0_0 s0_1 s0_2 = some (r1, r2, r3)) :
  Calls Try.prog 70 #[.pointer (some ⟨g, 0, none⟩)] w fun e w' => e = .returned (.int .i64 r1) ∧ IsS101 w0 w' g s0_0 r2 r3 ∧ Below w0.heap.size w0 w' ∧ KeepBut w w' g none := by
 have HI0 := Aside0.mk hI
 have HK := Aside0.mk (KeepBut.refl w g none)
 have HL := Aside0.mk hB.size
 clear hI
 have HW0 := Aside0.mk hB.size
 have HB := Aside0.mk hB
 clear hB
 have H : (if s0_1 < (s0_0.length : Int) then (if 0 ≤ s0_1 then (some (Go.bits .and .i64 (wrap64 ((Go.bits .and .i64 (Go.bits .xor .i64 ((wrap64 ((wrap64 (s0_2 * 6364136223846793005)) + 1442695040888963407)) / 8589934592) ((wrap64 ((wrap64 (s0_2 * 6364136223846793005)) + 1442695040888963407)) / 35184372088832)) 255) + (wrap64 (rd s0_0 s0_1)))) 255, wrap64 (s0_1 + 1), wrap64 ((wrap64 (s0_2 * 6364136223846793005)) + 1442695040888963407))) else (none)) else (some (Go.bits .and .i64 (Go.bits .xor .i64 ((wrap64 ((wrap64 (s0_2 * 6364136223846793005)) + 1442695040888963407)) / 8589934592) ((wrap64 ((wrap64 (s0_2 * 6364136223846793005)) + 1442695040888963407)) / 35184372088832)) 255, s0_1, wrap64 ((wrap64 (s0_2 * 6364136223846793005)) + 1442695040888963407)))) = some (r1, r2, r3) := h
 clear h
 by_cases c2 : s0_1 < (s0_0.length : Int)
 ·rw [if_pos c2] at H
  have c2b0 : decide (s0_1 < (s0_0.length : Int)) = true := decide_eq_true c2
  clear c2
  by_cases c3 : 0 ≤ s0_1
  ·rw [if_pos c3] at H
   have c3b0 : decide (0 ≤ s0_1) = true := decide_eq_true c3
   clear c3
   simp only [Option.some.injEq, Prod.mk.injEq] at H
   obtain ⟨rfl, rfl, rfl⟩ := H
   obtain ⟨ASz4_0, cSz4_0, HGz4, hgz4, HSz4_0⟩ := HI0.out
   have hcz4_0 := cellS101_0 HGz4
   have hcz4_1 := cellS101_1 HGz4
   have hcz4_2 := cellS101_2 HGz4
   have hfz4_1 := blk_frozen HGz4 1
   have hfz4_2 := blk_frozen HGz4 2
   clear HGz4 hgz4
   have p630 : 0 ≤ (s0_1 : Int) := ofA
   have q630 : s0_1 < (s0_0.length : Int) := ofA
   obtain ⟨ad630, e630, hx630_0⟩ := Kd.at_int HSz4_0 s0_1 p630 q630
   cases e630
   have hn630_0 : ad630.block ≠ g := Nat.ne_of_lt (Nat.lt_of_lt_of_le (by have := World.block_lt_of_cell? _ _ hx630_0; first | rwa [add_block] at this | exact this) (IsS101.ge HI0.out))
   replace hx630_0 := pw_cell_below HB.out hx630_0
   replace hx630_0 := (cell_far (p := ⟨g, 2, none⟩) (by first | (rw [add_block]; exact hn630_0) | (show (Addr.add _ _).block ≠ _; rw [add_block]; exact hn630_0) | exact hn630_0) (.int .i64 (wrap64 ((wrap64 (s0_2 * 6364136223846793005)) + 1442695040888963407)))).trans hx630_0
   (try have hy630_0 := fun (n_ : Nat) => (show (((w.drewN n_).setCell ⟨g, 2, none⟩ (.int .i64 (wrap64 ((wrap64 (s0_2 * 6364136223846793005)) + 1442695040888963407))))).cell? _ = some _ from hx630_0))
   clear hn630_0
   replace p630 := eq_true p630
   replace q630 := eq_true q630
   go_enter Try.func70, Try.ntmps70
   go_wp2
   repeat (go_quiet (fail); try go_wp2)
   go_ret
   exact ⟨by first | rfl | (simp [errW_none, errW_some] <;> rfl) | (simp [*, errW_none, errW_some] <;> rfl), by repeat (first | (with_reducible first | exact HI0.out | apply IsS101.alloc | apply IsS101.drewN | apply IsS101.drew | apply IsS101.set_1 | apply IsS101.set_2) | exact HI0.out), by repeat (first | (with_reducible first | exact HB.out | apply below_alloc | apply pw_below_drewN | apply below_drew1 | refine below_set ?_ (IsS101.ge HI0.out)) | exact HB.out), by repeat (first | (with_reducible first | exact HK.out | apply KeepBut.set_ | apply keep_drewN | apply keep_drew | apply keep_alloc) | exact HK.out)⟩
  rw [if_neg c3] at H
  exact absurd H (by simp)
 rw [if_neg c2] at H
 have c2b0 : decide (s0_1 < (s0_0.length : Int)) = false := decide_eq_false c2
 clear c2
 simp only [Option.some.injEq, Prod.mk.injEq] at H
 obtain ⟨rfl, rfl, rfl⟩ := H
 obtain ⟨ASz5_0, cSz5_0, HGz5, hgz5, HSz5_0⟩ := HI0.out
 have hcz5_0 := cellS101_0 HGz5
 have hcz5_1 := cellS101_1 HGz5
 have hcz5_2 := cellS101_2 HGz5
 have hfz5_1 := blk_frozen HGz5 1
 have hfz5_2 := blk_frozen HGz5 2
 clear HGz5 hgz5
 go_enter Try.func70, Try.ntmps70
 go_wp2
 repeat (go_quiet (fail); try go_wp2)
 go_ret
 exact ⟨by first | rfl | (simp [errW_none, errW_some] <;> rfl) | (simp [*, errW_none, errW_some] <;> rfl), by repeat (first | (with_reducible first | exact HI0.out | apply IsS101.alloc | apply IsS101.drewN | apply IsS101.drew | apply IsS101.set_1 | apply IsS101.set_2) | exact HI0.out), by repeat (first | (with_reducible first | exact HB.out | apply below_alloc | apply pw_below_drewN | apply below_drew1 | refine below_set ?_ (IsS101.ge HI0.out)) | exact HB.out), by repeat (first | (with_reducible first | exact HK.out | apply KeepBut.set_ | apply keep_drewN | apply keep_drew | apply keep_alloc) | exact HK.out)⟩
def spec_l02Vert.f (a0_0 : Int) (l0_1 : List (S67)) (a1 : Int) : Option (Bool) := if a1 ≥ 0 then (some (decide (a1 < a0_0))) else (some false)
set_option maxHeartbeats 8000000 in
set_option maxRecDepth 100000 in
theorem spec_l02Vert.calls (a0_0 : Int) (A0_1 : Option Addr) (c0_1 : Nat) (l0_1 : List (S67)) (a1 : Int) (r : Bool) (w : World) (hr0_1 : Kd.C k67 w A0_1 l0_1.length l0_1) (hc0_1 : l0_1.length ≤ c0_1) (h : spec_l02Vert.f a0_0 l0_1 a1 = some r) :
  Calls Try.prog 131 #[.agg #[.int .i64 a0_0, .slice A0_1 l0_1.length c0_1], .int .i64 a1] w fun e w' => e = .returned (.bool r) ∧ Below w.heap.size w w' := by
 have hu31 := Try.underlying31
 have HR0_1 := Aside0.mk hr0_1
 have HC0_1 := Aside0.mk hc0_1
 clear hr0_1 hc0_1
 have HB := Aside0.mk (Below.refl w.heap.size w)
 have H : (if a1 ≥ 0 then (some (decide (a1 < a0_0))) else (some false)) = some r := h
 clear h
 by_cases c3 : a1 ≥ 0
 ·rw [if_pos c3] at H
  have c3b0 : decide (0 ≤ a1) = true := decide_eq_true c3
  clear c3
  obtain rfl := Option.some.inj H
  go_enter Try.func131, Try.ntmps131
  go_wp2_with (first | ((with_reducible refine gate_dst (N := 2) rfl ?_); refine box_event ?hg (N := 2) ?hd (cs := #[.int .i64 a0_0, .slice A0_1 l0_1.length c0_1]) (t := 31) ?hr ?_; (case hd => rfl); (case hg => rfl); (case hr => first | (go_simp; done) | (go_simp; rfl)); intro gb121 hg w4 hbox hb; have BK121 := Aside0.mk (hbox); have GW121 := Aside0.mk ((by rw [hg]; exact (below_size (Lz HB)) : w.heap.size ≤ gb121)); have GE121 := Aside0.mk ((by rw [hg]; exact (below_size (Lz HB)) : w.heap.size ≤ gb121)); replace HB := Aside0.mk (below_step (Lz HB) hb); clear hb hbox hg; have hcz5_0 : w4.cell? ⟨gb121, 0, none⟩ = some (.int .i64 a0_0) := (blk_cell BK121.out 0).trans rfl; have hcz5_1 : w4.cell? ⟨gb121, 1, none⟩ = some (.slice A0_1 l0_1.length c0_1) := (blk_cell BK121.out 1).trans rfl; have hfz5_0 := blk_frozen BK121.out 0; have hfz5_1 := blk_frozen BK121.out 1))
  go_ret
  exact ⟨by first | rfl | (simp [errW_none, errW_some] <;> rfl) | (simp [*, errW_none, errW_some] <;> rfl), by exact Lz1 HB GE121⟩
 rw [if_neg c3] at H
 have c3b0 : decide (0 ≤ a1) = false := decide_eq_false c3
 clear c3
 obtain rfl := Option.some.inj H
 go_enter Try.func131, Try.ntmps131
 go_wp2_with (first | ((with_reducible refine gate_dst (N := 2) rfl ?_); refine box_event ?hg (N := 2) ?hd (cs := #[.int .i64 a0_0, .slice A0_1 l0_1.length c0_1]) (t := 31) ?hr ?_; (case hd => rfl); (case hg => rfl); (case hr => first | (go_simp; done) | (go_simp; rfl)); intro gb121 hg w6 hbox hb; have BK121 := Aside0.mk (hbox); have GW121 := Aside0.mk ((by rw [hg]; exact (below_size (Lz HB)) : w.heap.size ≤ gb121)); have GE121 := Aside0.mk ((by rw [hg]; exact (below_size (Lz HB)) : w.heap.size ≤ gb121)); replace HB := Aside0.mk (below_step (Lz HB) hb); clear hb hbox hg))
 go_ret
 exact ⟨by first | rfl | (simp [errW_none, errW_some] <;> rfl) | (simp [*, errW_none, errW_some] <;> rfl), by exact Lz1 HB GE121⟩
mutual
def spec_Multiplicity.j0 : Nat → Int → Int → Int → Bool → Int → List (S67) → Option (Int)
 | 0, _, _, _, _, _, _ => none
 | k + 1, x1, x2, x7, x24, x123000, x123001 => if x24 = true then (some 0) else (spec_Multiplicity.l0 k x1 x2 x7 x123001 (x123001.length : Int) 0)
def spec_Multiplicity.l0 : Nat → Int → Int → Int → List (S67) → Int → Int → Option (Int)
 | 0, _, _, _, _, _, _ => none
 | k + 1, x1, x2, x7, x26, x27, x28 => if x28 < x27 then (if 0 ≤ x28 then (if x28 < (x26.length : Int) then (if ((rd_T67 x26 x28).f0) = (mn x1 x2) then (if ((rd_T67 x26 x28).f1) = (mx x1 x2) then (spec_Multiplicity.l0 k x1 x2 (wrap64 (x7 + 1)) x26 x27 (wrap64 (x28 + 1))) else (spec_Multiplicity.l0 k x1 x2 x7 x26 x27 (wrap64 (x28 + 1)))) else (spec_Multiplicity.l0 k x1 x2 x7 x26 x27 (wrap64 (x28 + 1)))) else (none)) else (none)) else (some x7)
end
def spec_Multiplicity.f (k : Nat) (a0_0 : Int) (l0_1 : List (S67)) (a1 : Int) (a2 : Int) : Option (Int) := (spec_l02Vert.f a0_0 l0_1 a1).bind fun t123 => (if t123 = true then ((spec_l02Vert.f a0_0 l0_1 a2).bind fun t124 => (if t124 = true then (spec_Multiplicity.j0 k a1 a2 0 (a1 == a2) a0_0 l0_1) else (spec_Multiplicity.j0 k a1 a2 0 true a0_0 l0_1))) else (spec_Multiplicity.j0 k a1 a2 0 true a0_0 l0_1))
set_option maxHeartbeats 8000000 in
set_option maxRecDepth 100000 in
theorem spec_Multiplicity.calls (k : Nat) (a0_0 : Int) (A0_1 : Option Addr) (c0_1 : Nat) (l0_1 : List (S67)) (a1 : Int) (a2 : Int) (r : Int) (w : World) (hr0_1 : Kd.C k67 w A0_1 l0_1.length l0_1) (hc0_1 : l0_1.length ≤ c0_1) (h : spec_Multiplicity.f k a0_0 l0_1 a1 a2 = some r) :
  Calls Try.prog 115 #[.agg #[.int .i64 a0_0, .slice A0_1 l0_1.length c0_1], .int .i64 a1, .int .i64 a2] w fun e w' => e = .returned (.int .i64 r) ∧ Below w.heap.size w w' := by
 have hu31 := Try.underlying31
 have hu67 := Try.underlying67
 have HR0_1 := Aside0.mk hr0_1
 have HC0_1 := Aside0.mk hc0_1
 clear hr0_1 hc0_1
 have HB := Aside0.mk (Below.refl w.heap.size w)
 have H : ((spec_l02Vert.f a0_0 l0_1 a1).bind fun t123 => (if t123 = true then ((spec_l02Vert.f a0_0 l0_1 a2).bind fun t124 => (if t124 = true then (spec_Multiplicity.j0 k a1 a2 0 (a1 == a2) a0_0 l0_1) else (spec_Multiplicity.j0 k a1 a2 0 true a0_0 l0_1))) else (spec_Multiplicity.j0 k a1 a2 0 true a0_0 l0_1))) = some r := h
 clear h
 have HC4 := Aside0.mk H
 clear H
 go_enter Try.func115, Try.ntmps115
 go_upto_region 2 with (first | ((with_reducible refine gate_dst (N := 3) rfl ?_); (try (refine gate_guard (by rfl) ?_; dsimp only)); refine box_event ?hg (N := 3) ?hd (cs := #[.int .i64 a0_0, .slice A0_1 l0_1.length c0_1]) (t := 31) ?hr ?_; (case hd => rfl); (case hg => rfl); (case hr => first | (go_simp; done) | (go_simp; rfl)); intro gb122 hg w5 hbox hb; have BK122 := Aside0.mk (hbox); have GW122 := Aside0.mk ((by rw [hg]; exact (below_size (Lz HB)) : w.heap.size ≤ gb122)); have GE122 := Aside0.mk ((by rw [hg]; exact (below_size (Lz HB)) : w.heap.size ≤ gb122)); replace HB := Aside0.mk (below_step (Lz HB) hb); clear hb hbox hg))
 (try simp only [Act.put, List.setIfInBounds_toArray, List.set_cons_zero, List.set_cons_succ])
 go_cut [24] (fun v24 wc => ∃ (kq : Nat) (x24_3 : Bool), v24 = .bool x24_3 ∧ Aside0 (spec_Multiplicity.j0 kq a1 a2 0 x24_3 a0_0 l0_1 = some r) ∧ Aside0 (kq ≤ k) ∧ Aside0 (wc.heap[gb122]? = some (.cells #[.int .i64 a0_0, (.slice A0_1 l0_1.length c0_1)] 31 (0, 0))) ∧ Aside0 (Below w.heap.size w wc))
 case first =>
  have H := HC4.out
  clear HC4
  replace H := Option.bind_eq_some_iff.mp H
  obtain ⟨t123, A60, H⟩ := H
  replace H : (if t123 = true then ((spec_l02Vert.f a0_0 l0_1 a2).bind fun t124 => (if t124 = true then (spec_Multiplicity.j0 k a1 a2 0 (a1 == a2) a0_0 l0_1) else (spec_Multiplicity.j0 k a1 a2 0 true a0_0 l0_1))) else (spec_Multiplicity.j0 k a1 a2 0 true a0_0 l0_1)) = some r := H
  have A6 := Aside0.mk A60
  clear A60
  by_cases c7 : t123 = true
  ·subst c7
   have H1 : ((spec_l02Vert.f a0_0 l0_1 a2).bind fun t124 => (if t124 = true then (spec_Multiplicity.j0 k a1 a2 0 (a1 == a2) a0_0 l0_1) else (spec_Multiplicity.j0 k a1 a2 0 true a0_0 l0_1))) = some r := by rw [if_pos rfl] at H; exact H
   clear H
   have H := H1
   clear H1
   replace H := Option.bind_eq_some_iff.mp H
   obtain ⟨t124, A80, H⟩ := H
   replace H : (if t124 = true then (spec_Multiplicity.j0 k a1 a2 0 (a1 == a2) a0_0 l0_1) else (spec_Multiplicity.j0 k a1 a2 0 true a0_0 l0_1)) = some r := H
   have A8 := Aside0.mk A80
   clear A80
   by_cases c9 : t124 = true
   ·subst c9
    have H1 : (spec_Multiplicity.j0 k a1 a2 0 (a1 == a2) a0_0 l0_1) = some r := by rw [if_pos rfl] at H; exact H
    clear H
    have H := H1
    clear H1
    have H' := Aside0.mk H
    clear H
    have hcz10_0 : w5.cell? ⟨gb122, 0, none⟩ = some (.int .i64 a0_0) := (blk_cell BK122.out 0).trans rfl
    have hcz10_1 : w5.cell? ⟨gb122, 1, none⟩ = some (.slice A0_1 l0_1.length c0_1) := (blk_cell BK122.out 1).trans rfl
    have hfz10_0 := blk_frozen BK122.out 0
    have hfz10_1 := blk_frozen BK122.out 1
    go_wp2_with (first | ((with_reducible refine gate_callee (f := 131) rfl ?_); refine goesM_ (some 12) rfl rfl Try.func131 (by kernel_rfl) rfl #[.agg #[.int .i64 a0_0, .slice A0_1 l0_1.length c0_1], .int .i64 a1] rfl ?_; (with_reducible refine (spec_l02Vert.calls a0_0 _ _ l0_1 a1 true _ ?side1 ?side2 A6.out).mono ?_); (case side1 => exact Cz ((Kd.C_below HR0_1.out HB.out))); (case side2 => exact HC0_1.out); rintro e w11 ⟨rfl, hb⟩; refine ⟨_, rfl, ?_⟩; replace BK122 := Aside0.mk (blk_below (g := gb122) (o := .cells #[.int .i64 a0_0, .slice A0_1 l0_1.length c0_1] 31 (0, 0)) (Bz BK122) hb); replace HB := Aside0.mk (below_step (by exact Lz1 HB GE122) hb); (try clear hb); (try clear hb2); (try clear hk); (try clear hi); have hcz12_0 : w11.cell? ⟨gb122, 0, none⟩ = some (.int .i64 a0_0) := (blk_cell BK122.out 0).trans rfl; have hcz12_1 : w11.cell? ⟨gb122, 1, none⟩ = some (.slice A0_1 l0_1.length c0_1) := (blk_cell BK122.out 1).trans rfl; have hfz12_0 := blk_frozen BK122.out 0; have hfz12_1 := blk_frozen BK122.out 1) | (go_at_call 131; (with_reducible refine (spec_l02Vert.calls a0_0 _ _ l0_1 a2 true _ ?side1 ?side2 A8.out).mono ?_); (case side1 => exact Cz ((Kd.C_below HR0_1.out HB.out))); (case side2 => exact HC0_1.out); rintro e w13 ⟨rfl, hb⟩; replace BK122 := Aside0.mk (blk_below (g := gb122) (o := .cells #[.int .i64 a0_0, .slice A0_1 l0_1.length c0_1] 31 (0, 0)) (Bz BK122) hb); replace HB := Aside0.mk (below_step (by exact Lz1 HB GE122) hb); (try clear hb); (try clear hb2); (try clear hk); (try clear hi)))
    go_meet
    case rel => exact ⟨_, ((a1 == a2)), eqA, H', ⟨by first | omega | exact Nat.le_refl _⟩, ⟨by exact Bz BK122⟩, ⟨by exact Lz1 HB GE122⟩⟩
   replace c9 := Bool.eq_false_iff.mpr c9
   subst c9
   have H1 : (spec_Multiplicity.j0 k a1 a2 0 true a0_0 l0_1) = some r := by rw [if_neg (show ¬ (false = true) by decide)] at H; exact H
   clear H
   have H := H1
   clear H1
   have H' := Aside0.mk H
   clear H
   have hcz14_0 : w5.cell? ⟨gb122, 0, none⟩ = some (.int .i64 a0_0) := (blk_cell BK122.out 0).trans rfl
   have hcz14_1 : w5.cell? ⟨gb122, 1, none⟩ = some (.slice A0_1 l0_1.length c0_1) := (blk_cell BK122.out 1).trans rfl
   have hfz14_0 := blk_frozen BK122.out 0
   have hfz14_1 := blk_frozen BK122.out 1
   go_wp2_with (first | ((with_reducible refine gate_callee (f := 131) rfl ?_); refine goesM_ (some 12) rfl rfl Try.func131 (by kernel_rfl) rfl #[.agg #[.int .i64 a0_0, .slice A0_1 l0_1.length c0_1], .int .i64 a1] rfl ?_; (with_reducible refine (spec_l02Vert.calls a0_0 _ _ l0_1 a1 true _ ?side1 ?side2 A6.out).mono ?_); (case side1 => exact Cz ((Kd.C_below HR0_1.out HB.out))); (case side2 => exact HC0_1.out); rintro e w15 ⟨rfl, hb⟩; refine ⟨_, rfl, ?_⟩; replace BK122 := Aside0.mk (blk_below (g := gb122) (o := .cells #[.int .i64 a0_0, .slice A0_1 l0_1.length c0_1] 31 (0, 0)) (Bz BK122) hb); replace HB := Aside0.mk (below_step (by exact Lz1 HB GE122) hb); (try clear hb); (try clear hb2); (try clear hk); (try clear hi); have hcz16_0 : w15.cell? ⟨gb122, 0, none⟩ = some (.int .i64 a0_0) := (blk_cell BK122.out 0).trans rfl; have hcz16_1 : w15.cell? ⟨gb122, 1, none⟩ = some (.slice A0_1 l0_1.length c0_1) := (blk_cell BK122.out 1).trans rfl; have hfz16_0 := blk_frozen BK122.out 0; have hfz16_1 := blk_frozen BK122.out 1) | (go_at_call 131; (with_reducible refine (spec_l02Vert.calls a0_0 _ _ l0_1 a2 false _ ?side1 ?side2 A8.out).mono ?_); (case side1 => exact Cz ((Kd.C_below HR0_1.out HB.out))); (case side2 => exact HC0_1.out); rintro e w17 ⟨rfl, hb⟩; replace BK122 := Aside0.mk (blk_below (g := gb122) (o := .cells #[.int .i64 a0_0, .slice A0_1 l0_1.length c0_1] 31 (0, 0)) (Bz BK122) hb); replace HB := Aside0.mk (below_step (by exact Lz1 HB GE122) hb); (try clear hb); (try clear hb2); (try clear hk); (try clear hi)))
   go_meet
   case rel => exact ⟨_, (true), eqA, H', ⟨by first | omega | exact Nat.le_refl _⟩, ⟨by exact Bz BK122⟩, ⟨by exact Lz1 HB GE122⟩⟩
  replace c7 := Bool.eq_false_iff.mpr c7
  subst c7
  have H1 : (spec_Multiplicity.j0 k a1 a2 0 true a0_0 l0_1) = some r := by rw [if_neg (show ¬ (false = true) by decide)] at H; exact H
  clear H
  have H := H1
  clear H1
  have H' := Aside0.mk H
  clear H
  have hcz18_0 : w5.cell? ⟨gb122, 0, none⟩ = some (.int .i64 a0_0) := (blk_cell BK122.out 0).trans rfl
  have hcz18_1 : w5.cell? ⟨gb122, 1, none⟩ = some (.slice A0_1 l0_1.length c0_1) := (blk_cell BK122.out 1).trans rfl
  have hfz18_0 := blk_frozen BK122.out 0
  have hfz18_1 := blk_frozen BK122.out 1
  go_wp2_with (first | ((with_reducible refine gate_callee (f := 131) rfl ?_); refine goesM_ (some 12) rfl rfl Try.func131 (by kernel_rfl) rfl #[.agg #[.int .i64 a0_0, .slice A0_1 l0_1.length c0_1], .int .i64 a1] rfl ?_; (with_reducible refine (spec_l02Vert.calls a0_0 _ _ l0_1 a1 false _ ?side1 ?side2 A6.out).mono ?_); (case side1 => exact Cz ((Kd.C_below HR0_1.out HB.out))); (case side2 => exact HC0_1.out); rintro e w19 ⟨rfl, hb⟩; refine ⟨_, rfl, ?_⟩; replace BK122 := Aside0.mk (blk_below (g := gb122) (o := .cells #[.int .i64 a0_0, .slice A0_1 l0_1.length c0_1] 31 (0, 0)) (Bz BK122) hb); replace HB := Aside0.mk (below_step (by exact Lz1 HB GE122) hb); (try clear hb); (try clear hb2); (try clear hk); (try clear hi)))
  go_meet
  case rel => exact ⟨_, (true), eqA, H', ⟨by first | omega | exact Nat.le_refl _⟩, ⟨by exact Bz BK122⟩, ⟨by exact Lz1 HB GE122⟩⟩
 case rest =>
  clear HC4
  try clear c7
  try clear c9
  obtain ⟨kq, x24_3, rfl, HA, HJ3, BK122, HB⟩ := hcut
  cases kq with
  | zero => exact absurd HA.out (by simp [spec_Multiplicity.j0])
  | succ kj3 =>
   have H := HA.out
   clear HA
   simp only [spec_Multiplicity.j0] at H
   by_cases c20 : x24_3 = true
   ·subst c20
    have H1 : (some 0) = some r := by rw [if_pos rfl] at H; exact H
    clear H
    have H := H1
    clear H1
    obtain rfl := Option.some.inj H
    go_wp2
    go_ret
    exact ⟨by first | rfl | (simp [errW_none, errW_some] <;> rfl) | (simp [*, errW_none, errW_some] <;> rfl), by exact Lz1 HB GE122⟩
   replace c20 := Bool.eq_false_iff.mpr c20
   subst c20
   have H1 : (spec_Multiplicity.l0 kj3 a1 a2 0 l0_1 (l0_1.length : Int) 0) = some r := by rw [if_neg (show ¬ (false = true) by decide)] at H; exact H
   clear H
   have H := H1
   clear H1
   have H' := Aside0.mk H
   clear H
   have hcz21_0 : wc.cell? ⟨gb122, 0, none⟩ = some (.int .i64 a0_0) := (blk_cell BK122.out 0).trans rfl
   have hcz21_1 : wc.cell? ⟨gb122, 1, none⟩ = some (.slice A0_1 l0_1.length c0_1) := (blk_cell BK122.out 1).trans rfl
   have hfz21_0 := blk_frozen BK122.out 0
   have hfz21_1 := blk_frozen BK122.out 1
   go_wp2
   go_loopg [7, 28] kj3 (fun kq v7 v28 w' => ∃ (x7_2 : Int) (x28_2 : Int), v7 = .int .i64 x7_2 ∧ v28 = .int .i64 x28_2 ∧ Aside0 (spec_Multiplicity.l0 kq a1 a2 x7_2 l0_1 (l0_1.length : Int) x28_2 = some r) ∧ Aside0 (kq ≤ kj3) ∧ Aside0 (w'.heap[gb122]? = some (.cells #[.int .i64 a0_0, (.slice A0_1 l0_1.length c0_1)] 31 (0, 0))) ∧ Aside0 (Below w.heap.size w w'))
   case atStart => exact ⟨(0), (0), eqA, eqA, H', ⟨Nat.le_refl _⟩, ⟨by exact Bz BK122⟩, ⟨by exact Lz1 HB GE122⟩⟩
   case round =>
    clear H'
    try clear c7
    try clear c9
    try clear c20
    obtain ⟨x7_2, x28_2, rfl, rfl, HA, HK2, BK122, HB⟩ := hrel
    cases gk with
    | zero => exact absurd HA.out (by simp [spec_Multiplicity.l0])
    | succ k2 =>
     have H := HA.out
     clear HA
     simp only [spec_Multiplicity.l0] at H
     by_cases c22 : x28_2 < (l0_1.length : Int)
     ·rw [if_pos c22] at H
      have c22b0 : decide (x28_2 < (l0_1.length : Int)) = true := decide_eq_true c22
      clear c22
      by_cases c23 : 0 ≤ x28_2
      ·rw [if_pos c23] at H
       have c23b0 : decide (0 ≤ x28_2) = true := decide_eq_true c23
       clear c23
       by_cases c24 : x28_2 < (l0_1.length : Int)
       ·rw [if_pos c24] at H
        have c24b0 : decide (x28_2 < (l0_1.length : Int)) = true := decide_eq_true c24
        clear c24
        obtain ⟨ji25, hji25⟩ : ∃ j_ : Int, (mn a1 a2) = j_ := ⟨_, rfl⟩
        replace H : (if ((rd_T67 l0_1 x28_2).f0) = (ji25) then (if ((rd_T67 l0_1 x28_2).f1) = (mx a1 a2) then (spec_Multiplicity.l0 k2 a1 a2 (wrap64 (x7_2 + 1)) l0_1 (l0_1.length : Int) (wrap64 (x28_2 + 1))) else (spec_Multiplicity.l0 k2 a1 a2 x7_2 l0_1 (l0_1.length : Int) (wrap64 (x28_2 + 1)))) else (spec_Multiplicity.l0 k2 a1 a2 x7_2 l0_1 (l0_1.length : Int) (wrap64 (x28_2 + 1)))) = some r := by first | (rw [hji25] at H; exact H) | (simp only [hji25] at H ⊢; exact H)
        have hji25_ : (if a2 < a1 then a2 else a1) = ji25 := hji25
        by_cases c26 : ((rd_T67 l0_1 x28_2).f0) = (ji25)
        ·rw [if_pos c26] at H
         have c26b0 : (((rd_T67 l0_1 x28_2).f0) == (ji25)) = true := beq_iff_eq.mpr c26
         have c26b1 : (((rd_T67 l0_1 x28_2).f0) != (ji25)) = false := bne_eq_false_iff_eq.mpr c26
         clear c26
         obtain ⟨ji27, hji27⟩ : ∃ j_ : Int, (mx a1 a2) = j_ := ⟨_, rfl⟩
         replace H : (if ((rd_T67 l0_1 x28_2).f1) = (ji27) then (spec_Multiplicity.l0 k2 a1 a2 (wrap64 (x7_2 + 1)) l0_1 (l0_1.length : Int) (wrap64 (x28_2 + 1))) else (spec_Multiplicity.l0 k2 a1 a2 x7_2 l0_1 (l0_1.length : Int) (wrap64 (x28_2 + 1)))) = some r := by first | (rw [hji27] at H; exact H) | (simp only [hji27] at H ⊢; exact H)
         have hji27_ : (if a1 < a2 then a2 else a1) = ji27 := hji27
         by_cases c28 : ((rd_T67 l0_1 x28_2).f1) = (ji27)
         ·rw [if_pos c28] at H
          have c28b0 : (((rd_T67 l0_1 x28_2).f1) == (ji27)) = true := beq_iff_eq.mpr c28
          have c28b1 : (((rd_T67 l0_1 x28_2).f1) != (ji27)) = false := bne_eq_false_iff_eq.mpr c28
          clear c28
          have H' := Aside0.mk H
          clear H
          have p125 : 0 ≤ (x28_2 : Int) := ofA
          have q125 : x28_2 < (l0_1.length : Int) := ofA
          obtain ⟨ad125, e125, hx125_0, hx125_1⟩ := at_T67 HR0_1.out x28_2 p125 q125
          cases e125
          replace hx125_0 := (HB.out.cell (World.block_lt_of_cell? w _ hx125_0)).trans hx125_0
          replace hx125_1 := (HB.out.cell (World.block_lt_of_cell? w _ hx125_1)).trans hx125_1
          replace p125 := eq_true p125
          replace q125 := eq_true q125
          go_wp2_with (first | ((with_reducible refine gate_dst (N := 9) rfl ?_); (try (refine gate_guard (by rfl) ?_; dsimp only)); refine box_event ?hg (N := 9) ?hd (cs := #[.int .i64 0, .int .i64 0]) (t := 67) ?hr ?_; (case hd => rfl); (case hg => rfl); (case hr => first | (go_simp; done) | (go_simp; rfl)); intro gb126 hg w29 hbox hb; have BK126 := Aside0.mk (hbox); have GW126 := Aside0.mk ((by rw [hg]; exact (below_size (by exact Lz1 HB GE122)) : w.heap.size ≤ gb126)); have GE126 := Aside0.mk ((by rw [hg]; exact (below_size (by exact Lz1 HB GE122)) : w.heap.size ≤ gb126)); replace HB := Aside0.mk (below_step (by exact Lz1 HB GE122) hb); have NB122_126 := Aside0.mk ((by rw [hg]; exact Nat.ne_of_lt (blk_lt (g := gb122) (o := .cells #[.int .i64 a0_0, .slice (some ad125) l0_1.length c0_1] 31 (0, 0)) (Bz BK122)) : gb122 ≠ gb126)); have NB126_122 := Aside0.mk ((by rw [hg]; exact Nat.ne_of_gt (blk_lt (g := gb122) (o := .cells #[.int .i64 a0_0, .slice (some ad125) l0_1.length c0_1] 31 (0, 0)) (Bz BK122)) : gb126 ≠ gb122)); replace BK122 := Aside0.mk (blk_below (g := gb122) (o := .cells #[.int .i64 a0_0, .slice (some ad125) l0_1.length c0_1] 31 (0, 0)) (Bz BK122) hb); clear hb hbox hg; have hnb30 := NB126_122.out; have hnc30 := NB122_126.out; have hcz31_0 : w29.cell? ⟨gb126, 0, none⟩ = some (.int .i64 0) := (blk_cell BK126.out 0).trans rfl; have hcz31_1 : w29.cell? ⟨gb126, 1, none⟩ = some (.int .i64 0) := (blk_cell BK126.out 1).trans rfl; have hfz31_0 := blk_frozen BK126.out 0; have hfz31_1 := blk_frozen BK126.out 1))
          go_roundg k2
          case measure => have := HJ3.out; have := HK2.out; omega
          case rel => exact ⟨(wrap64 (x7_2 + 1)), (wrap64 (x28_2 + 1)), eqA, eqA, H', ⟨by have := HJ3.out; have := HK2.out; omega⟩, ⟨by (with_reducible repeat (first | refine blk_drewN ?_ _ | refine blk_drew ?_ | refine blk_alloc ?_ _)); refine blk_far ?_ NB122_126.out _; (with_reducible repeat (first | refine blk_drewN ?_ _ | refine blk_drew ?_ | refine blk_alloc ?_ _)); refine blk_far ?_ NB122_126.out _; exact Bz BK122⟩, ⟨by exact Lz2 HB GE122 GE126⟩⟩
         rw [if_neg c28] at H
         have c28b0 : (((rd_T67 l0_1 x28_2).f1) == (ji27)) = false := beq_eq_false_iff_ne.mpr c28
         have c28b1 : (((rd_T67 l0_1 x28_2).f1) != (ji27)) = true := bne_iff_ne.mpr c28
         have H' := Aside0.mk H
         clear H
         have p125 : 0 ≤ (x28_2 : Int) := ofA
         have q125 : x28_2 < (l0_1.length : Int) := ofA
         obtain ⟨ad125, e125, hx125_0, hx125_1⟩ := at_T67 HR0_1.out x28_2 p125 q125
         cases e125
         replace hx125_0 := (HB.out.cell (World.block_lt_of_cell? w _ hx125_0)).trans hx125_0
         replace hx125_1 := (HB.out.cell (World.block_lt_of_cell? w _ hx125_1)).trans hx125_1
         replace p125 := eq_true p125
         replace q125 := eq_true q125
         go_wp2_with (first | ((with_reducible refine gate_dst (N := 9) rfl ?_); (try (refine gate_guard (by rfl) ?_; dsimp only)); refine box_event ?hg (N := 9) ?hd (cs := #[.int .i64 0, .int .i64 0]) (t := 67) ?hr ?_; (case hd => rfl); (case hg => rfl); (case hr => first | (go_simp; done) | (go_simp; rfl)); intro gb126 hg w32 hbox hb; have BK126 := Aside0.mk (hbox); have GW126 := Aside0.mk ((by rw [hg]; exact (below_size (by exact Lz1 HB GE122)) : w.heap.size ≤ gb126)); have GE126 := Aside0.mk ((by rw [hg]; exact (below_size (by exact Lz1 HB GE122)) : w.heap.size ≤ gb126)); replace HB := Aside0.mk (below_step (by exact Lz1 HB GE122) hb); have NB122_126 := Aside0.mk ((by rw [hg]; exact Nat.ne_of_lt (blk_lt (g := gb122) (o := .cells #[.int .i64 a0_0, .slice (some ad125) l0_1.length c0_1] 31 (0, 0)) (Bz BK122)) : gb122 ≠ gb126)); have NB126_122 := Aside0.mk ((by rw [hg]; exact Nat.ne_of_gt (blk_lt (g := gb122) (o := .cells #[.int .i64 a0_0, .slice (some ad125) l0_1.length c0_1] 31 (0, 0)) (Bz BK122)) : gb126 ≠ gb122)); replace BK122 := Aside0.mk (blk_below (g := gb122) (o := .cells #[.int .i64 a0_0, .slice (some ad125) l0_1.length c0_1] 31 (0, 0)) (Bz BK122) hb); clear hb hbox hg; have hnb33 := NB126_122.out; have hnc33 := NB122_126.out; have hcz34_0 : w32.cell? ⟨gb126, 0, none⟩ = some (.int .i64 0) := (blk_cell BK126.out 0).trans rfl; have hcz34_1 : w32.cell? ⟨gb126, 1, none⟩ = some (.int .i64 0) := (blk_cell BK126.out 1).trans rfl; have hfz34_0 := blk_frozen BK126.out 0; have hfz34_1 := blk_frozen BK126.out 1))
         go_roundg k2
         case measure => have := HJ3.out; have := HK2.out; omega
         case rel => exact ⟨(x7_2), (wrap64 (x28_2 + 1)), eqA, eqA, H', ⟨by have := HJ3.out; have := HK2.out; omega⟩, ⟨by (with_reducible repeat (first | refine blk_drewN ?_ _ | refine blk_drew ?_ | refine blk_alloc ?_ _)); refine blk_far ?_ NB122_126.out _; (with_reducible repeat (first | refine blk_drewN ?_ _ | refine blk_drew ?_ | refine blk_alloc ?_ _)); refine blk_far ?_ NB122_126.out _; exact Bz BK122⟩, ⟨by exact Lz2 HB GE122 GE126⟩⟩
        rw [if_neg c26] at H
        have c26b0 : (((rd_T67 l0_1 x28_2).f0) == (ji25)) = false := beq_eq_false_iff_ne.mpr c26
        have c26b1 : (((rd_T67 l0_1 x28_2).f0) != (ji25)) = true := bne_iff_ne.mpr c26
        have H' := Aside0.mk H
        clear H
        have p125 : 0 ≤ (x28_2 : Int) := ofA
        have q125 : x28_2 < (l0_1.length : Int) := ofA
        obtain ⟨ad125, e125, hx125_0, hx125_1⟩ := at_T67 HR0_1.out x28_2 p125 q125
        cases e125
        replace hx125_0 := (HB.out.cell (World.block_lt_of_cell? w _ hx125_0)).trans hx125_0
        replace hx125_1 := (HB.out.cell (World.block_lt_of_cell? w _ hx125_1)).trans hx125_1
        replace p125 := eq_true p125
        replace q125 := eq_true q125
        go_wp2_with (first | ((with_reducible refine gate_dst (N := 9) rfl ?_); (try (refine gate_guard (by rfl) ?_; dsimp only)); refine box_event ?hg (N := 9) ?hd (cs := #[.int .i64 0, .int .i64 0]) (t := 67) ?hr ?_; (case hd => rfl); (case hg => rfl); (case hr => first | (go_simp; done) | (go_simp; rfl)); intro gb126 hg w35 hbox hb; have BK126 := Aside0.mk (hbox); have GW126 := Aside0.mk ((by rw [hg]; exact (below_size (by exact Lz1 HB GE122)) : w.heap.size ≤ gb126)); have GE126 := Aside0.mk ((by rw [hg]; exact (below_size (by exact Lz1 HB GE122)) : w.heap.size ≤ gb126)); replace HB := Aside0.mk (below_step (by exact Lz1 HB GE122) hb); have NB122_126 := Aside0.mk ((by rw [hg]; exact Nat.ne_of_lt (blk_lt (g := gb122) (o := .cells #[.int .i64 a0_0, .slice (some ad125) l0_1.length c0_1] 31 (0, 0)) (Bz BK122)) : gb122 ≠ gb126)); have NB126_122 := Aside0.mk ((by rw [hg]; exact Nat.ne_of_gt (blk_lt (g := gb122) (o := .cells #[.int .i64 a0_0, .slice (some ad125) l0_1.length c0_1] 31 (0, 0)) (Bz BK122)) : gb126 ≠ gb122)); replace BK122 := Aside0.mk (blk_below (g := gb122) (o := .cells #[.int .i64 a0_0, .slice (some ad125) l0_1.length c0_1] 31 (0, 0)) (Bz BK122) hb); clear hb hbox hg; have hnb36 := NB126_122.out; have hnc36 := NB122_126.out; have hcz37_0 : w35.cell? ⟨gb126, 0, none⟩ = some (.int .i64 0) := (blk_cell BK126.out 0).trans rfl; have hcz37_1 : w35.cell? ⟨gb126, 1, none⟩ = some (.int .i64 0) := (blk_cell BK126.out 1).trans rfl; have hfz37_0 := blk_frozen BK126.out 0; have hfz37_1 := blk_frozen BK126.out 1))
        go_roundg k2
        case measure => have := HJ3.out; have := HK2.out; omega
        case rel => exact ⟨(x7_2), (wrap64 (x28_2 + 1)), eqA, eqA, H', ⟨by have := HJ3.out; have := HK2.out; omega⟩, ⟨by (with_reducible repeat (first | refine blk_drewN ?_ _ | refine blk_drew ?_ | refine blk_alloc ?_ _)); refine blk_far ?_ NB122_126.out _; (with_reducible repeat (first | refine blk_drewN ?_ _ | refine blk_drew ?_ | refine blk_alloc ?_ _)); refine blk_far ?_ NB122_126.out _; exact Bz BK122⟩, ⟨by exact Lz2 HB GE122 GE126⟩⟩
       rw [if_neg c24] at H
       exact absurd H (by simp)
      rw [if_neg c23] at H
      exact absurd H (by simp)
     rw [if_neg c22] at H
     have c22b0 : decide (x28_2 < (l0_1.length : Int)) = false := decide_eq_false c22
     clear c22
     obtain rfl := Option.some.inj H
     go_wp2
     go_ret
     exact ⟨by first | rfl | (simp [errW_none, errW_some] <;> rfl) | (simp [*, errW_none, errW_some] <;> rfl), by exact Lz1 HB GE122⟩
def spec_l01Below.f (s0_0 : List Int) (s0_1 : Int) (s0_2 : Int) (a1 : Int) : Option (Int × Int × Int) := if a1 ≤ 0 then (some (0, s0_1, s0_2)) else (if a1 ≤ 256 then ((spec_l01Byte.f s0_0 s0_1 s0_2).bind fun bt631 => (if a1 = 0 then (none) else (some (Int.tmod bt631.1 a1, bt631.2.1, bt631.2.2)))) else ((spec_l01Byte.f s0_0 s0_1 s0_2).bind fun bt634 => ((spec_l01Byte.f s0_0 bt634.2.1 bt634.2.2).bind fun bt637 => ((spec_l01Byte.f s0_0 bt637.2.1 bt637.2.2).bind fun bt640 => ((spec_l01Byte.f s0_0 bt640.2.1 bt640.2.2).bind fun bt643 => (if a1 = 0 then (none) else (some (Int.tmod (wrap64 ((wrap64 ((wrap64 ((wrap64 (bt634.1 * 16777216)) + (wrap64 (bt637.1 * 65536)))) + (wrap64 (bt640.1 * 256)))) + bt643.1)) a1, bt643.2.1, bt643.2.2))))))))
set_option maxHeartbeats 8000000 in
set_option maxRecDepth 100000 in
theorem spec_l01Below.calls (g : Nat) (s0_0 : List Int) (s0_1 : Int) (s0_2 : Int) (a1 : Int) (r1 : Int) (r2 : Int) (r3 : Int) (w0 w : World) (hI : IsS101 w0 w g s0_0 s0_1 s0_2) (hB : Below w0.heap.size w0 w) (h : spec_l01Below.f s0_0 s0_1 s0_2 a1 = some (r1, r2, r3)) :
  Calls Try.prog 75 #[.pointer (some ⟨g, 0, none⟩), .int .i64 a1] w fun e w' => e = .returned (.int .i64 r1) ∧ IsS101 w0 w' g s0_0 r2 r3 ∧ Below w0.heap.size w0 w' ∧ KeepBut w w' g none := by
 have HI0 := Aside0.mk hI
 have HK := Aside0.mk (KeepBut.refl w g none)
 have HL := Aside0.mk hB.size
 clear hI
 have HW0 := Aside0.mk hB.size
 have HB := Aside0.mk hB
 clear hB
 have H : (if a1 ≤ 0 then (some (0, s0_1, s0_2)) else (if a1 ≤ 256 then ((spec_l01Byte.f s0_0 s0_1 s0_2).bind fun bt631 => (if a1 = 0 then (none) else (some (Int.tmod bt631.1 a1, bt631.2.1, bt631.2.2)))) else ((spec_l01Byte.f s0_0 s0_1 s0_2).bind fun bt634 => ((spec_l01Byte.f s0_0 bt634.2.1 bt634.2.2).bind fun bt637 => ((spec_l01Byte.f s0_0 bt637.2.1 bt637.2.2).bind fun bt640 => ((spec_l01Byte.f s0_0 bt640.2.1 bt640.2.2).bind fun bt643 => (if a1 = 0 then (none) else (some (Int.tmod (wrap64 ((wrap64 ((wrap64 ((wrap64 (bt634.1 * 16777216)) + (wrap64 (bt637.1 * 65536)))) + (wrap64 (bt640.1 * 256)))) + bt643.1)) a1, bt643.2.1, bt643.2.2))))))))) = some (r1, r2, r3) := h
 clear h
 by_cases c3 : a1 ≤ 0
 ·rw [if_pos c3] at H
  have c3b0 : decide (a1 ≤ 0) = true := decide_eq_true c3
  clear c3
  simp only [Option.some.injEq, Prod.mk.injEq] at H
  obtain ⟨rfl, rfl, rfl⟩ := H
  go_enter Try.func75, Try.ntmps75
  go_wp2
  go_ret
  exact ⟨by first | rfl | (simp [errW_none, errW_some] <;> rfl) | (simp [*, errW_none, errW_some] <;> rfl), by repeat (first | (with_reducible first | exact HI0.out | apply IsS101.alloc | apply IsS101.drewN | apply IsS101.drew | apply IsS101.set_1 | apply IsS101.set_2) | exact HI0.out), by repeat (first | (with_reducible first | exact HB.out | apply below_alloc | apply pw_below_drewN | apply below_drew1 | refine below_set ?_ (IsS101.ge HI0.out)) | exact HB.out), by repeat (first | (with_reducible first | exact HK.out | apply KeepBut.set_ | apply keep_drewN | apply keep_drew | apply keep_alloc) | exact HK.out)⟩
 rw [if_neg c3] at H
 have c3b0 : decide (a1 ≤ 0) = false := decide_eq_false c3
 clear c3
 by_cases c4 : a1 ≤ 256
 ·rw [if_pos c4] at H
  have c4b0 : decide (a1 ≤ 256) = true := decide_eq_true c4
  clear c4
  replace H := Option.bind_eq_some_iff.mp H
  obtain ⟨⟨t631, t632, t633⟩, A50, H⟩ := H
  replace H : (if a1 = 0 then (none) else (some (Int.tmod t631 a1, t632, t633))) = some (r1, r2, r3) := H
  have A5 := Aside0.mk A50
  clear A50
  by_cases c6 : a1 = 0
  ·rw [if_pos c6] at H
   exact absurd H (by simp)
  rw [if_neg c6] at H
  have c6b0 : (a1 == 0) = false := beq_eq_false_iff_ne.mpr c6
  have c6b1 : (a1 != 0) = true := bne_iff_ne.mpr c6
  simp only [Option.some.injEq, Prod.mk.injEq] at H
  obtain ⟨rfl, rfl, rfl⟩ := H
  go_enter Try.func75, Try.ntmps75
  go_wp2_with (first | ((with_reducible refine gate_callee (f := 70) rfl ?_); refine goesM_ (some 14) rfl rfl Try.func70 (by kernel_rfl) rfl #[.pointer (some ⟨g, 0, none⟩)] rfl ?_; (with_reducible refine (spec_l01Byte.calls g s0_0 s0_1 s0_2 t631 t632 t633 w0 _ ?side1 ?side2 A5.out).mono ?_); (case side1 => repeat (first | (with_reducible first | exact HI0.out | apply IsS101.alloc | apply IsS101.drewN | apply IsS101.drew | apply IsS101.set_1 | apply IsS101.set_2) | exact HI0.out)); (case side2 => repeat (first | (with_reducible first | exact HB.out | apply below_alloc | apply pw_below_drewN | apply below_drew1 | refine below_set ?_ (IsS101.ge HI0.out)) | exact HB.out)); rintro e w7 ⟨rfl, hi, hb, hk⟩; refine ⟨_, rfl, ?_⟩; replace HK := Aside0.mk (KeepBut.trans (by repeat (first | (with_reducible first | exact HK.out | apply KeepBut.set_ | apply keep_drewN | apply keep_drew | apply keep_alloc) | exact HK.out)) hk (.inl rfl)); replace HB := Aside0.mk (hb); replace HI0 := Aside0.mk (hi); (try clear hb); (try clear hb2); (try clear hk); (try clear hi)))
  go_ret
  exact ⟨by first | rfl | (simp [errW_none, errW_some] <;> rfl) | (simp [*, errW_none, errW_some] <;> rfl), by repeat (first | (with_reducible first | exact HI0.out | apply IsS101.alloc | apply IsS101.drewN | apply IsS101.drew | apply IsS101.set_1 | apply IsS101.set_2) | exact HI0.out), by repeat (first | (with_reducible first | exact HB.out | apply below_alloc | apply pw_below_drewN | apply below_drew1 | refine below_set ?_ (IsS101.ge HI0.out)) | exact HB.out), by repeat (first | (with_reducible first | exact HK.out | apply KeepBut.set_ | apply keep_drewN | apply keep_drew | apply keep_alloc) | exact HK.out)⟩
 rw [if_neg c4] at H
 have c4b0 : decide (a1 ≤ 256) = false := decide_eq_false c4
 clear c4
 replace H := Option.bind_eq_some_iff.mp H
 obtain ⟨⟨t634, t635, t636⟩, A80, H⟩ := H
 replace H : ((spec_l01Byte.f s0_0 t635 t636).bind fun bt637 => ((spec_l01Byte.f s0_0 bt637.2.1 bt637.2.2).bind fun bt640 => ((spec_l01Byte.f s0_0 bt640.2.1 bt640.2.2).bind fun bt643 => (if a1 = 0 then (none) else (some (Int.tmod (wrap64 ((wrap64 ((wrap64 ((wrap64 (t634 * 16777216)) + (wrap64 (bt637.1 * 65536)))) + (wrap64 (bt640.1 * 256)))) + bt643.1)) a1, bt643.2.1, bt643.2.2)))))) = some (r1, r2, r3) := H
 have A8 := Aside0.mk A80
 clear A80
 replace H := Option.bind_eq_some_iff.mp H
 obtain ⟨⟨t637, t638, t639⟩, A90, H⟩ := H
 replace H : ((spec_l01Byte.f s0_0 t638 t639).bind fun bt640 => ((spec_l01Byte.f s0_0 bt640.2.1 bt640.2.2).bind fun bt643 => (if a1 = 0 then (none) else (some (Int.tmod (wrap64 ((wrap64 ((wrap64 ((wrap64 (t634 * 16777216)) + (wrap64 (t637 * 65536)))) + (wrap64 (bt640.1 * 256)))) + bt643.1)) a1, bt643.2.1, bt643.2.2))))) = some (r1, r2, r3) := H
 have A9 := Aside0.mk A90
 clear A90
 replace H := Option.bind_eq_some_iff.mp H
 obtain ⟨⟨t640, t641, t642⟩, A100, H⟩ := H
 replace H : ((spec_l01Byte.f s0_0 t641 t642).bind fun bt643 => (if a1 = 0 then (none) else (some (Int.tmod (wrap64 ((wrap64 ((wrap64 ((wrap64 (t634 * 16777216)) + (wrap64 (t637 * 65536)))) + (wrap64 (t640 * 256)))) + bt643.1)) a1, bt643.2.1, bt643.2.2)))) = some (r1, r2, r3) := H
 have A10 := Aside0.mk A100
 clear A100
 replace H := Option.bind_eq_some_iff.mp H
 obtain ⟨⟨t643, t644, t645⟩, A110, H⟩ := H
 replace H : (if a1 = 0 then (none) else (some (Int.tmod (wrap64 ((wrap64 ((wrap64 ((wrap64 (t634 * 16777216)) + (wrap64 (t637 * 65536)))) + (wrap64 (t640 * 256)))) + t643)) a1, t644, t645))) = some (r1, r2, r3) := H
 have A11 := Aside0.mk A110
 clear A110
 by_cases c12 : a1 = 0
 ·rw [if_pos c12] at H
  exact absurd H (by simp)
 rw [if_neg c12] at H
 have c12b0 : (a1 == 0) = false := beq_eq_false_iff_ne.mpr c12
 have c12b1 : (a1 != 0) = true := bne_iff_ne.mpr c12
 simp only [Option.some.injEq, Prod.mk.injEq] at H
 obtain ⟨rfl, rfl, rfl⟩ := H
 go_enter Try.func75, Try.ntmps75
 go_wp2_with (first | ((with_reducible refine gate_callee (f := 70) rfl ?_); refine goesM_ (some 18) rfl rfl Try.func70 (by kernel_rfl) rfl #[.pointer (some ⟨g, 0, none⟩)] rfl ?_; (with_reducible refine (spec_l01Byte.calls g s0_0 s0_1 s0_2 t634 t635 t636 w0 _ ?side1 ?side2 A8.out).mono ?_); (case side1 => repeat (first | (with_reducible first | exact HI0.out | apply IsS101.alloc | apply IsS101.drewN | apply IsS101.drew | apply IsS101.set_1 | apply IsS101.set_2) | exact HI0.out)); (case side2 => repeat (first | (with_reducible first | exact HB.out | apply below_alloc | apply pw_below_drewN | apply below_drew1 | refine below_set ?_ (IsS101.ge HI0.out)) | exact HB.out)); rintro e w13 ⟨rfl, hi, hb, hk⟩; refine ⟨_, rfl, ?_⟩; replace HK := Aside0.mk (KeepBut.trans (by repeat (first | (with_reducible first | exact HK.out | apply KeepBut.set_ | apply keep_drewN | apply keep_drew | apply keep_alloc) | exact HK.out)) hk (.inl rfl)); replace HB := Aside0.mk (hb); replace HI0 := Aside0.mk (hi); (try clear hb); (try clear hb2); (try clear hk); (try clear hi)) | ((with_reducible refine gate_callee (f := 70) rfl ?_); refine goesM_ (some 20) rfl rfl Try.func70 (by kernel_rfl) rfl #[.pointer (some ⟨g, 0, none⟩)] rfl ?_; (with_reducible refine (spec_l01Byte.calls g s0_0 t635 t636 t637 t638 t639 w0 _ ?side1 ?side2 A9.out).mono ?_); (case side1 => repeat (first | (with_reducible first | exact HI0.out | apply IsS101.alloc | apply IsS101.drewN | apply IsS101.drew | apply IsS101.set_1 | apply IsS101.set_2) | exact HI0.out)); (case side2 => repeat (first | (with_reducible first | exact HB.out | apply below_alloc | apply pw_below_drewN | apply below_drew1 | refine below_set ?_ (IsS101.ge HI0.out)) | exact HB.out)); rintro e w14 ⟨rfl, hi, hb, hk⟩; refine ⟨_, rfl, ?_⟩; replace HK := Aside0.mk (KeepBut.trans (by repeat (first | (with_reducible first | exact HK.out | apply KeepBut.set_ | apply keep_drewN | apply keep_drew | apply keep_alloc) | exact HK.out)) hk (.inl rfl)); replace HB := Aside0.mk (hb); replace HI0 := Aside0.mk (hi); (try clear hb); (try clear hb2); (try clear hk); (try clear hi)) | ((with_reducible refine gate_callee (f := 70) rfl ?_); refine goesM_ (some 22) rfl rfl Try.func70 (by kernel_rfl) rfl #[.pointer (some ⟨g, 0, none⟩)] rfl ?_; (with_reducible refine (spec_l01Byte.calls g s0_0 t638 t639 t640 t641 t642 w0 _ ?side1 ?side2 A10.out).mono ?_); (case side1 => repeat (first | (with_reducible first | exact HI0.out | apply IsS101.alloc | apply IsS101.drewN | apply IsS101.drew | apply IsS101.set_1 | apply IsS101.set_2) | exact HI0.out)); (case side2 => repeat (first | (with_reducible first | exact HB.out | apply below_alloc | apply pw_below_drewN | apply below_drew1 | refine below_set ?_ (IsS101.ge HI0.out)) | exact HB.out)); rintro e w15 ⟨rfl, hi, hb, hk⟩; refine ⟨_, rfl, ?_⟩; replace HK := Aside0.mk (KeepBut.trans (by repeat (first | (with_reducible first | exact HK.out | apply KeepBut.set_ | apply keep_drewN | apply keep_drew | apply keep_alloc) | exact HK.out)) hk (.inl rfl)); replace HB := Aside0.mk (hb); replace HI0 := Aside0.mk (hi); (try clear hb); (try clear hb2); (try clear hk); (try clear hi)) | ((with_reducible refine gate_callee (f := 70) rfl ?_); refine goesM_ (some 24) rfl rfl Try.func70 (by kernel_rfl) rfl #[.pointer (some ⟨g, 0, none⟩)] rfl ?_; (with_reducible refine (spec_l01Byte.calls g s0_0 t641 t642 t643 t644 t645 w0 _ ?side1 ?side2 A11.out).mono ?_); (case side1 => repeat (first | (with_reducible first | exact HI0.out | apply IsS101.alloc | apply IsS101.drewN | apply IsS101.drew | apply IsS101.set_1 | apply IsS101.set_2) | exact HI0.out)); (case side2 => repeat (first | (with_reducible first | exact HB.out | apply below_alloc | apply pw_below_drewN | apply below_drew1 | refine below_set ?_ (IsS101.ge HI0.out)) | exact HB.out)); rintro e w16 ⟨rfl, hi, hb, hk⟩; refine ⟨_, rfl, ?_⟩; replace HK := Aside0.mk (KeepBut.trans (by repeat (first | (with_reducible first | exact HK.out | apply KeepBut.set_ | apply keep_drewN | apply keep_drew | apply keep_alloc) | exact HK.out)) hk (.inl rfl)); replace HB := Aside0.mk (hb); replace HI0 := Aside0.mk (hi); (try clear hb); (try clear hb2); (try clear hk); (try clear hi)))
 go_ret
 exact ⟨by first | rfl | (simp [errW_none, errW_some] <;> rfl) | (simp [*, errW_none, errW_some] <;> rfl), by repeat (first | (with_reducible first | exact HI0.out | apply IsS101.alloc | apply IsS101.drewN | apply IsS101.drew | apply IsS101.set_1 | apply IsS101.set_2) | exact HI0.out), by repeat (first | (with_reducible first | exact HB.out | apply below_alloc | apply pw_below_drewN | apply below_drew1 | refine below_set ?_ (IsS101.ge HI0.out)) | exact HB.out), by repeat (first | (with_reducible first | exact HK.out | apply KeepBut.set_ | apply keep_drewN | apply keep_drew | apply keep_alloc) | exact HK.out)⟩
def spec_l01In.f (a0 : Int) (a1 : Int) (a2 : Int) : Option (Bool) := if a0 ≥ a1 then (some (decide (a0 ≤ a2))) else (some false)
set_option maxHeartbeats 8000000 in
set_option maxRecDepth 100000 in
theorem spec_l01In.calls (a0 : Int) (a1 : Int) (a2 : Int) (r : Bool) (w : World) (h : spec_l01In.f a0 a1 a2 = some r) :
  Calls Try.prog 117 #[.int .i64 a0, .int .i64 a1, .int .i64 a2] w fun e w' => e = .returned (.bool r) ∧ Drawn0 w w' := by
 have H : (if a0 ≥ a1 then (some (decide (a0 ≤ a2))) else (some false)) = some r := h
 clear h
 by_cases c4 : a0 ≥ a1
 ·rw [if_pos c4] at H
  have c4b0 : decide (a1 ≤ a0) = true := decide_eq_true c4
  clear c4
  obtain rfl := Option.some.inj H
  go_enter Try.func117, Try.ntmps117
  go_wp2
  go_ret
  exact ⟨eqA, by repeat (first | exact Drawn0.refl _ | apply Drawn0.step)⟩
 rw [if_neg c4] at H
 have c4b0 : decide (a1 ≤ a0) = false := decide_eq_false c4
 clear c4
 obtain rfl := Option.some.inj H
 go_enter Try.func117, Try.ntmps117
 go_wp2
 go_ret
 exact ⟨eqA, by repeat (first | exact Drawn0.refl _ | apply Drawn0.step)⟩
mutual
def spec_EdgesOk.j0 : Nat → Bool → Int → List (S67) → Option (Bool)
 | 0, _, _, _ => none
 | k + 1, x14, x171000, x171001 => if x14 = true then (some false) else (spec_EdgesOk.l0 k x171001 (x171001.length : Int) 0 x171000 x171001)
def spec_EdgesOk.l0 : Nat → List (S67) → Int → Int → Int → List (S67) → Option (Bool)
 | 0, _, _, _, _, _ => none
 | k + 1, x16, x17, x18, x171000, x171001 => if x18 < x17 then (if 0 ≤ x18 then (if x18 < (x16.length : Int) then ((spec_l01In.f ((rd_T67 x16 x18).f0) 0 (wrap64 (x171000 - 1))).bind fun t174 => (if t174 = true then ((spec_l01In.f ((rd_T67 x16 x18).f1) (wrap64 (((rd_T67 x16 x18).f0) + 1)) (wrap64 (x171000 - 1))).bind fun t175 => (if t175 = true then (spec_EdgesOk.l0 k x16 x17 (wrap64 (x18 + 1)) x171000 x171001) else (some false))) else (some false))) else (none)) else (none)) else (some true)
end
def spec_EdgesOk.f (k : Nat) (a0_0 : Int) (l0_1 : List (S67)) : Option (Bool) := (spec_l01In.f a0_0 1 6).bind fun t171 => (if t171 = true then (spec_EdgesOk.j0 k (decide ((l0_1.length : Int) > 12)) a0_0 l0_1) else (spec_EdgesOk.j0 k true a0_0 l0_1))
set_option maxHeartbeats 8000000 in
set_option maxRecDepth 100000 in
theorem spec_EdgesOk.calls (k : Nat) (a0_0 : Int) (A0_1 : Option Addr) (c0_1 : Nat) (l0_1 : List (S67)) (r : Bool) (w : World) (hr0_1 : Kd.C k67 w A0_1 l0_1.length l0_1) (hc0_1 : l0_1.length ≤ c0_1) (h : spec_EdgesOk.f k a0_0 l0_1 = some r) :
  Calls Try.prog 132 #[.agg #[.int .i64 a0_0, .slice A0_1 l0_1.length c0_1]] w fun e w' => e = .returned (.bool r) ∧ Below w.heap.size w w' := by
 have hu31 := Try.underlying31
 have hu67 := Try.underlying67
 have HR0_1 := Aside0.mk hr0_1
 have HC0_1 := Aside0.mk hc0_1
 clear hr0_1 hc0_1
 have HB := Aside0.mk (Below.refl w.heap.size w)
 have H : ((spec_l01In.f a0_0 1 6).bind fun t171 => (if t171 = true then (spec_EdgesOk.j0 k (decide ((l0_1.length : Int) > 12)) a0_0 l0_1) else (spec_EdgesOk.j0 k true a0_0 l0_1))) = some r := h
 clear h
 have HC2 := Aside0.mk H
 clear H
 go_enter Try.func132, Try.ntmps132
 go_upto_region 1 with (first | ((with_reducible refine gate_dst (N := 1) rfl ?_); (try (refine gate_guard (by rfl) ?_; dsimp only)); refine box_event ?hg (N := 1) ?hd (cs := #[.int .i64 a0_0, .slice A0_1 l0_1.length c0_1]) (t := 31) ?hr ?_; (case hd => rfl); (case hg => rfl); (case hr => first | (go_simp; done) | (go_simp; rfl)); intro gb170 hg w3 hbox hb; have BK170 := Aside0.mk (hbox); have GW170 := Aside0.mk ((by rw [hg]; exact (below_size (Lz HB)) : w.heap.size ≤ gb170)); have GE170 := Aside0.mk ((by rw [hg]; exact (below_size (Lz HB)) : w.heap.size ≤ gb170)); replace HB := Aside0.mk (below_step (Lz HB) hb); clear hb hbox hg))
 (try simp only [Act.put, List.setIfInBounds_toArray, List.set_cons_zero, List.set_cons_succ])
 go_cut [14] (fun v14 wc => ∃ (kq : Nat) (x14_1 : Bool), v14 = .bool x14_1 ∧ Aside0 (spec_EdgesOk.j0 kq x14_1 a0_0 l0_1 = some r) ∧ Aside0 (kq ≤ k) ∧ Aside0 (wc.heap[gb170]? = some (.cells #[.int .i64 a0_0, (.slice A0_1 l0_1.length c0_1)] 31 (0, 0))) ∧ Aside0 (Below w.heap.size w wc))
 case first =>
  have H := HC2.out
  clear HC2
  replace H := Option.bind_eq_some_iff.mp H
  obtain ⟨t171, A40, H⟩ := H
  replace H : (if t171 = true then (spec_EdgesOk.j0 k (decide ((l0_1.length : Int) > 12)) a0_0 l0_1) else (spec_EdgesOk.j0 k true a0_0 l0_1)) = some r := H
  have A4 := Aside0.mk A40
  clear A40
  by_cases c5 : t171 = true
  ·subst c5
   have H1 : (spec_EdgesOk.j0 k (decide ((l0_1.length : Int) > 12)) a0_0 l0_1) = some r := by rw [if_pos rfl] at H; exact H
   clear H
   have H := H1
   clear H1
   have H' := Aside0.mk H
   clear H
   have hcz6_0 : w3.cell? ⟨gb170, 0, none⟩ = some (.int .i64 a0_0) := (blk_cell BK170.out 0).trans rfl
   have hcz6_1 : w3.cell? ⟨gb170, 1, none⟩ = some (.slice A0_1 l0_1.length c0_1) := (blk_cell BK170.out 1).trans rfl
   have hfz6_0 := blk_frozen BK170.out 0
   have hfz6_1 := blk_frozen BK170.out 1
   go_wp2_with (first | ((with_reducible refine gate_callee (f := 117) rfl ?_); refine goesM_ (some 7) rfl rfl Try.func117 (by kernel_rfl) rfl #[.int .i64 a0_0, .int .i64 1, .int .i64 6] rfl ?_; (with_reducible refine (spec_l01In.calls a0_0 1 6 true _ A4.out).mono ?_); rintro e w' ⟨rfl, ⟨nd, rfl⟩⟩; refine ⟨_, rfl, ?_⟩))
   go_meet
   case rel => exact ⟨_, (decide ((l0_1.length : Int) > 12)), eqA, H', ⟨by first | omega | exact Nat.le_refl _⟩, ⟨by exact Bz BK170⟩, ⟨by exact Lz1 HB GE170⟩⟩
  replace c5 := Bool.eq_false_iff.mpr c5
  subst c5
  have H1 : (spec_EdgesOk.j0 k true a0_0 l0_1) = some r := by rw [if_neg (show ¬ (false = true) by decide)] at H; exact H
  clear H
  have H := H1
  clear H1
  have H' := Aside0.mk H
  clear H
  have hcz7_0 : w3.cell? ⟨gb170, 0, none⟩ = some (.int .i64 a0_0) := (blk_cell BK170.out 0).trans rfl
  have hcz7_1 : w3.cell? ⟨gb170, 1, none⟩ = some (.slice A0_1 l0_1.length c0_1) := (blk_cell BK170.out 1).trans rfl
  have hfz7_0 := blk_frozen BK170.out 0
  have hfz7_1 := blk_frozen BK170.out 1
  go_wp2_with (first | ((with_reducible refine gate_callee (f := 117) rfl ?_); refine goesM_ (some 7) rfl rfl Try.func117 (by kernel_rfl) rfl #[.int .i64 a0_0, .int .i64 1, .int .i64 6] rfl ?_; (with_reducible refine (spec_l01In.calls a0_0 1 6 false _ A4.out).mono ?_); rintro e w' ⟨rfl, ⟨nd, rfl⟩⟩; refine ⟨_, rfl, ?_⟩))
  go_meet
  case rel => exact ⟨_, (true), eqA, H', ⟨by first | omega | exact Nat.le_refl _⟩, ⟨by exact Bz BK170⟩, ⟨by exact Lz1 HB GE170⟩⟩
 case rest =>
  clear HC2
  try clear c5
  obtain ⟨kq, x14_1, rfl, HA, HJ1, BK170, HB⟩ := hcut
  cases kq with
  | zero => exact absurd HA.out (by simp [spec_EdgesOk.j0])
  | succ kj1 =>
   have H := HA.out
   clear HA
   simp only [spec_EdgesOk.j0] at H
   by_cases c8 : x14_1 = true
   ·subst c8
    have H1 : (some false) = some r := by rw [if_pos rfl] at H; exact H
    clear H
    have H := H1
    clear H1
    obtain rfl := Option.some.inj H
    go_wp2
    go_ret
    exact ⟨by first | rfl | (simp [errW_none, errW_some] <;> rfl) | (simp [*, errW_none, errW_some] <;> rfl), by exact Lz1 HB GE170⟩
   replace c8 := Bool.eq_false_iff.mpr c8
   subst c8
   have H1 : (spec_EdgesOk.l0 kj1 l0_1 (l0_1.length : Int) 0 a0_0 l0_1) = some r := by rw [if_neg (show ¬ (false = true) by decide)] at H; exact H
   clear H
   have H := H1
   clear H1
   have H' := Aside0.mk H
   clear H
   have hcz9_0 : wc.cell? ⟨gb170, 0, none⟩ = some (.int .i64 a0_0) := (blk_cell BK170.out 0).trans rfl
   have hcz9_1 : wc.cell? ⟨gb170, 1, none⟩ = some (.slice A0_1 l0_1.length c0_1) := (blk_cell BK170.out 1).trans rfl
   have hfz9_0 := blk_frozen BK170.out 0
   have hfz9_1 := blk_frozen BK170.out 1
   go_wp2
   go_loopg [18] kj1 (fun kq v18 w' => ∃ (x18_2 : Int), v18 = .int .i64 x18_2 ∧ Aside0 (spec_EdgesOk.l0 kq l0_1 (l0_1.length : Int) x18_2 a0_0 l0_1 = some r) ∧ Aside0 (kq ≤ kj1) ∧ Aside0 (w'.heap[gb170]? = some (.cells #[.int .i64 a0_0, (.slice A0_1 l0_1.length c0_1)] 31 (0, 0))) ∧ Aside0 (Below w.heap.size w w'))
   case atStart => exact ⟨(0), eqA, H', ⟨Nat.le_refl _⟩, ⟨by exact Bz BK170⟩, ⟨by exact Lz1 HB GE170⟩⟩
   case round =>
    clear H'
    try clear c5
    try clear c8
    obtain ⟨x18_2, rfl, HA, HK2, BK170, HB⟩ := hrel
    cases gk with
    | zero => exact absurd HA.out (by simp [spec_EdgesOk.l0])
    | succ k2 =>
     have H := HA.out
     clear HA
     simp only [spec_EdgesOk.l0] at H
     by_cases c10 : x18_2 < (l0_1.length : Int)
     ·rw [if_pos c10] at H
      have c10b0 : decide (x18_2 < (l0_1.length : Int)) = true := decide_eq_true c10
      clear c10
      by_cases c11 : 0 ≤ x18_2
      ·rw [if_pos c11] at H
       have c11b0 : decide (0 ≤ x18_2) = true := decide_eq_true c11
       clear c11
       by_cases c12 : x18_2 < (l0_1.length : Int)
       ·rw [if_pos c12] at H
        have c12b0 : decide (x18_2 < (l0_1.length : Int)) = true := decide_eq_true c12
        clear c12
        replace H := Option.bind_eq_some_iff.mp H
        obtain ⟨t174, A130, H⟩ := H
        replace H : (if t174 = true then ((spec_l01In.f ((rd_T67 l0_1 x18_2).f1) (wrap64 (((rd_T67 l0_1 x18_2).f0) + 1)) (wrap64 (a0_0 - 1))).bind fun t175 => (if t175 = true then (spec_EdgesOk.l0 k2 l0_1 (l0_1.length : Int) (wrap64 (x18_2 + 1)) a0_0 l0_1) else (some false))) else (some false)) = some r := H
        have A13 := Aside0.mk A130
        clear A130
        by_cases c14 : t174 = true
        ·subst c14
         have H1 : ((spec_l01In.f ((rd_T67 l0_1 x18_2).f1) (wrap64 (((rd_T67 l0_1 x18_2).f0) + 1)) (wrap64 (a0_0 - 1))).bind fun t175 => (if t175 = true then (spec_EdgesOk.l0 k2 l0_1 (l0_1.length : Int) (wrap64 (x18_2 + 1)) a0_0 l0_1) else (some false))) = some r := by rw [if_pos rfl] at H; exact H
         clear H
         have H := H1
         clear H1
         replace H := Option.bind_eq_some_iff.mp H
         obtain ⟨t175, A150, H⟩ := H
         replace H : (if t175 = true then (spec_EdgesOk.l0 k2 l0_1 (l0_1.length : Int) (wrap64 (x18_2 + 1)) a0_0 l0_1) else (some false)) = some r := H
         have A15 := Aside0.mk A150
         clear A150
         by_cases c16 : t175 = true
         ·subst c16
          have H1 : (spec_EdgesOk.l0 k2 l0_1 (l0_1.length : Int) (wrap64 (x18_2 + 1)) a0_0 l0_1) = some r := by rw [if_pos rfl] at H; exact H
          clear H
          have H := H1
          clear H1
          have H' := Aside0.mk H
          clear H
          have p172 : 0 ≤ (x18_2 : Int) := ofA
          have q172 : x18_2 < (l0_1.length : Int) := ofA
          obtain ⟨ad172, e172, hx172_0, hx172_1⟩ := at_T67 HR0_1.out x18_2 p172 q172
          cases e172
          replace hx172_0 := (HB.out.cell (World.block_lt_of_cell? w _ hx172_0)).trans hx172_0
          replace hx172_1 := (HB.out.cell (World.block_lt_of_cell? w _ hx172_1)).trans hx172_1
          replace p172 := eq_true p172
          replace q172 := eq_true q172
          go_wp2_with (first | ((with_reducible refine gate_dst (N := 4) rfl ?_); (try (refine gate_guard (by rfl) ?_; dsimp only)); refine box_event ?hg (N := 4) ?hd (cs := #[.int .i64 0, .int .i64 0]) (t := 67) ?hr ?_; (case hd => rfl); (case hg => rfl); (case hr => first | (go_simp; done) | (go_simp; rfl)); intro gb173 hg w17 hbox hb; have BK173 := Aside0.mk (hbox); have GW173 := Aside0.mk ((by rw [hg]; exact (below_size (by exact Lz1 HB GE170)) : w.heap.size ≤ gb173)); have GE173 := Aside0.mk ((by rw [hg]; exact (below_size (by exact Lz1 HB GE170)) : w.heap.size ≤ gb173)); replace HB := Aside0.mk (below_step (by exact Lz1 HB GE170) hb); have NB170_173 := Aside0.mk ((by rw [hg]; exact Nat.ne_of_lt (blk_lt (g := gb170) (o := .cells #[.int .i64 a0_0, .slice (some ad172) l0_1.length c0_1] 31 (0, 0)) (Bz BK170)) : gb170 ≠ gb173)); have NB173_170 := Aside0.mk ((by rw [hg]; exact Nat.ne_of_gt (blk_lt (g := gb170) (o := .cells #[.int .i64 a0_0, .slice (some ad172) l0_1.length c0_1] 31 (0, 0)) (Bz BK170)) : gb173 ≠ gb170)); replace BK170 := Aside0.mk (blk_below (g := gb170) (o := .cells #[.int .i64 a0_0, .slice (some ad172) l0_1.length c0_1] 31 (0, 0)) (Bz BK170) hb); clear hb hbox hg; have hnb18 := NB173_170.out; have hnc18 := NB170_173.out; have hcz19_0 : w17.cell? ⟨gb173, 0, none⟩ = some (.int .i64 0) := (blk_cell BK173.out 0).trans rfl; have hcz19_1 : w17.cell? ⟨gb173, 1, none⟩ = some (.int .i64 0) := (blk_cell BK173.out 1).trans rfl; have hfz19_0 := blk_frozen BK173.out 0; have hfz19_1 := blk_frozen BK173.out 1; have hcz20_0 : w17.cell? ⟨gb170, 0, none⟩ = some (.int .i64 a0_0) := (blk_cell BK170.out 0).trans rfl; have hcz20_1 : w17.cell? ⟨gb170, 1, none⟩ = some (.slice (some ad172) l0_1.length c0_1) := (blk_cell BK170.out 1).trans rfl; have hfz20_0 := blk_frozen BK170.out 0; have hfz20_1 := blk_frozen BK170.out 1) | ((with_reducible refine gate_callee (f := 117) rfl ?_); refine goesM_ (some 27) rfl rfl Try.func117 (by kernel_rfl) rfl #[.int .i64 ((rd_T67 l0_1 x18_2).f0), .int .i64 0, .int .i64 (wrap64 (a0_0 - 1))] rfl ?_; (with_reducible refine (spec_l01In.calls ((rd_T67 l0_1 x18_2).f0) 0 (wrap64 (a0_0 - 1)) true _ A13.out).mono ?_); rintro e w' ⟨rfl, ⟨nd, rfl⟩⟩; refine ⟨_, rfl, ?_⟩) | (go_at_call 117; (with_reducible refine (spec_l01In.calls ((rd_T67 l0_1 x18_2).f1) (wrap64 (((rd_T67 l0_1 x18_2).f0) + 1)) (wrap64 (a0_0 - 1)) true _ A15.out).mono ?_); rintro e w' ⟨rfl, ⟨nd, rfl⟩⟩))
          go_roundg k2
          case measure => have := HJ1.out; have := HK2.out; omega
          case rel => exact ⟨(wrap64 (x18_2 + 1)), eqA, H', ⟨by have := HJ1.out; have := HK2.out; omega⟩, ⟨by (with_reducible repeat (first | refine blk_drewN ?_ _ | refine blk_drew ?_ | refine blk_alloc ?_ _)); refine blk_far ?_ NB170_173.out _; (with_reducible repeat (first | refine blk_drewN ?_ _ | refine blk_drew ?_ | refine blk_alloc ?_ _)); refine blk_far ?_ NB170_173.out _; exact Bz BK170⟩, ⟨by exact Lz2 HB GE170 GE173⟩⟩
         replace c16 := Bool.eq_false_iff.mpr c16
         subst c16
         have H1 : (some false) = some r := by rw [if_neg (show ¬ (false = true) by decide)] at H; exact H
         clear H
         have H := H1
         clear H1
         obtain rfl := Option.some.inj H
         have p172 : 0 ≤ (x18_2 : Int) := ofA
         have q172 : x18_2 < (l0_1.length : Int) := ofA
         obtain ⟨ad172, e172, hx172_0, hx172_1⟩ := at_T67 HR0_1.out x18_2 p172 q172
         cases e172
         replace hx172_0 := (HB.out.cell (World.block_lt_of_cell? w _ hx172_0)).trans hx172_0
         replace hx172_1 := (HB.out.cell (World.block_lt_of_cell? w _ hx172_1)).trans hx172_1
         replace p172 := eq_true p172
         replace q172 := eq_true q172
         go_wp2_with (first | ((with_reducible refine gate_dst (N := 4) rfl ?_); (try (refine gate_guard (by rfl) ?_; dsimp only)); refine box_event ?hg (N := 4) ?hd (cs := #[.int .i64 0, .int .i64 0]) (t := 67) ?hr ?_; (case hd => rfl); (case hg => rfl); (case hr => first | (go_simp; done) | (go_simp; rfl)); intro gb173 hg w21 hbox hb; have BK173 := Aside0.mk (hbox); have GW173 := Aside0.mk ((by rw [hg]; exact (below_size (by exact Lz1 HB GE170)) : w.heap.size ≤ gb173)); have GE173 := Aside0.mk ((by rw [hg]; exact (below_size (by exact Lz1 HB GE170)) : w.heap.size ≤ gb173)); replace HB := Aside0.mk (below_step (by exact Lz1 HB GE170) hb); have NB170_173 := Aside0.mk ((by rw [hg]; exact Nat.ne_of_lt (blk_lt (g := gb170) (o := .cells #[.int .i64 a0_0, .slice (some ad172) l0_1.length c0_1] 31 (0, 0)) (Bz BK170)) : gb170 ≠ gb173)); have NB173_170 := Aside0.mk ((by rw [hg]; exact Nat.ne_of_gt (blk_lt (g := gb170) (o := .cells #[.int .i64 a0_0, .slice (some ad172) l0_1.length c0_1] 31 (0, 0)) (Bz BK170)) : gb173 ≠ gb170)); replace BK170 := Aside0.mk (blk_below (g := gb170) (o := .cells #[.int .i64 a0_0, .slice (some ad172) l0_1.length c0_1] 31 (0, 0)) (Bz BK170) hb); clear hb hbox hg; have hnb22 := NB173_170.out; have hnc22 := NB170_173.out; have hcz23_0 : w21.cell? ⟨gb173, 0, none⟩ = some (.int .i64 0) := (blk_cell BK173.out 0).trans rfl; have hcz23_1 : w21.cell? ⟨gb173, 1, none⟩ = some (.int .i64 0) := (blk_cell BK173.out 1).trans rfl; have hfz23_0 := blk_frozen BK173.out 0; have hfz23_1 := blk_frozen BK173.out 1; have hcz24_0 : w21.cell? ⟨gb170, 0, none⟩ = some (.int .i64 a0_0) := (blk_cell BK170.out 0).trans rfl; have hcz24_1 : w21.cell? ⟨gb170, 1, none⟩ = some (.slice (some ad172) l0_1.length c0_1) := (blk_cell BK170.out 1).trans rfl; have hfz24_0 := blk_frozen BK170.out 0; have hfz24_1 := blk_frozen BK170.out 1) | ((with_reducible refine gate_callee (f := 117) rfl ?_); refine goesM_ (some 27) rfl rfl Try.func117 (by kernel_rfl) rfl #[.int .i64 ((rd_T67 l0_1 x18_2).f0), .int .i64 0, .int .i64 (wrap64 (a0_0 - 1))] rfl ?_; (with_reducible refine (spec_l01In.calls ((rd_T67 l0_1 x18_2).f0) 0 (wrap64 (a0_0 - 1)) true _ A13.out).mono ?_); rintro e w' ⟨rfl, ⟨nd, rfl⟩⟩; refine ⟨_, rfl, ?_⟩) | (go_at_call 117; (with_reducible refine (spec_l01In.calls ((rd_T67 l0_1 x18_2).f1) (wrap64 (((rd_T67 l0_1 x18_2).f0) + 1)) (wrap64 (a0_0 - 1)) false _ A15.out).mono ?_); rintro e w' ⟨rfl, ⟨nd, rfl⟩⟩))
         go_ret
         exact ⟨by first | rfl | (simp [errW_none, errW_some] <;> rfl) | (simp [*, errW_none, errW_some] <;> rfl), by exact Lz2 HB GE170 GE173⟩
        replace c14 := Bool.eq_false_iff.mpr c14
        subst c14
        have H1 : (some false) = some r := by rw [if_neg (show ¬ (false = true) by decide)] at H; exact H
        clear H
        have H := H1
        clear H1
        obtain rfl := Option.some.inj H
        have p172 : 0 ≤ (x18_2 : Int) := ofA
        have q172 : x18_2 < (l0_1.length : Int) := ofA
        obtain ⟨ad172, e172, hx172_0, hx172_1⟩ := at_T67 HR0_1.out x18_2 p172 q172
        cases e172
        replace hx172_0 := (HB.out.cell (World.block_lt_of_cell? w _ hx172_0)).trans hx172_0
        replace hx172_1 := (HB.out.cell (World.block_lt_of_cell? w _ hx172_1)).trans hx172_1
        replace p172 := eq_true p172
        replace q172 := eq_true q172
        go_wp2_with (first | ((with_reducible refine gate_dst (N := 4) rfl ?_); (try (refine gate_guard (by rfl) ?_; dsimp only)); refine box_event ?hg (N := 4) ?hd (cs := #[.int .i64 0, .int .i64 0]) (t := 67) ?hr ?_; (case hd => rfl); (case hg => rfl); (case hr => first | (go_simp; done) | (go_simp; rfl)); intro gb173 hg w25 hbox hb; have BK173 := Aside0.mk (hbox); have GW173 := Aside0.mk ((by rw [hg]; exact (below_size (by exact Lz1 HB GE170)) : w.heap.size ≤ gb173)); have GE173 := Aside0.mk ((by rw [hg]; exact (below_size (by exact Lz1 HB GE170)) : w.heap.size ≤ gb173)); replace HB := Aside0.mk (below_step (by exact Lz1 HB GE170) hb); have NB170_173 := Aside0.mk ((by rw [hg]; exact Nat.ne_of_lt (blk_lt (g := gb170) (o := .cells #[.int .i64 a0_0, .slice (some ad172) l0_1.length c0_1] 31 (0, 0)) (Bz BK170)) : gb170 ≠ gb173)); have NB173_170 := Aside0.mk ((by rw [hg]; exact Nat.ne_of_gt (blk_lt (g := gb170) (o := .cells #[.int .i64 a0_0, .slice (some ad172) l0_1.length c0_1] 31 (0, 0)) (Bz BK170)) : gb173 ≠ gb170)); replace BK170 := Aside0.mk (blk_below (g := gb170) (o := .cells #[.int .i64 a0_0, .slice (some ad172) l0_1.length c0_1] 31 (0, 0)) (Bz BK170) hb); clear hb hbox hg; have hnb26 := NB173_170.out; have hnc26 := NB170_173.out; have hcz27_0 : w25.cell? ⟨gb173, 0, none⟩ = some (.int .i64 0) := (blk_cell BK173.out 0).trans rfl; have hcz27_1 : w25.cell? ⟨gb173, 1, none⟩ = some (.int .i64 0) := (blk_cell BK173.out 1).trans rfl; have hfz27_0 := blk_frozen BK173.out 0; have hfz27_1 := blk_frozen BK173.out 1; have hcz28_0 : w25.cell? ⟨gb170, 0, none⟩ = some (.int .i64 a0_0) := (blk_cell BK170.out 0).trans rfl; have hcz28_1 : w25.cell? ⟨gb170, 1, none⟩ = some (.slice (some ad172) l0_1.length c0_1) := (blk_cell BK170.out 1).trans rfl; have hfz28_0 := blk_frozen BK170.out 0; have hfz28_1 := blk_frozen BK170.out 1) | ((with_reducible refine gate_callee (f := 117) rfl ?_); refine goesM_ (some 27) rfl rfl Try.func117 (by kernel_rfl) rfl #[.int .i64 ((rd_T67 l0_1 x18_2).f0), .int .i64 0, .int .i64 (wrap64 (a0_0 - 1))] rfl ?_; (with_reducible refine (spec_l01In.calls ((rd_T67 l0_1 x18_2).f0) 0 (wrap64 (a0_0 - 1)) false _ A13.out).mono ?_); rintro e w' ⟨rfl, ⟨nd, rfl⟩⟩; refine ⟨_, rfl, ?_⟩))
        go_ret
        exact ⟨by first | rfl | (simp [errW_none, errW_some] <;> rfl) | (simp [*, errW_none, errW_some] <;> rfl), by exact Lz2 HB GE170 GE173⟩
       rw [if_neg c12] at H
       exact absurd H (by simp)
      rw [if_neg c11] at H
      exact absurd H (by simp)
     rw [if_neg c10] at H
     have c10b0 : decide (x18_2 < (l0_1.length : Int)) = false := decide_eq_false c10
     clear c10
     obtain rfl := Option.some.inj H
     go_wp2
     go_ret
     exact ⟨by first | rfl | (simp [errW_none, errW_some] <;> rfl) | (simp [*, errW_none, errW_some] <;> rfl), by exact Lz1 HB GE170⟩
end Go.Proofs.Ytbcfccdoffbncaa.P
end
