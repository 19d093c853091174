/- Functions of the program as plain Lean functions and that the machine's calls answer as they do, the words of the print that these use, lemmas and plain proofs of laws. Put together by a program of this work that leaves out what nothing uses; Lean checks it. -/
import Derived.Test.YtbcfccdoffbncaaG761cdaac89
import Derived.Test.YtbcfccdoffbncaaG69d53c0c60
section
namespace Go.Proofs.Ytbcfccdoffbncaa.P
open Go.RowKit Go.Proofs.YtbcfccdoffbncaaW.PrintWords Go.Proofs.YtbcfccdoffbncaaW.PrintLast Go.Proofs.YtbcfccdoffbncaaW.PrintMore
attribute [local go_sem] max2_int min2_int max_two min_two max_three min_three max_four min_four
set_option linter.unusedVariables false
set_option linter.unusedSimpArgs false
def spec_l02Has.l0 : Nat → Int → List Int → Int → Int → Option (Bool)
 | 0, _, _, _, _ => none
 | k + 1, x1, x7, x8, x9 => if x9 < x8 then (if 0 ≤ x9 then (if x9 < (x7.length : Int) then (if (rd x7 x9) = x1 then (some true) else (spec_l02Has.l0 k x1 x7 x8 (wrap64 (x9 + 1)))) else (none)) else (none)) else (some false)
def spec_l02Has.f (k : Nat) (l0 : List Int) (a1 : Int) : Option (Bool) := spec_l02Has.l0 k a1 l0 (l0.length : Int) 0
set_option maxHeartbeats 8000000 in
set_option maxRecDepth 100000 in
theorem spec_l02Has.calls (k : Nat) (A0 : Option Addr) (c0 : Nat) (l0 : List Int) (a1 : Int) (r : Bool) (w : World) (hr0 : Kd.C (Kd.int .i64) w A0 l0.length l0) (hc0 : l0.length ≤ c0) (h : spec_l02Has.f k l0 a1 = some r) :
  Calls Try.prog 98 #[.slice A0 l0.length c0, .int .i64 a1] w fun e w' => e = .returned (.bool r) ∧ Drawn0 w w' := by
 have HR0 := Aside0.mk hr0
 have HC0 := Aside0.mk hc0
 clear hr0 hc0
 have H : (spec_l02Has.l0 k a1 l0 (l0.length : Int) 0) = some r := h
 clear h
 have H' := Aside0.mk H
 clear H
 go_enter Try.func98, Try.ntmps98
 go_wp2
 go_loopg [9] k (fun kq v9 w' => ∃ (x9_1 : Int), v9 = .int .i64 x9_1 ∧ Aside0 (spec_l02Has.l0 kq a1 l0 (l0.length : Int) x9_1 = some r) ∧ Aside0 (kq ≤ k) ∧ Drawn0 w w')
 case atStart => exact ⟨(0), eqA, H', ⟨Nat.le_refl _⟩, by repeat (first | exact Drawn0.refl _ | apply Drawn0.step)⟩
 case round =>
  clear H'
  obtain ⟨x9_1, rfl, HA, HK1, ⟨m1, rfl⟩⟩ := hrel
  cases gk with
  | zero => exact absurd HA.out (by simp [spec_l02Has.l0])
  | succ k1 =>
   have H := HA.out
   clear HA
   simp only [spec_l02Has.l0] at H
   by_cases c3 : x9_1 < (l0.length : Int)
   ·rw [if_pos c3] at H
    have c3b0 : decide (x9_1 < (l0.length : Int)) = true := decide_eq_true c3
    clear c3
    by_cases c4 : 0 ≤ x9_1
    ·rw [if_pos c4] at H
     have c4b0 : decide (0 ≤ x9_1) = true := decide_eq_true c4
     clear c4
     by_cases c5 : x9_1 < (l0.length : Int)
     ·rw [if_pos c5] at H
      have c5b0 : decide (x9_1 < (l0.length : Int)) = true := decide_eq_true c5
      clear c5
      by_cases c6 : (rd l0 x9_1) = a1
      ·rw [if_pos c6] at H
       have c6b0 : ((rd l0 x9_1) == a1) = true := beq_iff_eq.mpr c6
       have c6b1 : ((rd l0 x9_1) != a1) = false := bne_eq_false_iff_eq.mpr c6
       clear c6
       obtain rfl := Option.some.inj H
       have p143 : 0 ≤ (x9_1 : Int) := ofA
       have q143 : x9_1 < (l0.length : Int) := ofA
       obtain ⟨ad143, e143, hx143_0⟩ := Kd.at_int HR0.out x9_1 p143 q143
       cases e143
       replace p143 := eq_true p143
       replace q143 := eq_true q143
       go_wp2
       go_ret
       exact ⟨eqA, by repeat (first | exact Drawn0.refl _ | apply Drawn0.step)⟩
      rw [if_neg c6] at H
      have c6b0 : ((rd l0 x9_1) == a1) = false := beq_eq_false_iff_ne.mpr c6
      have c6b1 : ((rd l0 x9_1) != a1) = true := bne_iff_ne.mpr c6
      have H' := Aside0.mk H
      clear H
      have p143 : 0 ≤ (x9_1 : Int) := ofA
      have q143 : x9_1 < (l0.length : Int) := ofA
      obtain ⟨ad143, e143, hx143_0⟩ := Kd.at_int HR0.out x9_1 p143 q143
      cases e143
      replace p143 := eq_true p143
      replace q143 := eq_true q143
      go_wp2
      go_roundg k1
      case measure => have := HK1.out; omega
      case rel => exact ⟨(wrap64 (x9_1 + 1)), eqA, H', ⟨by have := HK1.out; omega⟩, by repeat (first | exact Drawn0.refl _ | apply Drawn0.step)⟩
     rw [if_neg c5] at H
     exact absurd H (by simp)
    rw [if_neg c4] at H
    exact absurd H (by simp)
   rw [if_neg c3] at H
   have c3b0 : decide (x9_1 < (l0.length : Int)) = false := decide_eq_false c3
   clear c3
   obtain rfl := Option.some.inj H
   go_wp2
   go_ret
   exact ⟨eqA, by repeat (first | exact Drawn0.refl _ | apply Drawn0.step)⟩
mutual
def spec_l02Reach.l0 : Nat → List Int → Int → Int → List (S67) → Option (List Int)
 | 0, _, _, _, _ => none
 | k + 1, x3, x4, x177000, x177001 => if x4 < (x3.length : Int) then (spec_l02Reach.l1 k x3 x4 x177001 (x177001.length : Int) 0 x177000 x177001) else (some x3)
def spec_l02Reach.l1 : Nat → List Int → Int → List (S67) → Int → Int → Int → List (S67) → Option (List Int)
 | 0, _, _, _, _, _, _, _ => none
 | k + 1, x3, x4, x15, x16, x17, x177000, x177001 => if x17 < x16 then (if 0 ≤ x17 then (if x17 < (x15.length : Int) then (if 0 ≤ x4 then (if x4 < (x3.length : Int) then (if ((rd_T67 x15 x17).f0) = (rd x3 x4) then ((spec_l02Has.f k x3 ((rd_T67 x15 x17).f1)).bind fun t183 => (spec_l02Reach.j2 k x3 x4 x15 x16 x17 (!t183) x177000 x177001 ((rd_T67 x15 x17).f0) ((rd_T67 x15 x17).f1))) else (spec_l02Reach.j2 k x3 x4 x15 x16 x17 false x177000 x177001 ((rd_T67 x15 x17).f0) ((rd_T67 x15 x17).f1))) else (none)) else (none)) else (none)) else (none)) else (spec_l02Reach.l0 k x3 (wrap64 (x4 + 1)) x177000 x177001)
def spec_l02Reach.j2 : Nat → List Int → Int → List (S67) → Int → Int → Bool → Int → List (S67) → Int → Int → Option (List Int)
 | 0, _, _, _, _, _, _, _, _, _, _ => none
 | k + 1, x3, x4, x15, x16, x17, x34, x177000, x177001, x182000, x182001 => if x34 = true then (if x3.length < 17592186044416 then (spec_l02Reach.j3 k (x3 ++ [x182001]) x4 x15 x16 x17 x177000 x177001 x182000 x182001) else (none)) else (spec_l02Reach.j3 k x3 x4 x15 x16 x17 x177000 x177001 x182000 x182001)
def spec_l02Reach.j3 : Nat → List Int → Int → List (S67) → Int → Int → Int → List (S67) → Int → Int → Option (List Int)
 | 0, _, _, _, _, _, _, _, _, _ => none
 | k + 1, x3, x4, x15, x16, x17, x177000, x177001, x182000, x182001 => if 0 ≤ x4 then (if x4 < (x3.length : Int) then (if x182001 = (rd x3 x4) then ((spec_l02Has.f k x3 x182000).bind fun t188 => (if t188 = true then (spec_l02Reach.l1 k x3 x4 x15 x16 (wrap64 (x17 + 1)) x177000 x177001) else (if x3.length < 17592186044416 then (spec_l02Reach.l1 k (x3 ++ [x182000]) x4 x15 x16 (wrap64 (x17 + 1)) x177000 x177001) else (none)))) else (spec_l02Reach.l1 k x3 x4 x15 x16 (wrap64 (x17 + 1)) x177000 x177001)) else (none)) else (none)
end
def spec_l02Reach.f (k : Nat) (a0_0 : Int) (l0_1 : List (S67)) : Option (List Int) := spec_l02Reach.l0 k (([0] : List Int)) 0 a0_0 l0_1
set_option maxHeartbeats 8000000 in
set_option maxRecDepth 100000 in
theorem spec_l02Reach.calls (k : Nat) (a0_0 : Int) (A0_1 : Option Addr) (c0_1 : Nat) (l0_1 : List (S67)) (r : List Int) (w : World) (hr0_1 : Kd.C k67 w A0_1 l0_1.length l0_1) (hc0_1 : l0_1.length ≤ c0_1) (h : spec_l02Reach.f k a0_0 l0_1 = some r) :
  Calls Try.prog 133 #[.agg #[.int .i64 a0_0, .slice A0_1 l0_1.length c0_1]] w fun e w' => ∃ v0_ : Value, e = .returned (v0_) ∧ Kd.R (Kd.int .i64) 3 w' w.heap.size (fun _ => True) v0_ r ∧ Below w.heap.size w w' := by
 have hu31 := Try.underlying31
 have hu67 := Try.underlying67
 have HR0_1 := Aside0.mk hr0_1
 have HC0_1 := Aside0.mk hc0_1
 clear hr0_1 hc0_1
 have HB := Aside0.mk (Below.refl w.heap.size w)
 have H : (spec_l02Reach.l0 k (([0] : List Int)) 0 a0_0 l0_1) = some r := h
 clear h
 obtain ⟨y177, hy177⟩ : ∃ y_ : List Int, y_ = (([0] : List Int)) := ⟨_, rfl⟩
 replace H : (spec_l02Reach.l0 k y177 0 a0_0 l0_1) = some r := by first | (rw [hy177]; with_reducible exact H) | (have H2_ := (Option.bind_some _ _).symm.trans H; rw [hy177]; with_reducible exact H2_) | (have H2_ := (Option.bind_some _ _).symm.trans H; with_reducible exact H2_) | with_reducible exact H | (rw [hy177]; exact H) | exact H
 have Ny177 := Aside0.mk hy177
 clear hy177
 have H' := Aside0.mk H
 clear H
 go_enter Try.func133, Try.ntmps133
 go_wp2_with (first | ((with_reducible refine gate_dst (N := 1) rfl ?_); refine box_event ?hg (N := 1) ?hd (cs := #[.int .i64 a0_0, .slice A0_1 l0_1.length c0_1]) (t := 31) ?hr ?_; (case hd => rfl); (case hg => rfl); (case hr => first | (go_simp; done) | (go_simp; rfl)); intro gb176 hg w2 hbox hb; have BK176 := Aside0.mk (hbox); have GW176 := Aside0.mk ((by rw [hg]; exact (below_size (Lz HB)) : w.heap.size ≤ gb176)); have GE176 := Aside0.mk ((by rw [hg]; exact (below_size (Lz HB)) : w.heap.size ≤ gb176)); replace HB := Aside0.mk (below_step (Lz HB) hb); clear hb hbox hg) | ((with_reducible refine gate_dst (N := 7) rfl ?_); refine Kd.R_lit (Kd.int .i64) _ 3 ?hg (N := 7) ?hd (xs := ([0] : List Int)) (inner := [.int .i64 0]) (ok := fun _ => True) (okp := fun _ => True) ?hr ?hp (fun _ hk => hk) trivial (Below.refl _ _) (Nat.le_refl _) (by simp) ?_; (case hd => rfl); (case hg => rfl); (case hr => first | (go_simp; done) | (go_simp; rfl)); (case hp => exact (Reps.one (show Kd.M (Kd.int .i64) _ _ _ 0 [.int .i64 0] from rfl) (Reps.none _ _))); intro v178 w3 ho4 hb hg_ hnew_; clear hg_ hnew_; (first | rw [← Ny177.out] at ho4 | (simp only [Int.reduceToNat] at ho4; rw [← Ny177.out] at ho4)); have HO179 := Aside0.mk (Kd.R_lower ho4 (below_size (by exact Lz1 HB GE176))); replace BK176 := Aside0.mk (blk_below (g := gb176) (o := .cells #[.int .i64 a0_0, .slice A0_1 l0_1.length c0_1] 31 (0, 0)) (Bz BK176) hb); replace HB := Aside0.mk (below_step (by exact Lz1 HB GE176) hb); clear hb ho4))
 repeat (go_quiet (first | ((with_reducible refine gate_dst (N := 1) rfl ?_); refine box_event ?hg (N := 1) ?hd (cs := #[.int .i64 a0_0, .slice A0_1 l0_1.length c0_1]) (t := 31) ?hr ?_; (case hd => rfl); (case hg => rfl); (case hr => first | (go_simp; done) | (go_simp; rfl)); intro gb176 hg w2 hbox hb; have BK176 := Aside0.mk (hbox); have GW176 := Aside0.mk ((by rw [hg]; exact (below_size (Lz HB)) : w.heap.size ≤ gb176)); have GE176 := Aside0.mk ((by rw [hg]; exact (below_size (Lz HB)) : w.heap.size ≤ gb176)); replace HB := Aside0.mk (below_step (Lz HB) hb); clear hb hbox hg) | ((with_reducible refine gate_dst (N := 7) rfl ?_); refine Kd.R_lit (Kd.int .i64) _ 3 ?hg (N := 7) ?hd (xs := ([0] : List Int)) (inner := [.int .i64 0]) (ok := fun _ => True) (okp := fun _ => True) ?hr ?hp (fun _ hk => hk) trivial (Below.refl _ _) (Nat.le_refl _) (by simp) ?_; (case hd => rfl); (case hg => rfl); (case hr => first | (go_simp; done) | (go_simp; rfl)); (case hp => exact (Reps.one (show Kd.M (Kd.int .i64) _ _ _ 0 [.int .i64 0] from rfl) (Reps.none _ _))); intro v178 w3 ho4 hb hg_ hnew_; clear hg_ hnew_; (first | rw [← Ny177.out] at ho4 | (simp only [Int.reduceToNat] at ho4; rw [← Ny177.out] at ho4)); have HO179 := Aside0.mk (Kd.R_lower ho4 (below_size (by exact Lz1 HB GE176))); replace BK176 := Aside0.mk (blk_below (g := gb176) (o := .cells #[.int .i64 a0_0, .slice A0_1 l0_1.length c0_1] 31 (0, 0)) (Bz BK176) hb); replace HB := Aside0.mk (below_step (by exact Lz1 HB GE176) hb); clear hb ho4)); try go_wp2_with (first | ((with_reducible refine gate_dst (N := 1) rfl ?_); refine box_event ?hg (N := 1) ?hd (cs := #[.int .i64 a0_0, .slice A0_1 l0_1.length c0_1]) (t := 31) ?hr ?_; (case hd => rfl); (case hg => rfl); (case hr => first | (go_simp; done) | (go_simp; rfl)); intro gb176 hg w2 hbox hb; have BK176 := Aside0.mk (hbox); have GW176 := Aside0.mk ((by rw [hg]; exact (below_size (Lz HB)) : w.heap.size ≤ gb176)); have GE176 := Aside0.mk ((by rw [hg]; exact (below_size (Lz HB)) : w.heap.size ≤ gb176)); replace HB := Aside0.mk (below_step (Lz HB) hb); clear hb hbox hg) | ((with_reducible refine gate_dst (N := 7) rfl ?_); refine Kd.R_lit (Kd.int .i64) _ 3 ?hg (N := 7) ?hd (xs := ([0] : List Int)) (inner := [.int .i64 0]) (ok := fun _ => True) (okp := fun _ => True) ?hr ?hp (fun _ hk => hk) trivial (Below.refl _ _) (Nat.le_refl _) (by simp) ?_; (case hd => rfl); (case hg => rfl); (case hr => first | (go_simp; done) | (go_simp; rfl)); (case hp => exact (Reps.one (show Kd.M (Kd.int .i64) _ _ _ 0 [.int .i64 0] from rfl) (Reps.none _ _))); intro v178 w3 ho4 hb hg_ hnew_; clear hg_ hnew_; (first | rw [← Ny177.out] at ho4 | (simp only [Int.reduceToNat] at ho4; rw [← Ny177.out] at ho4)); have HO179 := Aside0.mk (Kd.R_lower ho4 (below_size (by exact Lz1 HB GE176))); replace BK176 := Aside0.mk (blk_below (g := gb176) (o := .cells #[.int .i64 a0_0, .slice A0_1 l0_1.length c0_1] 31 (0, 0)) (Bz BK176) hb); replace HB := Aside0.mk (below_step (by exact Lz1 HB GE176) hb); clear hb ho4)))
 go_loopg [3, 4] k (fun kq v3 v4 w' => ∃ (x3_1 : List Int) (x4_1 : Int), v4 = .int .i64 x4_1 ∧ Aside0 (spec_l02Reach.l0 kq x3_1 x4_1 a0_0 l0_1 = some r) ∧ Aside0 (kq ≤ k) ∧ Aside0 (Kd.R (Kd.int .i64) 3 w' w.heap.size (fun _ => True) v3 x3_1) ∧ Aside0 (w'.heap[gb176]? = some (.cells #[.int .i64 a0_0, (.slice A0_1 l0_1.length c0_1)] 31 (0, 0))) ∧ Aside0 (Below w.heap.size w w'))
 case atStart => exact ⟨(y177), (0), eqA, H', ⟨Nat.le_refl _⟩, ⟨by exact Rz HO179⟩, ⟨by exact Bz BK176⟩, ⟨by exact Lz1 HB GE176⟩⟩
 case round =>
  clear H'
  obtain ⟨x3_1, x4_1, rfl, HA, HK1, HO_3, BK176, HB⟩ := hrel
  cases gk with
  | zero => exact absurd HA.out (by simp [spec_l02Reach.l0])
  | succ k1 =>
   have H := HA.out
   clear HA
   simp only [spec_l02Reach.l0] at H
   by_cases c5 : x4_1 < (x3_1.length : Int)
   ·rw [if_pos c5] at H
    have c5b0 : decide (x4_1 < (x3_1.length : Int)) = true := decide_eq_true c5
    clear c5
    have H' := Aside0.mk H
    clear H
    obtain ⟨Ao6, co6, eo6⟩ := Kd.R_slice HO_3.out
    subst eo6
    have hcz7_0 : wr.cell? ⟨gb176, 0, none⟩ = some (.int .i64 a0_0) := (blk_cell BK176.out 0).trans rfl
    have hcz7_1 : wr.cell? ⟨gb176, 1, none⟩ = some (.slice A0_1 l0_1.length c0_1) := (blk_cell BK176.out 1).trans rfl
    have hfz7_0 := blk_frozen BK176.out 0
    have hfz7_1 := blk_frozen BK176.out 1
    go_wp2
    repeat (go_quiet (fail); try go_wp2)
    go_loopg [3, 17] k1 (fun kq v3 v17 w' => ∃ (x3_2 : List Int) (x17_2 : Int), v17 = .int .i64 x17_2 ∧ Aside0 (spec_l02Reach.l1 kq x3_2 x4_1 l0_1 (l0_1.length : Int) x17_2 a0_0 l0_1 = some r) ∧ Aside0 (kq ≤ k1) ∧ Aside0 (Kd.R (Kd.int .i64) 3 w' w.heap.size (fun _ => True) v3 x3_2) ∧ Aside0 (w'.heap[gb176]? = some (.cells #[.int .i64 a0_0, (.slice A0_1 l0_1.length c0_1)] 31 (0, 0))) ∧ Aside0 (Below w.heap.size w w'))
    case atStart => exact ⟨(x3_1), (0), eqA, H', ⟨Nat.le_refl _⟩, ⟨by exact Rz HO_3⟩, ⟨by exact Bz BK176⟩, ⟨by exact Lz1 HB GE176⟩⟩
    case round =>
     clear H'
     try clear c5
     try clear c5b0
     obtain ⟨x3_2, x17_2, rfl, HA, HK2, HO_3, BK176, HB⟩ := hrel
     cases gk with
     | zero => exact absurd HA.out (by simp [spec_l02Reach.l1])
     | succ k2 =>
      have H := HA.out
      clear HA
      simp only [spec_l02Reach.l1] at H
      by_cases c8 : x17_2 < (l0_1.length : Int)
      ·rw [if_pos c8] at H
       have c8b0 : decide (x17_2 < (l0_1.length : Int)) = true := decide_eq_true c8
       clear c8
       by_cases c9 : 0 ≤ x17_2
       ·rw [if_pos c9] at H
        have c9b0 : decide (0 ≤ x17_2) = true := decide_eq_true c9
        clear c9
        by_cases c10 : x17_2 < (l0_1.length : Int)
        ·rw [if_pos c10] at H
         have c10b0 : decide (x17_2 < (l0_1.length : Int)) = true := decide_eq_true c10
         clear c10
         have HC11 := Aside0.mk H
         clear H
         have p180 : 0 ≤ (x17_2 : Int) := ofA
         have q180 : x17_2 < (l0_1.length : Int) := ofA
         obtain ⟨ad180, e180, hx180_0, hx180_1⟩ := at_T67 HR0_1.out x17_2 p180 q180
         cases e180
         replace hx180_0 := (HB.out.cell (World.block_lt_of_cell? w _ hx180_0)).trans hx180_0
         replace hx180_1 := (HB.out.cell (World.block_lt_of_cell? w _ hx180_1)).trans hx180_1
         replace p180 := eq_true p180
         replace q180 := eq_true q180
         go_upto_region 8 with (first | ((with_reducible refine gate_dst (N := 6) rfl ?_); refine box_event ?hg (N := 6) ?hd (cs := #[.int .i64 0, .int .i64 0]) (t := 67) ?hr ?_; (case hd => rfl); (case hg => rfl); (case hr => first | (go_simp; done) | (go_simp; rfl)); intro gb181 hg w12 hbox hb; replace HO_3 := Aside0.mk (Kd.R_below (Rz HO_3) hb); have BK181 := Aside0.mk (hbox); have GW181 := Aside0.mk ((by rw [hg]; exact (below_size (by exact Lz1 HB GE176)) : w.heap.size ≤ gb181)); have GE181 := Aside0.mk ((by rw [hg]; exact (below_size (by exact Lz1 HB GE176)) : w.heap.size ≤ gb181)); replace HB := Aside0.mk (below_step (by exact Lz1 HB GE176) hb); have NB176_181 := Aside0.mk ((by rw [hg]; exact Nat.ne_of_lt (blk_lt (g := gb176) (o := .cells #[.int .i64 a0_0, .slice (some ad180) l0_1.length c0_1] 31 (0, 0)) (Bz BK176)) : gb176 ≠ gb181)); have NB181_176 := Aside0.mk ((by rw [hg]; exact Nat.ne_of_gt (blk_lt (g := gb176) (o := .cells #[.int .i64 a0_0, .slice (some ad180) l0_1.length c0_1] 31 (0, 0)) (Bz BK176)) : gb181 ≠ gb176)); replace BK176 := Aside0.mk (blk_below (g := gb176) (o := .cells #[.int .i64 a0_0, .slice (some ad180) l0_1.length c0_1] 31 (0, 0)) (Bz BK176) hb); clear hb hbox hg; have hnb13 := NB181_176.out; have hnc13 := NB176_181.out; have hcz14_0 : w12.cell? ⟨gb181, 0, none⟩ = some (.int .i64 0) := (blk_cell BK181.out 0).trans rfl; have hcz14_1 : w12.cell? ⟨gb181, 1, none⟩ = some (.int .i64 0) := (blk_cell BK181.out 1).trans rfl; have hfz14_0 := blk_frozen BK181.out 0; have hfz14_1 := blk_frozen BK181.out 1))
         repeat (go_quiet (first | ((with_reducible refine gate_dst (N := 6) rfl ?_); refine box_event ?hg (N := 6) ?hd (cs := #[.int .i64 0, .int .i64 0]) (t := 67) ?hr ?_; (case hd => rfl); (case hg => rfl); (case hr => first | (go_simp; done) | (go_simp; rfl)); intro gb181 hg w12 hbox hb; replace HO_3 := Aside0.mk (Kd.R_below (Rz HO_3) hb); have BK181 := Aside0.mk (hbox); have GW181 := Aside0.mk ((by rw [hg]; exact (below_size (by exact Lz1 HB GE176)) : w.heap.size ≤ gb181)); have GE181 := Aside0.mk ((by rw [hg]; exact (below_size (by exact Lz1 HB GE176)) : w.heap.size ≤ gb181)); replace HB := Aside0.mk (below_step (by exact Lz1 HB GE176) hb); have NB176_181 := Aside0.mk ((by rw [hg]; exact Nat.ne_of_lt (blk_lt (g := gb176) (o := .cells #[.int .i64 a0_0, .slice (some ad180) l0_1.length c0_1] 31 (0, 0)) (Bz BK176)) : gb176 ≠ gb181)); have NB181_176 := Aside0.mk ((by rw [hg]; exact Nat.ne_of_gt (blk_lt (g := gb176) (o := .cells #[.int .i64 a0_0, .slice (some ad180) l0_1.length c0_1] 31 (0, 0)) (Bz BK176)) : gb181 ≠ gb176)); replace BK176 := Aside0.mk (blk_below (g := gb176) (o := .cells #[.int .i64 a0_0, .slice (some ad180) l0_1.length c0_1] 31 (0, 0)) (Bz BK176) hb); clear hb hbox hg; have hnb13 := NB181_176.out; have hnc13 := NB176_181.out; have hcz14_0 : w12.cell? ⟨gb181, 0, none⟩ = some (.int .i64 0) := (blk_cell BK181.out 0).trans rfl; have hcz14_1 : w12.cell? ⟨gb181, 1, none⟩ = some (.int .i64 0) := (blk_cell BK181.out 1).trans rfl; have hfz14_0 := blk_frozen BK181.out 0; have hfz14_1 := blk_frozen BK181.out 1)); go_upto_region 8 with (first | ((with_reducible refine gate_dst (N := 6) rfl ?_); refine box_event ?hg (N := 6) ?hd (cs := #[.int .i64 0, .int .i64 0]) (t := 67) ?hr ?_; (case hd => rfl); (case hg => rfl); (case hr => first | (go_simp; done) | (go_simp; rfl)); intro gb181 hg w12 hbox hb; replace HO_3 := Aside0.mk (Kd.R_below (Rz HO_3) hb); have BK181 := Aside0.mk (hbox); have GW181 := Aside0.mk ((by rw [hg]; exact (below_size (by exact Lz1 HB GE176)) : w.heap.size ≤ gb181)); have GE181 := Aside0.mk ((by rw [hg]; exact (below_size (by exact Lz1 HB GE176)) : w.heap.size ≤ gb181)); replace HB := Aside0.mk (below_step (by exact Lz1 HB GE176) hb); have NB176_181 := Aside0.mk ((by rw [hg]; exact Nat.ne_of_lt (blk_lt (g := gb176) (o := .cells #[.int .i64 a0_0, .slice (some ad180) l0_1.length c0_1] 31 (0, 0)) (Bz BK176)) : gb176 ≠ gb181)); have NB181_176 := Aside0.mk ((by rw [hg]; exact Nat.ne_of_gt (blk_lt (g := gb176) (o := .cells #[.int .i64 a0_0, .slice (some ad180) l0_1.length c0_1] 31 (0, 0)) (Bz BK176)) : gb181 ≠ gb176)); replace BK176 := Aside0.mk (blk_below (g := gb176) (o := .cells #[.int .i64 a0_0, .slice (some ad180) l0_1.length c0_1] 31 (0, 0)) (Bz BK176) hb); clear hb hbox hg; have hnb13 := NB181_176.out; have hnc13 := NB176_181.out; have hcz14_0 : w12.cell? ⟨gb181, 0, none⟩ = some (.int .i64 0) := (blk_cell BK181.out 0).trans rfl; have hcz14_1 : w12.cell? ⟨gb181, 1, none⟩ = some (.int .i64 0) := (blk_cell BK181.out 1).trans rfl; have hfz14_0 := blk_frozen BK181.out 0; have hfz14_1 := blk_frozen BK181.out 1)))
         (try simp only [Act.put, List.setIfInBounds_toArray, List.set_cons_zero, List.set_cons_succ])
         go_cut [34] (fun v34 wc => ∃ (kq : Nat) (x34_10 : Bool), v34 = .bool x34_10 ∧ Aside0 (spec_l02Reach.j2 kq x3_2 x4_1 l0_1 (l0_1.length : Int) x17_2 x34_10 a0_0 l0_1 ((rd_T67 l0_1 x17_2).f0) ((rd_T67 l0_1 x17_2).f1) = some r) ∧ Aside0 (kq ≤ k2) ∧ Aside0 (Kd.R (Kd.int .i64) 3 wc w.heap.size (fun _ => True) u3 x3_2) ∧ Aside0 (wc.heap[gb176]? = some (.cells #[.int .i64 a0_0, (.slice (some ad180) l0_1.length c0_1)] 31 (0, 0))) ∧ Aside0 (wc.heap[gb181]? = some (.cells #[.int .i64 ((rd_T67 l0_1 x17_2).f0), .int .i64 ((rd_T67 l0_1 x17_2).f1)] 67 (0, 0))) ∧ Aside0 (Below w.heap.size w wc))
         case first =>
          have H := HC11.out
          clear HC11
          by_cases c15 : 0 ≤ x4_1
          ·rw [if_pos c15] at H
           have c15b0 : decide (0 ≤ x4_1) = true := decide_eq_true c15
           clear c15
           (first | rw [c15b0] | (simp only [i64_w, i32_w]; rw [c15b0]) | skip)
           by_cases c16 : x4_1 < (x3_2.length : Int)
           ·rw [if_pos c16] at H
            have c16b0 : decide (x4_1 < (x3_2.length : Int)) = true := decide_eq_true c16
            clear c16
            by_cases c17 : ((rd_T67 l0_1 x17_2).f0) = (rd x3_2 x4_1)
            ·rw [if_pos c17] at H
             have c17b0 : (((rd_T67 l0_1 x17_2).f0) == (rd x3_2 x4_1)) = true := beq_iff_eq.mpr c17
             have c17b1 : (((rd_T67 l0_1 x17_2).f0) != (rd x3_2 x4_1)) = false := bne_eq_false_iff_eq.mpr c17
             clear c17
             replace H := Option.bind_eq_some_iff.mp H
             obtain ⟨t183, A180, H⟩ := H
             replace H : (spec_l02Reach.j2 k2 x3_2 x4_1 l0_1 (l0_1.length : Int) x17_2 (!t183) a0_0 l0_1 ((rd_T67 l0_1 x17_2).f0) ((rd_T67 l0_1 x17_2).f1)) = some r := H
             have A18 := Aside0.mk A180
             clear A180
             have H' := Aside0.mk H
             clear H
             have hnb19 := NB181_176.out
             have hnc19 := NB176_181.out
             have hcz20_0 : w12.cell? ⟨gb181, 0, none⟩ = some (.int .i64 0) := (blk_cell BK181.out 0).trans rfl
             have hcz20_1 : w12.cell? ⟨gb181, 1, none⟩ = some (.int .i64 0) := (blk_cell BK181.out 1).trans rfl
             have hfz20_0 := blk_frozen BK181.out 0
             have hfz20_1 := blk_frozen BK181.out 1
             obtain ⟨Ao21, co21, eo21⟩ := Kd.R_slice HO_3.out
             subst eo21
             have p182 : 0 ≤ (x4_1 : Int) := ofA
             have q182 : x4_1 < (x3_2.length : Int) := ofA
             obtain ⟨ad182, e182, hx182_0⟩ := Kd.at_int (Kd.R_reads' HO_3.out).2.2 x4_1 p182 q182
             cases e182
             have hn182_0 : ad182.block ≠ gb181 := Kd.own_blk (Kd.R_ne HO_3.out BK181.out (by decide))
             have hn182_1 : ad182.block ≠ gb181 := Kd.own_blk (Kd.R_ne HO_3.out BK181.out (by decide))
             replace hx182_0 := (cell_far (p := ⟨gb181, 0, none⟩) (by first | (rw [add_block]; exact hn182_0) | (show (Addr.add _ _).block ≠ _; rw [add_block]; exact hn182_0) | exact hn182_0) (.int .i64 ((rd_T67 l0_1 x17_2).f0))).trans hx182_0
             replace hx182_0 := (cell_far (p := ⟨gb181, 1, none⟩) (by first | (rw [add_block]; exact hn182_1) | (show (Addr.add _ _).block ≠ _; rw [add_block]; exact hn182_1) | exact hn182_1) (.int .i64 ((rd_T67 l0_1 x17_2).f1))).trans hx182_0
             (try have hy182_0 := fun (n_ : Nat) => (show ((((w12.drewN n_).setCell ⟨gb181, 0, none⟩ (.int .i64 ((rd_T67 l0_1 x17_2).f0))).setCell ⟨gb181, 1, none⟩ (.int .i64 ((rd_T67 l0_1 x17_2).f1)))).cell? _ = some _ from hx182_0))
             clear hn182_0
             clear hn182_1
             replace p182 := eq_true p182
             replace q182 := eq_true q182
             go_wp2_with (first | (go_at_call 98; (with_reducible refine (spec_l02Has.calls k2 _ _ x3_2 ((rd_T67 l0_1 x17_2).f1) t183 _ ?side1 ?side2 A18.out).mono ?_); (case side1 => refine (Kd.R_reads' (e := 3) (base := w.heap.size) (ok := fun k_ => True) (n := x3_2.length) (c := co21) ?_).2.2; exact (by (with_reducible repeat (first | apply Kd.R_alloc | apply Kd.R_drewN | apply Kd.R_drew)); exact (Kd.R_mono (Kd.R_far (p := ⟨gb181, 1, none⟩) (Kd.R_far (p := ⟨gb181, 0, none⟩) (Kd.R_types HO_3.out BK181.out (by decide)) (fun _ hk => hk.2) (.int .i64 ((rd_T67 l0_1 x17_2).f0))) (fun _ hk => hk.2) (.int .i64 ((rd_T67 l0_1 x17_2).f1))) (fun _ h_ => h_.1)))); (case side2 => exact (Kd.R_reads' HO_3.out).2.1); rintro e w' ⟨rfl, ⟨nd, rfl⟩⟩; (try first | exact ⟨rfl, _, World.drewN_drewN _ _ _⟩ | exact ⟨rfl, _, Eq.trans (World.drewN_drewN _ _ _) (congrArg (World.drewN _) (Nat.add_assoc _ _ _))⟩)))
             repeat (go_quiet (first | (go_at_call 98; (with_reducible refine (spec_l02Has.calls k2 _ _ x3_2 ((rd_T67 l0_1 x17_2).f1) t183 _ ?side1 ?side2 A18.out).mono ?_); (case side1 => refine (Kd.R_reads' (e := 3) (base := w.heap.size) (ok := fun k_ => True) (n := x3_2.length) (c := co21) ?_).2.2; exact (by (with_reducible repeat (first | apply Kd.R_alloc | apply Kd.R_drewN | apply Kd.R_drew)); exact (Kd.R_mono (Kd.R_far (p := ⟨gb181, 1, none⟩) (Kd.R_far (p := ⟨gb181, 0, none⟩) (Kd.R_types HO_3.out BK181.out (by decide)) (fun _ hk => hk.2) (.int .i64 ((rd_T67 l0_1 x17_2).f0))) (fun _ hk => hk.2) (.int .i64 ((rd_T67 l0_1 x17_2).f1))) (fun _ h_ => h_.1)))); (case side2 => exact (Kd.R_reads' HO_3.out).2.1); rintro e w' ⟨rfl, ⟨nd, rfl⟩⟩; (try first | exact ⟨rfl, _, World.drewN_drewN _ _ _⟩ | exact ⟨rfl, _, Eq.trans (World.drewN_drewN _ _ _) (congrArg (World.drewN _) (Nat.add_assoc _ _ _))⟩))); try go_wp2_with (first | (go_at_call 98; (with_reducible refine (spec_l02Has.calls k2 _ _ x3_2 ((rd_T67 l0_1 x17_2).f1) t183 _ ?side1 ?side2 A18.out).mono ?_); (case side1 => refine (Kd.R_reads' (e := 3) (base := w.heap.size) (ok := fun k_ => True) (n := x3_2.length) (c := co21) ?_).2.2; exact (by (with_reducible repeat (first | apply Kd.R_alloc | apply Kd.R_drewN | apply Kd.R_drew)); exact (Kd.R_mono (Kd.R_far (p := ⟨gb181, 1, none⟩) (Kd.R_far (p := ⟨gb181, 0, none⟩) (Kd.R_types HO_3.out BK181.out (by decide)) (fun _ hk => hk.2) (.int .i64 ((rd_T67 l0_1 x17_2).f0))) (fun _ hk => hk.2) (.int .i64 ((rd_T67 l0_1 x17_2).f1))) (fun _ h_ => h_.1)))); (case side2 => exact (Kd.R_reads' HO_3.out).2.1); rintro e w' ⟨rfl, ⟨nd, rfl⟩⟩; (try first | exact ⟨rfl, _, World.drewN_drewN _ _ _⟩ | exact ⟨rfl, _, Eq.trans (World.drewN_drewN _ _ _) (congrArg (World.drewN _) (Nat.add_assoc _ _ _))⟩))))
             go_meet
             case rel => exact ⟨_, (!t183), eqA, H', ⟨by have := HK1.out; have := HK2.out; first | omega | exact Nat.le_refl _⟩, ⟨by (with_reducible repeat (first | apply Kd.R_alloc | apply Kd.R_drewN | apply Kd.R_drew)); exact Kd.R_mono (Kd.R_far (p := ⟨gb181, 1, none⟩) (Kd.R_far (p := ⟨gb181, 0, none⟩) (Kd.R_types HO_3.out BK181.out (by decide)) (fun _ hk => hk.2) (.int .i64 ((rd_T67 l0_1 x17_2).f0))) (fun _ hk => hk.2) (.int .i64 ((rd_T67 l0_1 x17_2).f1))) (fun _ hk => trivial)⟩, ⟨by (with_reducible repeat (first | refine blk_drewN ?_ _ | refine blk_drew ?_ | refine blk_alloc ?_ _)); refine blk_far ?_ NB176_181.out _; (with_reducible repeat (first | refine blk_drewN ?_ _ | refine blk_drew ?_ | refine blk_alloc ?_ _)); refine blk_far ?_ NB176_181.out _; exact Bz BK176⟩, ⟨by (with_reducible repeat (first | refine blk_drewN ?_ _ | refine blk_drew ?_ | refine blk_alloc ?_ _)); refine blk_put (cs := #[.int .i64 ((rd_T67 l0_1 x17_2).f0), .int .i64 0]) ?_ 1 _ rfl; (with_reducible repeat (first | refine blk_drewN ?_ _ | refine blk_drew ?_ | refine blk_alloc ?_ _)); refine blk_put (cs := #[.int .i64 0, .int .i64 0]) ?_ 0 _ rfl; exact Bz BK181⟩, ⟨by exact Lz2 HB GE176 GE181⟩⟩
            rw [if_neg c17] at H
            have c17b0 : (((rd_T67 l0_1 x17_2).f0) == (rd x3_2 x4_1)) = false := beq_eq_false_iff_ne.mpr c17
            have c17b1 : (((rd_T67 l0_1 x17_2).f0) != (rd x3_2 x4_1)) = true := bne_iff_ne.mpr c17
            have H' := Aside0.mk H
            clear H
            have hnb22 := NB181_176.out
            have hnc22 := NB176_181.out
            have hcz23_0 : w12.cell? ⟨gb181, 0, none⟩ = some (.int .i64 0) := (blk_cell BK181.out 0).trans rfl
            have hcz23_1 : w12.cell? ⟨gb181, 1, none⟩ = some (.int .i64 0) := (blk_cell BK181.out 1).trans rfl
            have hfz23_0 := blk_frozen BK181.out 0
            have hfz23_1 := blk_frozen BK181.out 1
            obtain ⟨Ao24, co24, eo24⟩ := Kd.R_slice HO_3.out
            subst eo24
            have p182 : 0 ≤ (x4_1 : Int) := ofA
            have q182 : x4_1 < (x3_2.length : Int) := ofA
            obtain ⟨ad182, e182, hx182_0⟩ := Kd.at_int (Kd.R_reads' HO_3.out).2.2 x4_1 p182 q182
            cases e182
            have hn182_0 : ad182.block ≠ gb181 := Kd.own_blk (Kd.R_ne HO_3.out BK181.out (by decide))
            have hn182_1 : ad182.block ≠ gb181 := Kd.own_blk (Kd.R_ne HO_3.out BK181.out (by decide))
            replace hx182_0 := (cell_far (p := ⟨gb181, 0, none⟩) (by first | (rw [add_block]; exact hn182_0) | (show (Addr.add _ _).block ≠ _; rw [add_block]; exact hn182_0) | exact hn182_0) (.int .i64 ((rd_T67 l0_1 x17_2).f0))).trans hx182_0
            replace hx182_0 := (cell_far (p := ⟨gb181, 1, none⟩) (by first | (rw [add_block]; exact hn182_1) | (show (Addr.add _ _).block ≠ _; rw [add_block]; exact hn182_1) | exact hn182_1) (.int .i64 ((rd_T67 l0_1 x17_2).f1))).trans hx182_0
            (try have hy182_0 := fun (n_ : Nat) => (show ((((w12.drewN n_).setCell ⟨gb181, 0, none⟩ (.int .i64 ((rd_T67 l0_1 x17_2).f0))).setCell ⟨gb181, 1, none⟩ (.int .i64 ((rd_T67 l0_1 x17_2).f1)))).cell? _ = some _ from hx182_0))
            clear hn182_0
            clear hn182_1
            replace p182 := eq_true p182
            replace q182 := eq_true q182
            go_wp2
            repeat (go_quiet (fail); try go_wp2)
            go_meet
            case rel => exact ⟨_, (false), eqA, H', ⟨by have := HK1.out; have := HK2.out; first | omega | exact Nat.le_refl _⟩, ⟨by (with_reducible repeat (first | apply Kd.R_alloc | apply Kd.R_drewN | apply Kd.R_drew)); exact Kd.R_mono (Kd.R_far (p := ⟨gb181, 1, none⟩) (Kd.R_far (p := ⟨gb181, 0, none⟩) (Kd.R_types HO_3.out BK181.out (by decide)) (fun _ hk => hk.2) (.int .i64 ((rd_T67 l0_1 x17_2).f0))) (fun _ hk => hk.2) (.int .i64 ((rd_T67 l0_1 x17_2).f1))) (fun _ hk => trivial)⟩, ⟨by (with_reducible repeat (first | refine blk_drewN ?_ _ | refine blk_drew ?_ | refine blk_alloc ?_ _)); refine blk_far ?_ NB176_181.out _; (with_reducible repeat (first | refine blk_drewN ?_ _ | refine blk_drew ?_ | refine blk_alloc ?_ _)); refine blk_far ?_ NB176_181.out _; exact Bz BK176⟩, ⟨by (with_reducible repeat (first | refine blk_drewN ?_ _ | refine blk_drew ?_ | refine blk_alloc ?_ _)); refine blk_put (cs := #[.int .i64 ((rd_T67 l0_1 x17_2).f0), .int .i64 0]) ?_ 1 _ rfl; (with_reducible repeat (first | refine blk_drewN ?_ _ | refine blk_drew ?_ | refine blk_alloc ?_ _)); refine blk_put (cs := #[.int .i64 0, .int .i64 0]) ?_ 0 _ rfl; exact Bz BK181⟩, ⟨by exact Lz2 HB GE176 GE181⟩⟩
           rw [if_neg c16] at H
           exact absurd H (by simp)
          rw [if_neg c15] at H
          exact absurd H (by simp)
         case rest =>
          clear HC11
          try clear c5
          try clear c5b0
          try clear c8
          try clear c8b0
          try clear c9
          try clear c9b0
          try clear c10
          try clear c10b0
          try clear c15
          try clear c15b0
          try clear c16
          try clear c16b0
          try clear c17
          try clear c17b0
          try clear c17b1
          try clear p180
          try clear p182
          try clear q180
          try clear q182
          obtain ⟨kq, x34_10, rfl, HA, HJ10, HO_3, BK176, BK181, HB⟩ := hcut
          cases kq with
          | zero => exact absurd HA.out (by simp [spec_l02Reach.j2])
          | succ kj10 =>
           have H := HA.out
           clear HA
           simp only [spec_l02Reach.j2] at H
           have HC25 := Aside0.mk H
           clear H
           go_upto_if 34 with (fail)
           repeat (go_quiet (fail); go_upto_if 34 with (fail))
           go_cut [3] (fun v3 wc => ∃ (kq : Nat) (x3_24 : List Int), Aside0 (spec_l02Reach.j3 kq x3_24 x4_1 l0_1 (l0_1.length : Int) x17_2 a0_0 l0_1 ((rd_T67 l0_1 x17_2).f0) ((rd_T67 l0_1 x17_2).f1) = some r) ∧ Aside0 (kq ≤ kj10) ∧ Aside0 (Kd.R (Kd.int .i64) 3 wc w.heap.size (fun _ => True) v3 x3_24) ∧ Aside0 (wc.heap[gb176]? = some (.cells #[.int .i64 a0_0, (.slice (some ad180) l0_1.length c0_1)] 31 (0, 0))) ∧ Aside0 (wc.heap[gb181]? = some (.cells #[.int .i64 ((rd_T67 l0_1 x17_2).f0), .int .i64 ((rd_T67 l0_1 x17_2).f1)] 67 (0, 0))) ∧ Aside0 (Below w.heap.size w wc))
           case first =>
            have H := HC25.out
            clear HC25
            by_cases c26 : x34_10 = true
            ·subst c26
             have H1 : (if x3_2.length < 17592186044416 then (spec_l02Reach.j3 kj10 (x3_2 ++ [((rd_T67 l0_1 x17_2).f1)]) x4_1 l0_1 (l0_1.length : Int) x17_2 a0_0 l0_1 ((rd_T67 l0_1 x17_2).f0) ((rd_T67 l0_1 x17_2).f1)) else (none)) = some r := by rw [if_pos rfl] at H; exact H
             clear H
             have H := H1
             clear H1
             by_cases c27 : x3_2.length < 17592186044416
             ·rw [if_pos c27] at H
              have LMc27 := Aside0.mk c27
              clear c27
              obtain ⟨y184, hy184⟩ : ∃ y_ : List Int, y_ = (x3_2 ++ [((rd_T67 l0_1 x17_2).f1)]) := ⟨_, rfl⟩
              replace H : (spec_l02Reach.j3 kj10 y184 x4_1 l0_1 (l0_1.length : Int) x17_2 a0_0 l0_1 ((rd_T67 l0_1 x17_2).f0) ((rd_T67 l0_1 x17_2).f1)) = some r := by first | (rw [hy184]; with_reducible exact H) | (have H2_ := (Option.bind_some _ _).symm.trans H; rw [hy184]; with_reducible exact H2_) | (have H2_ := (Option.bind_some _ _).symm.trans H; with_reducible exact H2_) | with_reducible exact H | (rw [hy184]; exact H) | exact H
              have Ny184 := Aside0.mk hy184
              clear hy184
              have H' := Aside0.mk H
              clear H
              have hnb28 := NB181_176.out
              have hnc28 := NB176_181.out
              have hcz29_0 : wc.cell? ⟨gb181, 0, none⟩ = some (.int .i64 ((rd_T67 l0_1 x17_2).f0)) := (blk_cell BK181.out 0).trans rfl
              have hcz29_1 : wc.cell? ⟨gb181, 1, none⟩ = some (.int .i64 ((rd_T67 l0_1 x17_2).f1)) := (blk_cell BK181.out 1).trans rfl
              have hfz29_0 := blk_frozen BK181.out 0
              have hfz29_1 := blk_frozen BK181.out 1
              go_wp2_with (first | ((with_reducible refine gate_builtin (b := .append) (xs := #[.tmp 35, .tmp 38]) rfl ?_); at_builtin; refine Kd.R_append (Kd.int .i64) (w0 := w) w.heap.size rfl (.tmp 35) (.tmp 38) 25 3 (.int .i64 0) 8 rfl Try.underlying25 info3 rfl (by decide) (by omega) u3 x3_2 ((rd_T67 l0_1 x17_2).f1) [.int .i64 ((rd_T67 l0_1 x17_2).f1)] (fun _ => True) (fun _ => False) rfl rfl ?aP (fun _ hk => hk.elim) ?aF ?aO ?aB ?aS ?aL ?_; (case aP => exact rfl); (case aB => exact (by exact Lz2 HB GE176 GE181)); (case aF => exact (fun _ _ => trivial)); (case aO => exact (Rz HO_3)); (case aS => exact (below_size (by exact Lz2 HB GE176 GE181))); (case aL => have := LMc27.out; omega); intro v185 w30 ho hb hg hat; rw [← Ny184.out] at ho; replace BK176 := Aside0.mk (blk_grown (g := gb176) (o := .cells #[.int .i64 a0_0, .slice (some ad180) l0_1.length c0_1] 31 (0, 0)) (Bz BK176) hg (Kd.R_ne HO_3.out BK176.out (by decide))); replace BK181 := Aside0.mk (blk_grown (g := gb181) (o := .cells #[.int .i64 ((rd_T67 l0_1 x17_2).f0), .int .i64 ((rd_T67 l0_1 x17_2).f1)] 67 (0, 0)) (Bz BK181) hg (Kd.R_ne HO_3.out BK181.out (by decide))); replace HB := Aside0.mk (hb); have HO186 := Aside0.mk (ho); clear HO_3; clear ho hb hg hat))
              repeat (go_quiet (first | ((with_reducible refine gate_builtin (b := .append) (xs := #[.tmp 35, .tmp 38]) rfl ?_); at_builtin; refine Kd.R_append (Kd.int .i64) (w0 := w) w.heap.size rfl (.tmp 35) (.tmp 38) 25 3 (.int .i64 0) 8 rfl Try.underlying25 info3 rfl (by decide) (by omega) u3 x3_2 ((rd_T67 l0_1 x17_2).f1) [.int .i64 ((rd_T67 l0_1 x17_2).f1)] (fun _ => True) (fun _ => False) rfl rfl ?aP (fun _ hk => hk.elim) ?aF ?aO ?aB ?aS ?aL ?_; (case aP => exact rfl); (case aB => exact (by exact Lz2 HB GE176 GE181)); (case aF => exact (fun _ _ => trivial)); (case aO => exact (Rz HO_3)); (case aS => exact (below_size (by exact Lz2 HB GE176 GE181))); (case aL => have := LMc27.out; omega); intro v185 w30 ho hb hg hat; rw [← Ny184.out] at ho; replace BK176 := Aside0.mk (blk_grown (g := gb176) (o := .cells #[.int .i64 a0_0, .slice (some ad180) l0_1.length c0_1] 31 (0, 0)) (Bz BK176) hg (Kd.R_ne HO_3.out BK176.out (by decide))); replace BK181 := Aside0.mk (blk_grown (g := gb181) (o := .cells #[.int .i64 ((rd_T67 l0_1 x17_2).f0), .int .i64 ((rd_T67 l0_1 x17_2).f1)] 67 (0, 0)) (Bz BK181) hg (Kd.R_ne HO_3.out BK181.out (by decide))); replace HB := Aside0.mk (hb); have HO186 := Aside0.mk (ho); clear HO_3; clear ho hb hg hat)); try go_wp2_with (first | ((with_reducible refine gate_builtin (b := .append) (xs := #[.tmp 35, .tmp 38]) rfl ?_); at_builtin; refine Kd.R_append (Kd.int .i64) (w0 := w) w.heap.size rfl (.tmp 35) (.tmp 38) 25 3 (.int .i64 0) 8 rfl Try.underlying25 info3 rfl (by decide) (by omega) u3 x3_2 ((rd_T67 l0_1 x17_2).f1) [.int .i64 ((rd_T67 l0_1 x17_2).f1)] (fun _ => True) (fun _ => False) rfl rfl ?aP (fun _ hk => hk.elim) ?aF ?aO ?aB ?aS ?aL ?_; (case aP => exact rfl); (case aB => exact (by exact Lz2 HB GE176 GE181)); (case aF => exact (fun _ _ => trivial)); (case aO => exact (Rz HO_3)); (case aS => exact (below_size (by exact Lz2 HB GE176 GE181))); (case aL => have := LMc27.out; omega); intro v185 w30 ho hb hg hat; rw [← Ny184.out] at ho; replace BK176 := Aside0.mk (blk_grown (g := gb176) (o := .cells #[.int .i64 a0_0, .slice (some ad180) l0_1.length c0_1] 31 (0, 0)) (Bz BK176) hg (Kd.R_ne HO_3.out BK176.out (by decide))); replace BK181 := Aside0.mk (blk_grown (g := gb181) (o := .cells #[.int .i64 ((rd_T67 l0_1 x17_2).f0), .int .i64 ((rd_T67 l0_1 x17_2).f1)] 67 (0, 0)) (Bz BK181) hg (Kd.R_ne HO_3.out BK181.out (by decide))); replace HB := Aside0.mk (hb); have HO186 := Aside0.mk (ho); clear HO_3; clear ho hb hg hat)))
              go_meet
              case rel => exact ⟨_, (y184), H', ⟨by have := HK1.out; have := HK2.out; have := HJ10.out; first | omega | exact Nat.le_refl _⟩, ⟨by exact Rz HO186⟩, ⟨by exact Bz BK176⟩, ⟨by exact Bz BK181⟩, ⟨by exact Lz2 HB GE176 GE181⟩⟩
             rw [if_neg c27] at H
             exact absurd H (by simp)
            replace c26 := Bool.eq_false_iff.mpr c26
            subst c26
            have H1 : (spec_l02Reach.j3 kj10 x3_2 x4_1 l0_1 (l0_1.length : Int) x17_2 a0_0 l0_1 ((rd_T67 l0_1 x17_2).f0) ((rd_T67 l0_1 x17_2).f1)) = some r := by rw [if_neg (show ¬ (false = true) by decide)] at H; exact H
            clear H
            have H := H1
            clear H1
            have H' := Aside0.mk H
            clear H
            go_wp2
            repeat (go_quiet (fail); try go_wp2)
            go_meet
            case rel => exact ⟨_, (x3_2), H', ⟨by have := HK1.out; have := HK2.out; have := HJ10.out; first | omega | exact Nat.le_refl _⟩, ⟨by exact Rz HO_3⟩, ⟨by exact Bz BK176⟩, ⟨by exact Bz BK181⟩, ⟨by exact Lz2 HB GE176 GE181⟩⟩
           case rest =>
            clear HC25
            try clear c5
            try clear c5b0
            try clear c8
            try clear c8b0
            try clear c9
            try clear c9b0
            try clear c10
            try clear c10b0
            try clear c15
            try clear c15b0
            try clear c16
            try clear c16b0
            try clear c17
            try clear c17b0
            try clear c17b1
            try clear c26
            try clear c27
            try clear p180
            try clear p182
            try clear q180
            try clear q182
            obtain ⟨kq, x3_24, HA, HJ24, HO_3, BK176, BK181, HB⟩ := hcut
            cases kq with
            | zero => exact absurd HA.out (by simp [spec_l02Reach.j3])
            | succ kj24 =>
             have H := HA.out
             clear HA
             simp only [spec_l02Reach.j3] at H
             by_cases c31 : 0 ≤ x4_1
             ·rw [if_pos c31] at H
              have c31b0 : decide (0 ≤ x4_1) = true := decide_eq_true c31
              clear c31
              by_cases c32 : x4_1 < (x3_24.length : Int)
              ·rw [if_pos c32] at H
               have c32b0 : decide (x4_1 < (x3_24.length : Int)) = true := decide_eq_true c32
               clear c32
               by_cases c33 : ((rd_T67 l0_1 x17_2).f1) = (rd x3_24 x4_1)
               ·rw [if_pos c33] at H
                have c33b0 : (((rd_T67 l0_1 x17_2).f1) == (rd x3_24 x4_1)) = true := beq_iff_eq.mpr c33
                have c33b1 : (((rd_T67 l0_1 x17_2).f1) != (rd x3_24 x4_1)) = false := bne_eq_false_iff_eq.mpr c33
                clear c33
                replace H := Option.bind_eq_some_iff.mp H
                obtain ⟨t188, A340, H⟩ := H
                replace H : (if t188 = true then (spec_l02Reach.l1 kj24 x3_24 x4_1 l0_1 (l0_1.length : Int) (wrap64 (x17_2 + 1)) a0_0 l0_1) else (if x3_24.length < 17592186044416 then (spec_l02Reach.l1 kj24 (x3_24 ++ [((rd_T67 l0_1 x17_2).f0)]) x4_1 l0_1 (l0_1.length : Int) (wrap64 (x17_2 + 1)) a0_0 l0_1) else (none))) = some r := H
                have A34 := Aside0.mk A340
                clear A340
                by_cases c35 : t188 = true
                ·subst c35
                 have H1 : (spec_l02Reach.l1 kj24 x3_24 x4_1 l0_1 (l0_1.length : Int) (wrap64 (x17_2 + 1)) a0_0 l0_1) = some r := by rw [if_pos rfl] at H; exact H
                 clear H
                 have H := H1
                 clear H1
                 have H' := Aside0.mk H
                 clear H
                 have hnb36 := NB181_176.out
                 have hnc36 := NB176_181.out
                 have hcz37_0 : wc.cell? ⟨gb181, 0, none⟩ = some (.int .i64 ((rd_T67 l0_1 x17_2).f0)) := (blk_cell BK181.out 0).trans rfl
                 have hcz37_1 : wc.cell? ⟨gb181, 1, none⟩ = some (.int .i64 ((rd_T67 l0_1 x17_2).f1)) := (blk_cell BK181.out 1).trans rfl
                 have hfz37_0 := blk_frozen BK181.out 0
                 have hfz37_1 := blk_frozen BK181.out 1
                 obtain ⟨Ao38, co38, eo38⟩ := Kd.R_slice HO_3.out
                 subst eo38
                 have p187 : 0 ≤ (x4_1 : Int) := ofA
                 have q187 : x4_1 < (x3_24.length : Int) := ofA
                 obtain ⟨ad187, e187, hx187_0⟩ := Kd.at_int (Kd.R_reads' HO_3.out).2.2 x4_1 p187 q187
                 cases e187
                 replace p187 := eq_true p187
                 replace q187 := eq_true q187
                 go_wp2_with (first | (go_at_call 98; (with_reducible refine (spec_l02Has.calls kj24 _ _ x3_24 ((rd_T67 l0_1 x17_2).f0) true _ ?side1 ?side2 A34.out).mono ?_); (case side1 => exact Cz ((Kd.R_reads' HO_3.out).2.2)); (case side2 => exact (Kd.R_reads' HO_3.out).2.1); rintro e w' ⟨rfl, ⟨nd, rfl⟩⟩; (try first | exact ⟨rfl, _, World.drewN_drewN _ _ _⟩ | exact ⟨rfl, _, Eq.trans (World.drewN_drewN _ _ _) (congrArg (World.drewN _) (Nat.add_assoc _ _ _))⟩)))
                 repeat (go_quiet (first | (go_at_call 98; (with_reducible refine (spec_l02Has.calls kj24 _ _ x3_24 ((rd_T67 l0_1 x17_2).f0) true _ ?side1 ?side2 A34.out).mono ?_); (case side1 => exact Cz ((Kd.R_reads' HO_3.out).2.2)); (case side2 => exact (Kd.R_reads' HO_3.out).2.1); rintro e w' ⟨rfl, ⟨nd, rfl⟩⟩; (try first | exact ⟨rfl, _, World.drewN_drewN _ _ _⟩ | exact ⟨rfl, _, Eq.trans (World.drewN_drewN _ _ _) (congrArg (World.drewN _) (Nat.add_assoc _ _ _))⟩))); try go_wp2_with (first | (go_at_call 98; (with_reducible refine (spec_l02Has.calls kj24 _ _ x3_24 ((rd_T67 l0_1 x17_2).f0) true _ ?side1 ?side2 A34.out).mono ?_); (case side1 => exact Cz ((Kd.R_reads' HO_3.out).2.2)); (case side2 => exact (Kd.R_reads' HO_3.out).2.1); rintro e w' ⟨rfl, ⟨nd, rfl⟩⟩; (try first | exact ⟨rfl, _, World.drewN_drewN _ _ _⟩ | exact ⟨rfl, _, Eq.trans (World.drewN_drewN _ _ _) (congrArg (World.drewN _) (Nat.add_assoc _ _ _))⟩))))
                 go_roundg kj24
                 case measure => have := HK1.out; have := HK2.out; have := HJ10.out; have := HJ24.out; omega
                 case rel => exact ⟨(x3_24), (wrap64 (x17_2 + 1)), eqA, H', ⟨by have := HK1.out; have := HK2.out; have := HJ10.out; have := HJ24.out; omega⟩, ⟨by exact Rz HO_3⟩, ⟨by exact Bz BK176⟩, ⟨by exact Lz2 HB GE176 GE181⟩⟩
                replace c35 := Bool.eq_false_iff.mpr c35
                subst c35
                have H1 : (if x3_24.length < 17592186044416 then (spec_l02Reach.l1 kj24 (x3_24 ++ [((rd_T67 l0_1 x17_2).f0)]) x4_1 l0_1 (l0_1.length : Int) (wrap64 (x17_2 + 1)) a0_0 l0_1) else (none)) = some r := by rw [if_neg (show ¬ (false = true) by decide)] at H; exact H
                clear H
                have H := H1
                clear H1
                by_cases c39 : x3_24.length < 17592186044416
                ·rw [if_pos c39] at H
                 have LMc39 := Aside0.mk c39
                 clear c39
                 obtain ⟨y189, hy189⟩ : ∃ y_ : List Int, y_ = (x3_24 ++ [((rd_T67 l0_1 x17_2).f0)]) := ⟨_, rfl⟩
                 replace H : (spec_l02Reach.l1 kj24 y189 x4_1 l0_1 (l0_1.length : Int) (wrap64 (x17_2 + 1)) a0_0 l0_1) = some r := by first | (rw [hy189]; with_reducible exact H) | (have H2_ := (Option.bind_some _ _).symm.trans H; rw [hy189]; with_reducible exact H2_) | (have H2_ := (Option.bind_some _ _).symm.trans H; with_reducible exact H2_) | with_reducible exact H | (rw [hy189]; exact H) | exact H
                 have Ny189 := Aside0.mk hy189
                 clear hy189
                 have H' := Aside0.mk H
                 clear H
                 have hnb40 := NB181_176.out
                 have hnc40 := NB176_181.out
                 have hcz41_0 : wc.cell? ⟨gb181, 0, none⟩ = some (.int .i64 ((rd_T67 l0_1 x17_2).f0)) := (blk_cell BK181.out 0).trans rfl
                 have hcz41_1 : wc.cell? ⟨gb181, 1, none⟩ = some (.int .i64 ((rd_T67 l0_1 x17_2).f1)) := (blk_cell BK181.out 1).trans rfl
                 have hfz41_0 := blk_frozen BK181.out 0
                 have hfz41_1 := blk_frozen BK181.out 1
                 obtain ⟨Ao42, co42, eo42⟩ := Kd.R_slice HO_3.out
                 subst eo42
                 have p187 : 0 ≤ (x4_1 : Int) := ofA
                 have q187 : x4_1 < (x3_24.length : Int) := ofA
                 obtain ⟨ad187, e187, hx187_0⟩ := Kd.at_int (Kd.R_reads' HO_3.out).2.2 x4_1 p187 q187
                 cases e187
                 replace p187 := eq_true p187
                 replace q187 := eq_true q187
                 go_wp2_with (first | (go_at_call 98; (with_reducible refine (spec_l02Has.calls kj24 _ _ x3_24 ((rd_T67 l0_1 x17_2).f0) false _ ?side1 ?side2 A34.out).mono ?_); (case side1 => exact Cz ((Kd.R_reads' HO_3.out).2.2)); (case side2 => exact (Kd.R_reads' HO_3.out).2.1); rintro e w' ⟨rfl, ⟨nd, rfl⟩⟩; (try first | exact ⟨rfl, _, World.drewN_drewN _ _ _⟩ | exact ⟨rfl, _, Eq.trans (World.drewN_drewN _ _ _) (congrArg (World.drewN _) (Nat.add_assoc _ _ _))⟩)) | ((with_reducible refine gate_builtin (b := .append) (xs := #[.tmp 54, .tmp 57]) rfl ?_); at_builtin; refine Kd.R_append (Kd.int .i64) (w0 := w) w.heap.size rfl (.tmp 54) (.tmp 57) 25 3 (.int .i64 0) 8 rfl Try.underlying25 info3 rfl (by decide) (by omega) (.slice (some ad187) x3_24.length co42) x3_24 ((rd_T67 l0_1 x17_2).f0) [.int .i64 ((rd_T67 l0_1 x17_2).f0)] (fun _ => True) (fun _ => False) rfl rfl ?aP (fun _ hk => hk.elim) ?aF ?aO ?aB ?aS ?aL ?_; (case aP => exact rfl); (case aB => exact (by exact Lz2 HB GE176 GE181)); (case aF => exact (fun _ _ => trivial)); (case aO => exact (Rz HO_3)); (case aS => exact (below_size (by exact Lz2 HB GE176 GE181))); (case aL => have := LMc39.out; omega); intro v190 w43 ho hb hg hat; rw [← Ny189.out] at ho; replace BK176 := Aside0.mk (blk_grown (g := gb176) (o := .cells #[.int .i64 a0_0, .slice (some ad180) l0_1.length c0_1] 31 (0, 0)) (Bz BK176) hg (Kd.R_ne HO_3.out BK176.out (by decide))); replace BK181 := Aside0.mk (blk_grown (g := gb181) (o := .cells #[.int .i64 ((rd_T67 l0_1 x17_2).f0), .int .i64 ((rd_T67 l0_1 x17_2).f1)] 67 (0, 0)) (Bz BK181) hg (Kd.R_ne HO_3.out BK181.out (by decide))); replace HB := Aside0.mk (hb); have HO191 := Aside0.mk (ho); clear HO_3; clear ho hb hg hat))
                 repeat (go_quiet (first | (go_at_call 98; (with_reducible refine (spec_l02Has.calls kj24 _ _ x3_24 ((rd_T67 l0_1 x17_2).f0) false _ ?side1 ?side2 A34.out).mono ?_); (case side1 => exact Cz ((Kd.R_reads' HO_3.out).2.2)); (case side2 => exact (Kd.R_reads' HO_3.out).2.1); rintro e w' ⟨rfl, ⟨nd, rfl⟩⟩; (try first | exact ⟨rfl, _, World.drewN_drewN _ _ _⟩ | exact ⟨rfl, _, Eq.trans (World.drewN_drewN _ _ _) (congrArg (World.drewN _) (Nat.add_assoc _ _ _))⟩)) | ((with_reducible refine gate_builtin (b := .append) (xs := #[.tmp 54, .tmp 57]) rfl ?_); at_builtin; refine Kd.R_append (Kd.int .i64) (w0 := w) w.heap.size rfl (.tmp 54) (.tmp 57) 25 3 (.int .i64 0) 8 rfl Try.underlying25 info3 rfl (by decide) (by omega) (.slice (some ad187) x3_24.length co42) x3_24 ((rd_T67 l0_1 x17_2).f0) [.int .i64 ((rd_T67 l0_1 x17_2).f0)] (fun _ => True) (fun _ => False) rfl rfl ?aP (fun _ hk => hk.elim) ?aF ?aO ?aB ?aS ?aL ?_; (case aP => exact rfl); (case aB => exact (by exact Lz2 HB GE176 GE181)); (case aF => exact (fun _ _ => trivial)); (case aO => exact (Rz HO_3)); (case aS => exact (below_size (by exact Lz2 HB GE176 GE181))); (case aL => have := LMc39.out; omega); intro v190 w43 ho hb hg hat; rw [← Ny189.out] at ho; replace BK176 := Aside0.mk (blk_grown (g := gb176) (o := .cells #[.int .i64 a0_0, .slice (some ad180) l0_1.length c0_1] 31 (0, 0)) (Bz BK176) hg (Kd.R_ne HO_3.out BK176.out (by decide))); replace BK181 := Aside0.mk (blk_grown (g := gb181) (o := .cells #[.int .i64 ((rd_T67 l0_1 x17_2).f0), .int .i64 ((rd_T67 l0_1 x17_2).f1)] 67 (0, 0)) (Bz BK181) hg (Kd.R_ne HO_3.out BK181.out (by decide))); replace HB := Aside0.mk (hb); have HO191 := Aside0.mk (ho); clear HO_3; clear ho hb hg hat)); try go_wp2_with (first | (go_at_call 98; (with_reducible refine (spec_l02Has.calls kj24 _ _ x3_24 ((rd_T67 l0_1 x17_2).f0) false _ ?side1 ?side2 A34.out).mono ?_); (case side1 => exact Cz ((Kd.R_reads' HO_3.out).2.2)); (case side2 => exact (Kd.R_reads' HO_3.out).2.1); rintro e w' ⟨rfl, ⟨nd, rfl⟩⟩; (try first | exact ⟨rfl, _, World.drewN_drewN _ _ _⟩ | exact ⟨rfl, _, Eq.trans (World.drewN_drewN _ _ _) (congrArg (World.drewN _) (Nat.add_assoc _ _ _))⟩)) | ((with_reducible refine gate_builtin (b := .append) (xs := #[.tmp 54, .tmp 57]) rfl ?_); at_builtin; refine Kd.R_append (Kd.int .i64) (w0 := w) w.heap.size rfl (.tmp 54) (.tmp 57) 25 3 (.int .i64 0) 8 rfl Try.underlying25 info3 rfl (by decide) (by omega) (.slice (some ad187) x3_24.length co42) x3_24 ((rd_T67 l0_1 x17_2).f0) [.int .i64 ((rd_T67 l0_1 x17_2).f0)] (fun _ => True) (fun _ => False) rfl rfl ?aP (fun _ hk => hk.elim) ?aF ?aO ?aB ?aS ?aL ?_; (case aP => exact rfl); (case aB => exact (by exact Lz2 HB GE176 GE181)); (case aF => exact (fun _ _ => trivial)); (case aO => exact (Rz HO_3)); (case aS => exact (below_size (by exact Lz2 HB GE176 GE181))); (case aL => have := LMc39.out; omega); intro v190 w43 ho hb hg hat; rw [← Ny189.out] at ho; replace BK176 := Aside0.mk (blk_grown (g := gb176) (o := .cells #[.int .i64 a0_0, .slice (some ad180) l0_1.length c0_1] 31 (0, 0)) (Bz BK176) hg (Kd.R_ne HO_3.out BK176.out (by decide))); replace BK181 := Aside0.mk (blk_grown (g := gb181) (o := .cells #[.int .i64 ((rd_T67 l0_1 x17_2).f0), .int .i64 ((rd_T67 l0_1 x17_2).f1)] 67 (0, 0)) (Bz BK181) hg (Kd.R_ne HO_3.out BK181.out (by decide))); replace HB := Aside0.mk (hb); have HO191 := Aside0.mk (ho); clear HO_3; clear ho hb hg hat)))
                 go_roundg kj24
                 case measure => have := HK1.out; have := HK2.out; have := HJ10.out; have := HJ24.out; omega
                 case rel => exact ⟨(y189), (wrap64 (x17_2 + 1)), eqA, H', ⟨by have := HK1.out; have := HK2.out; have := HJ10.out; have := HJ24.out; omega⟩, ⟨by exact Rz HO191⟩, ⟨by exact Bz BK176⟩, ⟨by exact Lz2 HB GE176 GE181⟩⟩
                rw [if_neg c39] at H
                exact absurd H (by simp)
               rw [if_neg c33] at H
               have c33b0 : (((rd_T67 l0_1 x17_2).f1) == (rd x3_24 x4_1)) = false := beq_eq_false_iff_ne.mpr c33
               have c33b1 : (((rd_T67 l0_1 x17_2).f1) != (rd x3_24 x4_1)) = true := bne_iff_ne.mpr c33
               have H' := Aside0.mk H
               clear H
               have hnb44 := NB181_176.out
               have hnc44 := NB176_181.out
               have hcz45_0 : wc.cell? ⟨gb181, 0, none⟩ = some (.int .i64 ((rd_T67 l0_1 x17_2).f0)) := (blk_cell BK181.out 0).trans rfl
               have hcz45_1 : wc.cell? ⟨gb181, 1, none⟩ = some (.int .i64 ((rd_T67 l0_1 x17_2).f1)) := (blk_cell BK181.out 1).trans rfl
               have hfz45_0 := blk_frozen BK181.out 0
               have hfz45_1 := blk_frozen BK181.out 1
               obtain ⟨Ao46, co46, eo46⟩ := Kd.R_slice HO_3.out
               subst eo46
               have p187 : 0 ≤ (x4_1 : Int) := ofA
               have q187 : x4_1 < (x3_24.length : Int) := ofA
               obtain ⟨ad187, e187, hx187_0⟩ := Kd.at_int (Kd.R_reads' HO_3.out).2.2 x4_1 p187 q187
               cases e187
               replace p187 := eq_true p187
               replace q187 := eq_true q187
               go_wp2
               repeat (go_quiet (fail); try go_wp2)
               go_roundg kj24
               case measure => have := HK1.out; have := HK2.out; have := HJ10.out; have := HJ24.out; omega
               case rel => exact ⟨(x3_24), (wrap64 (x17_2 + 1)), eqA, H', ⟨by have := HK1.out; have := HK2.out; have := HJ10.out; have := HJ24.out; omega⟩, ⟨by exact Rz HO_3⟩, ⟨by exact Bz BK176⟩, ⟨by exact Lz2 HB GE176 GE181⟩⟩
              rw [if_neg c32] at H
              exact absurd H (by simp)
             rw [if_neg c31] at H
             exact absurd H (by simp)
        rw [if_neg c10] at H
        exact absurd H (by simp)
       rw [if_neg c9] at H
       exact absurd H (by simp)
      rw [if_neg c8] at H
      have c8b0 : decide (x17_2 < (l0_1.length : Int)) = false := decide_eq_false c8
      clear c8
      have H' := Aside0.mk H
      clear H
      go_wp2
      repeat (go_quiet (fail); try go_wp2)
      go_roundg k2
      case measure => have := HK1.out; have := HK2.out; omega
      case rel => exact ⟨(x3_2), (wrap64 (x4_1 + 1)), eqA, H', ⟨by have := HK1.out; have := HK2.out; omega⟩, ⟨by exact Rz HO_3⟩, ⟨by exact Bz BK176⟩, ⟨by exact Lz1 HB GE176⟩⟩
   rw [if_neg c5] at H
   have c5b0 : decide (x4_1 < (x3_1.length : Int)) = false := decide_eq_false c5
   clear c5
   obtain rfl := Option.some.inj H
   obtain ⟨Ao47, co47, eo47⟩ := Kd.R_slice HO_3.out
   subst eo47
   go_wp2
   repeat (go_quiet (fail); try go_wp2)
   go_ret
   exact ⟨_, by first | rfl | (simp [errW_none, errW_some] <;> rfl) | (simp [*, errW_none, errW_some] <;> rfl), by exact Rz HO_3, by exact Lz1 HB GE176⟩
mutual
def spec_GraphOk.l0 : Nat → List (S67) → Int → Int → Int → List (S67) → Option (Bool)
 | 0, _, _, _, _, _ => none
 | k + 1, x9, x10, x11, x193000, x193001 => if x11 < x10 then (if 0 ≤ x11 then (if x11 < (x9.length : Int) then (if x11 > 0 then (if 0 ≤ (wrap64 (x11 - 1)) then (if (wrap64 (x11 - 1)) < (x193001.length : Int) then (if ((rd_T67 x9 x11).f0) < ((rd_T67 x193001 (wrap64 (x11 - 1))).f0) then (spec_GraphOk.j1 k x9 x10 x11 true x193000 x193001) else (if ((rd_T67 x9 x11).f0) = ((rd_T67 x193001 (wrap64 (x11 - 1))).f0) then (spec_GraphOk.j1 k x9 x10 x11 (decide (((rd_T67 x9 x11).f1) < ((rd_T67 x193001 (wrap64 (x11 - 1))).f1))) x193000 x193001) else (spec_GraphOk.j1 k x9 x10 x11 false x193000 x193001))) else (none)) else (none)) else (spec_GraphOk.j1 k x9 x10 x11 false x193000 x193001)) else (none)) else (none)) else ((spec_l02Reach.f k x193000 x193001).bind fun t194 => (some ((t194.length : Int) == x193000)))
def spec_GraphOk.j1 : Nat → List (S67) → Int → Int → Bool → Int → List (S67) → Option (Bool)
 | 0, _, _, _, _, _, _ => none
 | k + 1, x9, x10, x11, x53, x193000, x193001 => if x53 = true then (some false) else (spec_GraphOk.l0 k x9 x10 (wrap64 (x11 + 1)) x193000 x193001)
end
def spec_GraphOk.f (k : Nat) (a0_0 : Int) (l0_1 : List (S67)) : Option (Bool) := (spec_EdgesOk.f k a0_0 l0_1).bind fun t193 => (if t193 = true then (spec_GraphOk.l0 k l0_1 (l0_1.length : Int) 0 a0_0 l0_1) else (some false))
def spec_GraphOk.T6 : Bool × List (List Nat × List Nat) := (true, [([], []), ([0], [0]), ([1], [1]), ([2], [2]), ([3, 2], [2, 3]), ([2], [2]), ([5, 2], [2, 5]), ([2], [2]), ([7, 2], [2, 7]), ([6, 8, 2], [2, 6, 8]), ([9, 2], [2, 9]), ([10, 2], [2, 10]), ([4, 11, 2], [2, 4, 11]), ([12, 2, 2], [2, 12]), ([13], [13]), ([14, 13], [13, 14]), ([13], [13]), ([16, 13], [13, 16]), ([13], [13]), ([18, 13], [13, 18]), ([17, 19, 13], [13, 17, 19]), ([20, 13], [13, 20]), ([21, 13], [13, 21]), ([15, 22, 13], [13, 15, 22]), ([23, 13, 13], [13, 23]), ([24], [24]), ([25, 24], [24, 25]), ([24], [24]), ([27, 24], [24, 27]), ([24], [24]), ([29, 24], [24, 29]), ([28, 30, 24], [24, 28, 30]), ([31, 24], [24, 31]), ([32, 24], [24, 32]), ([26, 33, 24], [24, 26, 33]), ([24, 34, 13], [13, 24, 34]), ([13, 35, 2], [2, 13, 35]), ([2, 36], [2, 36])])
def spec_GraphOk.B6 : List Nat := [0, 1, 3, 7, 15, 7, 39, 7, 135, 487, 999, 2023, 4095, 8191, 16383, 32767, 16383, 81919, 16383, 278527, 999423, 2047999, 4145151, 8388607, 16777215, 33554431, 67108863, 33554431, 167772159, 33554431, 570425343, 2046820351, 4194303999, 8489271295, 17179869183, 34359738367, 68719476735, 137438953471]
theorem spec_GraphOk.tab6 : rtab .any (opsOf Try.f116 6) = spec_GraphOk.T6 := by kernel_rfl
theorem spec_GraphOk.bits6 : waitsOk spec_GraphOk.T6.2 spec_GraphOk.B6 = true := by kernel_rfl
set_option maxHeartbeats 8000000 in
set_option maxRecDepth 100000 in
theorem spec_GraphOk.calls (k : Nat) (a0_0 : Int) (A0_1 : Option Addr) (c0_1 : Nat) (l0_1 : List (S67)) (r : Bool) (w : World) (hr0_1 : Kd.C k67 w A0_1 l0_1.length l0_1) (hc0_1 : l0_1.length ≤ c0_1) (h : spec_GraphOk.f k a0_0 l0_1 = some r) :
  Calls Try.prog 116 #[.agg #[.int .i64 a0_0, .slice A0_1 l0_1.length c0_1]] w fun e w' => e = .returned (.bool r) ∧ Below w.heap.size w w' := by
 have hu31 := Try.underlying31
 have hu67 := Try.underlying67
 have HR0_1 := Aside0.mk hr0_1
 have HC0_1 := Aside0.mk hc0_1
 clear hr0_1 hc0_1
 have HB := Aside0.mk (Below.refl w.heap.size w)
 have H : ((spec_EdgesOk.f k a0_0 l0_1).bind fun t193 => (if t193 = true then (spec_GraphOk.l0 k l0_1 (l0_1.length : Int) 0 a0_0 l0_1) else (some false))) = some r := h
 clear h
 replace H := Option.bind_eq_some_iff.mp H
 obtain ⟨t193, A20, H⟩ := H
 replace H : (if t193 = true then (spec_GraphOk.l0 k l0_1 (l0_1.length : Int) 0 a0_0 l0_1) else (some false)) = some r := H
 have A2 := Aside0.mk A20
 clear A20
 by_cases c3 : t193 = true
 ·subst c3
  have H1 : (spec_GraphOk.l0 k l0_1 (l0_1.length : Int) 0 a0_0 l0_1) = some r := by rw [if_pos rfl] at H; exact H
  clear H
  have H := H1
  clear H1
  have H' := Aside0.mk H
  clear H
  go_enter Try.func116, Try.ntmps116
  go_wp2_with (first | ((with_reducible refine gate_dst (N := 1) rfl ?_); refine box_event ?hg (N := 1) ?hd (cs := #[.int .i64 a0_0, .slice A0_1 l0_1.length c0_1]) (t := 31) ?hr ?_; (case hd => rfl); (case hg => rfl); (case hr => first | (go_simp; done) | (go_simp; rfl)); intro gb192 hg w4 hbox hb; have BK192 := Aside0.mk (hbox); have GW192 := Aside0.mk ((by rw [hg]; exact (below_size (Lz HB)) : w.heap.size ≤ gb192)); have GE192 := Aside0.mk ((by rw [hg]; exact (below_size (Lz HB)) : w.heap.size ≤ gb192)); replace HB := Aside0.mk (below_step (Lz HB) hb); clear hb hbox hg; have hcz5_0 : w4.cell? ⟨gb192, 0, none⟩ = some (.int .i64 a0_0) := (blk_cell BK192.out 0).trans rfl; have hcz5_1 : w4.cell? ⟨gb192, 1, none⟩ = some (.slice A0_1 l0_1.length c0_1) := (blk_cell BK192.out 1).trans rfl; have hfz5_0 := blk_frozen BK192.out 0; have hfz5_1 := blk_frozen BK192.out 1) | ((with_reducible refine gate_callee (f := 132) rfl ?_); refine goesM_ (some 6) rfl rfl Try.func132 (by kernel_rfl) rfl #[.agg #[.int .i64 a0_0, .slice A0_1 l0_1.length c0_1]] rfl ?_; (with_reducible refine (spec_EdgesOk.calls k a0_0 _ _ l0_1 true _ ?side1 ?side2 A2.out).mono ?_); (case side1 => exact Cz ((Kd.C_below HR0_1.out HB.out))); (case side2 => exact HC0_1.out); rintro e w6 ⟨rfl, hb⟩; refine ⟨_, rfl, ?_⟩; replace BK192 := Aside0.mk (blk_below (g := gb192) (o := .cells #[.int .i64 a0_0, .slice A0_1 l0_1.length c0_1] 31 (0, 0)) (Bz BK192) hb); replace HB := Aside0.mk (below_step (by exact Lz1 HB GE192) hb); (try clear hb); (try clear hb2); (try clear hk); (try clear hi); have hcz7_0 : w6.cell? ⟨gb192, 0, none⟩ = some (.int .i64 a0_0) := (blk_cell BK192.out 0).trans rfl; have hcz7_1 : w6.cell? ⟨gb192, 1, none⟩ = some (.slice A0_1 l0_1.length c0_1) := (blk_cell BK192.out 1).trans rfl; have hfz7_0 := blk_frozen BK192.out 0; have hfz7_1 := blk_frozen BK192.out 1))
  go_loopg [11] k (fun kq v11 w' => ∃ (x11_1 : Int), v11 = .int .i64 x11_1 ∧ Aside0 (spec_GraphOk.l0 kq l0_1 (l0_1.length : Int) x11_1 a0_0 l0_1 = some r) ∧ Aside0 (kq ≤ k) ∧ Aside0 (w'.heap[gb192]? = some (.cells #[.int .i64 a0_0, (.slice A0_1 l0_1.length c0_1)] 31 (0, 0))) ∧ Aside0 (Below w.heap.size w w'))
  case atStart => exact ⟨(0), eqA, H', ⟨Nat.le_refl _⟩, ⟨by exact Bz BK192⟩, ⟨by exact Lz1 HB GE192⟩⟩
  case round =>
   clear H'
   try clear c3
   obtain ⟨x11_1, rfl, HA, HK1, BK192, HB⟩ := hrel
   cases gk with
   | zero => exact absurd HA.out (by simp [spec_GraphOk.l0])
   | succ k1 =>
    have H := HA.out
    clear HA
    simp only [spec_GraphOk.l0] at H
    by_cases c8 : x11_1 < (l0_1.length : Int)
    ·rw [if_pos c8] at H
     have c8b0 : decide (x11_1 < (l0_1.length : Int)) = true := decide_eq_true c8
     clear c8
     by_cases c9 : 0 ≤ x11_1
     ·rw [if_pos c9] at H
      have c9b0 : decide (0 ≤ x11_1) = true := decide_eq_true c9
      clear c9
      by_cases c10 : x11_1 < (l0_1.length : Int)
      ·rw [if_pos c10] at H
       have c10b0 : decide (x11_1 < (l0_1.length : Int)) = true := decide_eq_true c10
       clear c10
       have HC11 := Aside0.mk H
       clear H
       have p197 : 0 ≤ (x11_1 : Int) := ofA
       have q197 : x11_1 < (l0_1.length : Int) := ofA
       obtain ⟨ad197, e197, hx197_0, hx197_1⟩ := at_T67 HR0_1.out x11_1 p197 q197
       cases e197
       replace hx197_0 := (HB.out.cell (World.block_lt_of_cell? w _ hx197_0)).trans hx197_0
       replace hx197_1 := (HB.out.cell (World.block_lt_of_cell? w _ hx197_1)).trans hx197_1
       replace p197 := eq_true p197
       replace q197 := eq_true q197
       go_upto_region 6 with (first | ((with_reducible refine gate_dst (N := 4) rfl ?_); refine box_event ?hg (N := 4) ?hd (cs := #[.int .i64 0, .int .i64 0]) (t := 67) ?hr ?_; (case hd => rfl); (case hg => rfl); (case hr => first | (go_simp; done) | (go_simp; rfl)); intro gb198 hg w12 hbox hb; have BK198 := Aside0.mk (hbox); have GW198 := Aside0.mk ((by rw [hg]; exact (below_size (by exact Lz1 HB GE192)) : w.heap.size ≤ gb198)); have GE198 := Aside0.mk ((by rw [hg]; exact (below_size (by exact Lz1 HB GE192)) : w.heap.size ≤ gb198)); replace HB := Aside0.mk (below_step (by exact Lz1 HB GE192) hb); have NB192_198 := Aside0.mk ((by rw [hg]; exact Nat.ne_of_lt (blk_lt (g := gb192) (o := .cells #[.int .i64 a0_0, .slice (some ad197) l0_1.length c0_1] 31 (0, 0)) (Bz BK192)) : gb192 ≠ gb198)); have NB198_192 := Aside0.mk ((by rw [hg]; exact Nat.ne_of_gt (blk_lt (g := gb192) (o := .cells #[.int .i64 a0_0, .slice (some ad197) l0_1.length c0_1] 31 (0, 0)) (Bz BK192)) : gb198 ≠ gb192)); replace BK192 := Aside0.mk (blk_below (g := gb192) (o := .cells #[.int .i64 a0_0, .slice (some ad197) l0_1.length c0_1] 31 (0, 0)) (Bz BK192) hb); clear hb hbox hg; have hnb13 := NB198_192.out; have hnc13 := NB192_198.out; have hcz14_0 : w12.cell? ⟨gb198, 0, none⟩ = some (.int .i64 0) := (blk_cell BK198.out 0).trans rfl; have hcz14_1 : w12.cell? ⟨gb198, 1, none⟩ = some (.int .i64 0) := (blk_cell BK198.out 1).trans rfl; have hfz14_0 := blk_frozen BK198.out 0; have hfz14_1 := blk_frozen BK198.out 1))
       (try simp only [Act.put, List.setIfInBounds_toArray, List.set_cons_zero, List.set_cons_succ])
       go_cut [53] (fun v53 wc => ∃ (kq : Nat) (x53_10 : Bool), v53 = .bool x53_10 ∧ Aside0 (spec_GraphOk.j1 kq l0_1 (l0_1.length : Int) x11_1 x53_10 a0_0 l0_1 = some r) ∧ Aside0 (kq ≤ k1) ∧ Aside0 (wc.heap[gb192]? = some (.cells #[.int .i64 a0_0, (.slice (some ad197) l0_1.length c0_1)] 31 (0, 0))) ∧ Aside0 (wc.heap[gb198]? = some (.cells #[.int .i64 ((rd_T67 l0_1 x11_1).f0), .int .i64 ((rd_T67 l0_1 x11_1).f1)] 67 (0, 0))) ∧ Aside0 (Below w.heap.size w wc))
       case first =>
        have H := HC11.out
        clear HC11
        by_cases c15 : x11_1 > 0
        ·rw [if_pos c15] at H
         have c15b0 : decide (0 < x11_1) = true := decide_eq_true c15
         clear c15
         (first | rw [c15b0] | (simp only [i64_w, i32_w]; rw [c15b0]) | skip)
         obtain ⟨ji16, hji16⟩ : ∃ j_ : Int, (wrap64 (x11_1 - 1)) = j_ := ⟨_, rfl⟩
         replace H : (if 0 ≤ (ji16) then (if (ji16) < (l0_1.length : Int) then (if ((rd_T67 l0_1 x11_1).f0) < ((rd_T67 l0_1 (ji16)).f0) then (spec_GraphOk.j1 k1 l0_1 (l0_1.length : Int) x11_1 true a0_0 l0_1) else (if ((rd_T67 l0_1 x11_1).f0) = ((rd_T67 l0_1 (ji16)).f0) then (spec_GraphOk.j1 k1 l0_1 (l0_1.length : Int) x11_1 (decide (((rd_T67 l0_1 x11_1).f1) < ((rd_T67 l0_1 (ji16)).f1))) a0_0 l0_1) else (spec_GraphOk.j1 k1 l0_1 (l0_1.length : Int) x11_1 false a0_0 l0_1))) else (none)) else (none)) = some r := by first | (rw [hji16] at H; exact H) | (simp only [hji16] at H ⊢; exact H)
         have hji16w : (IntKind.i64.wrap (x11_1 - 1)) = ji16 := (i64_w _).trans hji16
         by_cases c17 : 0 ≤ (ji16)
         ·rw [if_pos c17] at H
          have c17b0 : decide (0 ≤ (ji16)) = true := decide_eq_true c17
          clear c17
          by_cases c18 : (ji16) < (l0_1.length : Int)
          ·rw [if_pos c18] at H
           have c18b0 : decide ((ji16) < (l0_1.length : Int)) = true := decide_eq_true c18
           clear c18
           by_cases c19 : ((rd_T67 l0_1 x11_1).f0) < ((rd_T67 l0_1 (ji16)).f0)
           ·rw [if_pos c19] at H
            have c19b0 : decide (((rd_T67 l0_1 x11_1).f0) < ((rd_T67 l0_1 (ji16)).f0)) = true := decide_eq_true c19
            clear c19
            have H' := Aside0.mk H
            clear H
            try go_wp2
            have n0_ : Aside0 (((w12.setCell ⟨gb198, 0, none⟩ (.int .i64 ((rd_T67 l0_1 x11_1).f0))).setCell ⟨gb198, 1, none⟩ (.int .i64 ((rd_T67 l0_1 x11_1).f1))).heap[gb192]? = some (.cells #[.int .i64 a0_0, .slice (some ad197) l0_1.length c0_1] 31 (0, 0))) := ⟨by (with_reducible repeat (first | refine blk_drewN ?_ _ | refine blk_drew ?_ | refine blk_alloc ?_ _)); refine blk_far ?_ NB192_198.out _; (with_reducible repeat (first | refine blk_drewN ?_ _ | refine blk_drew ?_ | refine blk_alloc ?_ _)); refine blk_far ?_ NB192_198.out _; exact Bz BK192⟩
            have n1_ : Aside0 (((w12.setCell ⟨gb198, 0, none⟩ (.int .i64 ((rd_T67 l0_1 x11_1).f0))).setCell ⟨gb198, 1, none⟩ (.int .i64 ((rd_T67 l0_1 x11_1).f1))).heap[gb198]? = some (.cells #[.int .i64 ((rd_T67 l0_1 x11_1).f0), .int .i64 ((rd_T67 l0_1 x11_1).f1)] 67 (0, 0))) := ⟨by (with_reducible repeat (first | refine blk_drewN ?_ _ | refine blk_drew ?_ | refine blk_alloc ?_ _)); refine blk_put (cs := #[.int .i64 ((rd_T67 l0_1 x11_1).f0), .int .i64 0]) ?_ 1 _ rfl; (with_reducible repeat (first | refine blk_drewN ?_ _ | refine blk_drew ?_ | refine blk_alloc ?_ _)); refine blk_put (cs := #[.int .i64 0, .int .i64 0]) ?_ 0 _ rfl; exact Bz BK198⟩
            have n2_ : Aside0 (Below w.heap.size w ((w12.setCell ⟨gb198, 0, none⟩ (.int .i64 ((rd_T67 l0_1 x11_1).f0))).setCell ⟨gb198, 1, none⟩ (.int .i64 ((rd_T67 l0_1 x11_1).f1)))) := ⟨by exact Lz2 HB GE192 GE198⟩
            (try clear BK192)
            (try clear BK198)
            (try clear HB)
            generalize ((w12.setCell ⟨gb198, 0, none⟩ (.int .i64 ((rd_T67 l0_1 x11_1).f0))).setCell ⟨gb198, 1, none⟩ (.int .i64 ((rd_T67 l0_1 x11_1).f1))) = w20 at n0_ n1_ n2_ ⊢
            have BK192 := n0_
            have BK198 := n1_
            have HB := n2_
            clear n0_ n1_ n2_
            replace BK192 := Aside0.mk (blk_drew BK192.out)
            replace BK198 := Aside0.mk (blk_drew BK198.out)
            replace HB := Aside0.mk (below_drew1 HB.out)
            have p199 : 0 ≤ ((ji16) : Int) := ofA
            have q199 : (ji16) < (l0_1.length : Int) := ofA
            obtain ⟨ad199, e199, hx199_0, hx199_1⟩ := at_T67 HR0_1.out (ji16) p199 q199
            have hw199_1 := hx199_1
            have hw199_0 := hx199_0
            obtain rfl : ad197 = ad199 := (by injection e199)
            replace hx199_0 := (HB.out.cell (World.block_lt_of_cell? w _ hx199_0)).trans hx199_0
            replace hx199_1 := (HB.out.cell (World.block_lt_of_cell? w _ hx199_1)).trans hx199_1
            replace p199 := eq_true p199
            replace q199 := eq_true q199
            refine start_ (n := 38) (S := fun w' => w'.cell? ⟨gb198, 0, none⟩ = some (.int .i64 ((rd_T67 l0_1 x11_1).f0)) ∧ w'.cell? ⟨gb198, 1, none⟩ = some (.int .i64 ((rd_T67 l0_1 x11_1).f1)) ∧ w'.cell? ⟨gb192, 0, none⟩ = some (.int .i64 a0_0) ∧ w'.cell? ⟨gb192, 1, none⟩ = some (.slice (some ad197) l0_1.length c0_1) ∧ w'.cell? (ad197.add (((ji16)).toNat * 2)) = some (.int .i64 ((rd_T67 l0_1 (ji16)).f0)) ∧ w'.cell? ⟨(ad197.add (((ji16)).toNat * 2)).block, (ad197.add (((ji16)).toNat * 2)).off + 1, none⟩ = some (.int .i64 ((rd_T67 l0_1 (ji16)).f1))) (ds := []) #[false, false, false, false, false, false, false, false, false, false, false, false, false, false, false, false, false, false, false, false, false, false, false, false, false, false, false, false, false, false, false, false, false, false, false, false, false, false] (by kernel_rfl) rfl rfl ⟨(blk_cell BK198.out 0).trans rfl, (blk_cell BK198.out 1).trans rfl, (blk_cell BK192.out 0).trans rfl, (blk_cell BK192.out 1).trans rfl, ((HB.out.cell (World.block_lt_of_cell? w _ hw199_0)).trans hw199_0), ((HB.out.cell (World.block_lt_of_cell? w _ hw199_1)).trans hw199_1)⟩ (fun hHeld => ?_); refine with_tabW spec_GraphOk.tab6 spec_GraphOk.bits6 (fun HT_ HW_ => ?_)
            generalize w20.drew = w21 at BK192 BK198 HB hx199_0 hx199_1 hHeld ⊢
            refine pureT_ 0 16 HT_ ?_
            refine pureT_ 1 17 HT_ ?_
            refine pureT_ 2 18 HT_ ?_
            refine pureT_ 3 19 HT_ ?_
            refine pureT_ 5 21 HT_ ?_
            refine pureT_ 7 23 HT_ ?_
            refine pureT_ 8 24 HT_ ?_
            refine takeT_ 4 20 HT_ HW_ hHeld rfl (by rintro w' ⟨s0, s1, s2, s3, s4, s5⟩; go_simp; with_reducible rfl) ?_
            refine takeT_ 6 22 HT_ HW_ hHeld rfl (by rintro w' ⟨s0, s1, s2, s3, s4, s5⟩; go_simp; with_reducible rfl) ?_
            refine pureT_ 9 25 HT_ ?_
            refine pureT_ 10 26 HT_ ?_
            refine takeT_ 11 27 HT_ HW_ hHeld rfl (by rintro w' ⟨s0, s1, s2, s3, s4, s5⟩; go_simp; with_reducible rfl) ?_
            refine pureT_ 12 28 HT_ ?_
            refine pureT_ 13 29 HT_ ?_
            refine pureU_ 14 30 HT_ ?_
            refine pureU_ 15 31 HT_ ?_
            refine pureU_ 16 32 HT_ ?_
            refine pureU_ 17 33 HT_ ?_
            refine pureU_ 18 34 HT_ ?_
            refine pureU_ 19 35 HT_ ?_
            refine pureU_ 20 36 HT_ ?_
            refine pureU_ 21 37 HT_ ?_
            refine pureU_ 22 38 HT_ ?_
            refine pureU_ 23 39 HT_ ?_
            refine pureU_ 24 40 HT_ ?_
            refine pureU_ 25 41 HT_ ?_
            refine pureU_ 26 42 HT_ ?_
            refine pureU_ 27 43 HT_ ?_
            refine pureU_ 28 44 HT_ ?_
            refine pureU_ 29 45 HT_ ?_
            refine pureU_ 30 46 HT_ ?_
            refine pureU_ 31 47 HT_ ?_
            refine pureU_ 32 48 HT_ ?_
            refine pureU_ 33 49 HT_ ?_
            refine pureU_ 34 50 HT_ ?_
            refine pureU_ 35 51 HT_ ?_
            refine pureT_ 36 52 HT_ ?_
            refine pureT_ 37 53 HT_ ?_
            refine done_ (done_of HT_.out (by kernel_rfl)) ?_
            try go_wp2
            go_meet
            case rel => exact ⟨_, (true), eqA, H', ⟨by have := HK1.out; first | omega | exact Nat.le_refl _⟩, ⟨by exact Bz BK192⟩, ⟨by exact Bz BK198⟩, ⟨by exact Lz2 HB GE192 GE198⟩⟩
           rw [if_neg c19] at H
           have c19b0 : decide (((rd_T67 l0_1 x11_1).f0) < ((rd_T67 l0_1 (ji16)).f0)) = false := decide_eq_false c19
           clear c19
           by_cases c22 : ((rd_T67 l0_1 x11_1).f0) = ((rd_T67 l0_1 (ji16)).f0)
           ·rw [if_pos c22] at H
            have c22b0 : (((rd_T67 l0_1 x11_1).f0) == ((rd_T67 l0_1 (ji16)).f0)) = true := beq_iff_eq.mpr c22
            have c22b1 : (((rd_T67 l0_1 x11_1).f0) != ((rd_T67 l0_1 (ji16)).f0)) = false := bne_eq_false_iff_eq.mpr c22
            clear c22
            have H' := Aside0.mk H
            clear H
            try go_wp2
            have n0_ : Aside0 (((w12.setCell ⟨gb198, 0, none⟩ (.int .i64 ((rd_T67 l0_1 x11_1).f0))).setCell ⟨gb198, 1, none⟩ (.int .i64 ((rd_T67 l0_1 x11_1).f1))).heap[gb192]? = some (.cells #[.int .i64 a0_0, .slice (some ad197) l0_1.length c0_1] 31 (0, 0))) := ⟨by (with_reducible repeat (first | refine blk_drewN ?_ _ | refine blk_drew ?_ | refine blk_alloc ?_ _)); refine blk_far ?_ NB192_198.out _; (with_reducible repeat (first | refine blk_drewN ?_ _ | refine blk_drew ?_ | refine blk_alloc ?_ _)); refine blk_far ?_ NB192_198.out _; exact Bz BK192⟩
            have n1_ : Aside0 (((w12.setCell ⟨gb198, 0, none⟩ (.int .i64 ((rd_T67 l0_1 x11_1).f0))).setCell ⟨gb198, 1, none⟩ (.int .i64 ((rd_T67 l0_1 x11_1).f1))).heap[gb198]? = some (.cells #[.int .i64 ((rd_T67 l0_1 x11_1).f0), .int .i64 ((rd_T67 l0_1 x11_1).f1)] 67 (0, 0))) := ⟨by (with_reducible repeat (first | refine blk_drewN ?_ _ | refine blk_drew ?_ | refine blk_alloc ?_ _)); refine blk_put (cs := #[.int .i64 ((rd_T67 l0_1 x11_1).f0), .int .i64 0]) ?_ 1 _ rfl; (with_reducible repeat (first | refine blk_drewN ?_ _ | refine blk_drew ?_ | refine blk_alloc ?_ _)); refine blk_put (cs := #[.int .i64 0, .int .i64 0]) ?_ 0 _ rfl; exact Bz BK198⟩
            have n2_ : Aside0 (Below w.heap.size w ((w12.setCell ⟨gb198, 0, none⟩ (.int .i64 ((rd_T67 l0_1 x11_1).f0))).setCell ⟨gb198, 1, none⟩ (.int .i64 ((rd_T67 l0_1 x11_1).f1)))) := ⟨by exact Lz2 HB GE192 GE198⟩
            (try clear BK192)
            (try clear BK198)
            (try clear HB)
            generalize ((w12.setCell ⟨gb198, 0, none⟩ (.int .i64 ((rd_T67 l0_1 x11_1).f0))).setCell ⟨gb198, 1, none⟩ (.int .i64 ((rd_T67 l0_1 x11_1).f1))) = w23 at n0_ n1_ n2_ ⊢
            have BK192 := n0_
            have BK198 := n1_
            have HB := n2_
            clear n0_ n1_ n2_
            replace BK192 := Aside0.mk (blk_drew BK192.out)
            replace BK198 := Aside0.mk (blk_drew BK198.out)
            replace HB := Aside0.mk (below_drew1 HB.out)
            have p199 : 0 ≤ ((ji16) : Int) := ofA
            have q199 : (ji16) < (l0_1.length : Int) := ofA
            obtain ⟨ad199, e199, hx199_0, hx199_1⟩ := at_T67 HR0_1.out (ji16) p199 q199
            have hw199_1 := hx199_1
            have hw199_0 := hx199_0
            obtain rfl : ad197 = ad199 := (by injection e199)
            replace hx199_0 := (HB.out.cell (World.block_lt_of_cell? w _ hx199_0)).trans hx199_0
            replace hx199_1 := (HB.out.cell (World.block_lt_of_cell? w _ hx199_1)).trans hx199_1
            replace p199 := eq_true p199
            replace q199 := eq_true q199
            have p200 : 0 ≤ ((ji16) : Int) := ofA
            have q200 : (ji16) < (l0_1.length : Int) := ofA
            obtain ⟨ad200, e200, hx200_0, hx200_1⟩ := at_T67 HR0_1.out (ji16) p200 q200
            have hw200_1 := hx200_1
            have hw200_0 := hx200_0
            obtain rfl : ad197 = ad200 := (by injection e200)
            replace hx200_0 := (HB.out.cell (World.block_lt_of_cell? w _ hx200_0)).trans hx200_0
            replace hx200_1 := (HB.out.cell (World.block_lt_of_cell? w _ hx200_1)).trans hx200_1
            replace p200 := eq_true p200
            replace q200 := eq_true q200
            have p201 : 0 ≤ ((ji16) : Int) := ofA
            have q201 : (ji16) < (l0_1.length : Int) := ofA
            obtain ⟨ad201, e201, hx201_0, hx201_1⟩ := at_T67 HR0_1.out (ji16) p201 q201
            have hw201_1 := hx201_1
            have hw201_0 := hx201_0
            obtain rfl : ad197 = ad201 := (by injection e201)
            replace hx201_0 := (HB.out.cell (World.block_lt_of_cell? w _ hx201_0)).trans hx201_0
            replace hx201_1 := (HB.out.cell (World.block_lt_of_cell? w _ hx201_1)).trans hx201_1
            replace p201 := eq_true p201
            replace q201 := eq_true q201
            refine start_ (n := 38) (S := fun w' => w'.cell? ⟨gb198, 0, none⟩ = some (.int .i64 ((rd_T67 l0_1 x11_1).f0)) ∧ w'.cell? ⟨gb198, 1, none⟩ = some (.int .i64 ((rd_T67 l0_1 x11_1).f1)) ∧ w'.cell? ⟨gb192, 0, none⟩ = some (.int .i64 a0_0) ∧ w'.cell? ⟨gb192, 1, none⟩ = some (.slice (some ad197) l0_1.length c0_1) ∧ w'.cell? (ad197.add (((ji16)).toNat * 2)) = some (.int .i64 ((rd_T67 l0_1 (ji16)).f0)) ∧ w'.cell? ⟨(ad197.add (((ji16)).toNat * 2)).block, (ad197.add (((ji16)).toNat * 2)).off + 1, none⟩ = some (.int .i64 ((rd_T67 l0_1 (ji16)).f1)) ∧ w'.cell? (ad197.add (((ji16)).toNat * 2)) = some (.int .i64 ((rd_T67 l0_1 (ji16)).f0)) ∧ w'.cell? ⟨(ad197.add (((ji16)).toNat * 2)).block, (ad197.add (((ji16)).toNat * 2)).off + 1, none⟩ = some (.int .i64 ((rd_T67 l0_1 (ji16)).f1)) ∧ w'.cell? (ad197.add (((ji16)).toNat * 2)) = some (.int .i64 ((rd_T67 l0_1 (ji16)).f0)) ∧ w'.cell? ⟨(ad197.add (((ji16)).toNat * 2)).block, (ad197.add (((ji16)).toNat * 2)).off + 1, none⟩ = some (.int .i64 ((rd_T67 l0_1 (ji16)).f1))) (ds := []) #[false, false, false, false, false, false, false, false, false, false, false, false, false, false, false, false, false, false, false, false, false, false, false, false, false, false, false, false, false, false, false, false, false, false, false, false, false, false] (by kernel_rfl) rfl rfl ⟨(blk_cell BK198.out 0).trans rfl, (blk_cell BK198.out 1).trans rfl, (blk_cell BK192.out 0).trans rfl, (blk_cell BK192.out 1).trans rfl, ((HB.out.cell (World.block_lt_of_cell? w _ hw199_0)).trans hw199_0), ((HB.out.cell (World.block_lt_of_cell? w _ hw199_1)).trans hw199_1), ((HB.out.cell (World.block_lt_of_cell? w _ hw200_0)).trans hw200_0), ((HB.out.cell (World.block_lt_of_cell? w _ hw200_1)).trans hw200_1), ((HB.out.cell (World.block_lt_of_cell? w _ hw201_0)).trans hw201_0), ((HB.out.cell (World.block_lt_of_cell? w _ hw201_1)).trans hw201_1)⟩ (fun hHeld => ?_); refine with_tabW spec_GraphOk.tab6 spec_GraphOk.bits6 (fun HT_ HW_ => ?_)
            generalize w23.drew = w24 at BK192 BK198 HB hx199_0 hx199_1 hx200_0 hx200_1 hx201_0 hx201_1 hHeld ⊢
            refine pureT_ 0 16 HT_ ?_
            refine pureT_ 1 17 HT_ ?_
            refine pureT_ 2 18 HT_ ?_
            refine pureT_ 3 19 HT_ ?_
            refine pureT_ 5 21 HT_ ?_
            refine pureT_ 7 23 HT_ ?_
            refine pureT_ 8 24 HT_ ?_
            refine takeT_ 4 20 HT_ HW_ hHeld rfl (by rintro w' ⟨s0, s1, s2, s3, s4, s5, s6, s7, s8, s9⟩; go_simp; with_reducible rfl) ?_
            refine takeT_ 6 22 HT_ HW_ hHeld rfl (by rintro w' ⟨s0, s1, s2, s3, s4, s5, s6, s7, s8, s9⟩; go_simp; with_reducible rfl) ?_
            refine pureT_ 9 25 HT_ ?_
            refine pureT_ 10 26 HT_ ?_
            refine takeT_ 11 27 HT_ HW_ hHeld rfl (by rintro w' ⟨s0, s1, s2, s3, s4, s5, s6, s7, s8, s9⟩; go_simp; with_reducible rfl) ?_
            refine pureT_ 12 28 HT_ ?_
            refine pureT_ 13 29 HT_ ?_
            refine pureT_ 14 30 HT_ ?_
            refine pureT_ 16 32 HT_ ?_
            refine pureT_ 18 34 HT_ ?_
            refine pureT_ 19 35 HT_ ?_
            refine takeT_ 15 31 HT_ HW_ hHeld rfl (by rintro w' ⟨s0, s1, s2, s3, s4, s5, s6, s7, s8, s9⟩; go_simp; with_reducible rfl) ?_
            refine takeT_ 17 33 HT_ HW_ hHeld rfl (by rintro w' ⟨s0, s1, s2, s3, s4, s5, s6, s7, s8, s9⟩; go_simp; with_reducible rfl) ?_
            refine pureT_ 20 36 HT_ ?_
            refine pureT_ 21 37 HT_ ?_
            refine takeT_ 22 38 HT_ HW_ hHeld rfl (by rintro w' ⟨s0, s1, s2, s3, s4, s5, s6, s7, s8, s9⟩; go_simp; with_reducible rfl) ?_
            refine pureT_ 23 39 HT_ ?_
            refine pureT_ 24 40 HT_ ?_
            refine pureT_ 25 41 HT_ ?_
            refine pureT_ 27 43 HT_ ?_
            refine pureT_ 29 45 HT_ ?_
            refine pureT_ 30 46 HT_ ?_
            refine takeT_ 26 42 HT_ HW_ hHeld rfl (by rintro w' ⟨s0, s1, s2, s3, s4, s5, s6, s7, s8, s9⟩; go_simp; with_reducible rfl) ?_
            refine takeT_ 28 44 HT_ HW_ hHeld rfl (by rintro w' ⟨s0, s1, s2, s3, s4, s5, s6, s7, s8, s9⟩; go_simp; with_reducible rfl) ?_
            refine pureT_ 31 47 HT_ ?_
            refine pureT_ 32 48 HT_ ?_
            refine takeT_ 33 49 HT_ HW_ hHeld rfl (by rintro w' ⟨s0, s1, s2, s3, s4, s5, s6, s7, s8, s9⟩; go_simp; with_reducible rfl) ?_
            refine pureT_ 34 50 HT_ ?_
            refine pureT_ 35 51 HT_ ?_
            refine pureT_ 36 52 HT_ ?_
            refine pureT_ 37 53 HT_ ?_
            refine done_ (done_of HT_.out (by kernel_rfl)) ?_
            try go_wp2
            go_meet
            case rel => exact ⟨_, (decide (((rd_T67 l0_1 x11_1).f1) < ((rd_T67 l0_1 (ji16)).f1))), (by first | rfl | (simp; done) | (simp only [← hji16] <;> (first | rfl | simp)) | (simp [*]; done)), H', ⟨by have := HK1.out; first | omega | exact Nat.le_refl _⟩, ⟨by exact Bz BK192⟩, ⟨by exact Bz BK198⟩, ⟨by exact Lz2 HB GE192 GE198⟩⟩
           rw [if_neg c22] at H
           have c22b0 : (((rd_T67 l0_1 x11_1).f0) == ((rd_T67 l0_1 (ji16)).f0)) = false := beq_eq_false_iff_ne.mpr c22
           have c22b1 : (((rd_T67 l0_1 x11_1).f0) != ((rd_T67 l0_1 (ji16)).f0)) = true := bne_iff_ne.mpr c22
           have H' := Aside0.mk H
           clear H
           try go_wp2
           have n0_ : Aside0 (((w12.setCell ⟨gb198, 0, none⟩ (.int .i64 ((rd_T67 l0_1 x11_1).f0))).setCell ⟨gb198, 1, none⟩ (.int .i64 ((rd_T67 l0_1 x11_1).f1))).heap[gb192]? = some (.cells #[.int .i64 a0_0, .slice (some ad197) l0_1.length c0_1] 31 (0, 0))) := ⟨by (with_reducible repeat (first | refine blk_drewN ?_ _ | refine blk_drew ?_ | refine blk_alloc ?_ _)); refine blk_far ?_ NB192_198.out _; (with_reducible repeat (first | refine blk_drewN ?_ _ | refine blk_drew ?_ | refine blk_alloc ?_ _)); refine blk_far ?_ NB192_198.out _; exact Bz BK192⟩
           have n1_ : Aside0 (((w12.setCell ⟨gb198, 0, none⟩ (.int .i64 ((rd_T67 l0_1 x11_1).f0))).setCell ⟨gb198, 1, none⟩ (.int .i64 ((rd_T67 l0_1 x11_1).f1))).heap[gb198]? = some (.cells #[.int .i64 ((rd_T67 l0_1 x11_1).f0), .int .i64 ((rd_T67 l0_1 x11_1).f1)] 67 (0, 0))) := ⟨by (with_reducible repeat (first | refine blk_drewN ?_ _ | refine blk_drew ?_ | refine blk_alloc ?_ _)); refine blk_put (cs := #[.int .i64 ((rd_T67 l0_1 x11_1).f0), .int .i64 0]) ?_ 1 _ rfl; (with_reducible repeat (first | refine blk_drewN ?_ _ | refine blk_drew ?_ | refine blk_alloc ?_ _)); refine blk_put (cs := #[.int .i64 0, .int .i64 0]) ?_ 0 _ rfl; exact Bz BK198⟩
           have n2_ : Aside0 (Below w.heap.size w ((w12.setCell ⟨gb198, 0, none⟩ (.int .i64 ((rd_T67 l0_1 x11_1).f0))).setCell ⟨gb198, 1, none⟩ (.int .i64 ((rd_T67 l0_1 x11_1).f1)))) := ⟨by exact Lz2 HB GE192 GE198⟩
           (try clear BK192)
           (try clear BK198)
           (try clear HB)
           generalize ((w12.setCell ⟨gb198, 0, none⟩ (.int .i64 ((rd_T67 l0_1 x11_1).f0))).setCell ⟨gb198, 1, none⟩ (.int .i64 ((rd_T67 l0_1 x11_1).f1))) = w25 at n0_ n1_ n2_ ⊢
           have BK192 := n0_
           have BK198 := n1_
           have HB := n2_
           clear n0_ n1_ n2_
           replace BK192 := Aside0.mk (blk_drew BK192.out)
           replace BK198 := Aside0.mk (blk_drew BK198.out)
           replace HB := Aside0.mk (below_drew1 HB.out)
           have p199 : 0 ≤ ((ji16) : Int) := ofA
           have q199 : (ji16) < (l0_1.length : Int) := ofA
           obtain ⟨ad199, e199, hx199_0, hx199_1⟩ := at_T67 HR0_1.out (ji16) p199 q199
           have hw199_1 := hx199_1
           have hw199_0 := hx199_0
           obtain rfl : ad197 = ad199 := (by injection e199)
           replace hx199_0 := (HB.out.cell (World.block_lt_of_cell? w _ hx199_0)).trans hx199_0
           replace hx199_1 := (HB.out.cell (World.block_lt_of_cell? w _ hx199_1)).trans hx199_1
           replace p199 := eq_true p199
           replace q199 := eq_true q199
           have p200 : 0 ≤ ((ji16) : Int) := ofA
           have q200 : (ji16) < (l0_1.length : Int) := ofA
           obtain ⟨ad200, e200, hx200_0, hx200_1⟩ := at_T67 HR0_1.out (ji16) p200 q200
           have hw200_1 := hx200_1
           have hw200_0 := hx200_0
           obtain rfl : ad197 = ad200 := (by injection e200)
           replace hx200_0 := (HB.out.cell (World.block_lt_of_cell? w _ hx200_0)).trans hx200_0
           replace hx200_1 := (HB.out.cell (World.block_lt_of_cell? w _ hx200_1)).trans hx200_1
           replace p200 := eq_true p200
           replace q200 := eq_true q200
           refine start_ (n := 38) (S := fun w' => w'.cell? ⟨gb198, 0, none⟩ = some (.int .i64 ((rd_T67 l0_1 x11_1).f0)) ∧ w'.cell? ⟨gb198, 1, none⟩ = some (.int .i64 ((rd_T67 l0_1 x11_1).f1)) ∧ w'.cell? ⟨gb192, 0, none⟩ = some (.int .i64 a0_0) ∧ w'.cell? ⟨gb192, 1, none⟩ = some (.slice (some ad197) l0_1.length c0_1) ∧ w'.cell? (ad197.add (((ji16)).toNat * 2)) = some (.int .i64 ((rd_T67 l0_1 (ji16)).f0)) ∧ w'.cell? ⟨(ad197.add (((ji16)).toNat * 2)).block, (ad197.add (((ji16)).toNat * 2)).off + 1, none⟩ = some (.int .i64 ((rd_T67 l0_1 (ji16)).f1)) ∧ w'.cell? (ad197.add (((ji16)).toNat * 2)) = some (.int .i64 ((rd_T67 l0_1 (ji16)).f0)) ∧ w'.cell? ⟨(ad197.add (((ji16)).toNat * 2)).block, (ad197.add (((ji16)).toNat * 2)).off + 1, none⟩ = some (.int .i64 ((rd_T67 l0_1 (ji16)).f1))) (ds := []) #[false, false, false, false, false, false, false, false, false, false, false, false, false, false, false, false, false, false, false, false, false, false, false, false, false, false, false, false, false, false, false, false, false, false, false, false, false, false] (by kernel_rfl) rfl rfl ⟨(blk_cell BK198.out 0).trans rfl, (blk_cell BK198.out 1).trans rfl, (blk_cell BK192.out 0).trans rfl, (blk_cell BK192.out 1).trans rfl, ((HB.out.cell (World.block_lt_of_cell? w _ hw199_0)).trans hw199_0), ((HB.out.cell (World.block_lt_of_cell? w _ hw199_1)).trans hw199_1), ((HB.out.cell (World.block_lt_of_cell? w _ hw200_0)).trans hw200_0), ((HB.out.cell (World.block_lt_of_cell? w _ hw200_1)).trans hw200_1)⟩ (fun hHeld => ?_); refine with_tabW spec_GraphOk.tab6 spec_GraphOk.bits6 (fun HT_ HW_ => ?_)
           generalize w25.drew = w26 at BK192 BK198 HB hx199_0 hx199_1 hx200_0 hx200_1 hHeld ⊢
           refine pureT_ 0 16 HT_ ?_
           refine pureT_ 1 17 HT_ ?_
           refine pureT_ 2 18 HT_ ?_
           refine pureT_ 3 19 HT_ ?_
           refine pureT_ 5 21 HT_ ?_
           refine pureT_ 7 23 HT_ ?_
           refine pureT_ 8 24 HT_ ?_
           refine takeT_ 4 20 HT_ HW_ hHeld rfl (by rintro w' ⟨s0, s1, s2, s3, s4, s5, s6, s7⟩; go_simp; with_reducible rfl) ?_
           refine takeT_ 6 22 HT_ HW_ hHeld rfl (by rintro w' ⟨s0, s1, s2, s3, s4, s5, s6, s7⟩; go_simp; with_reducible rfl) ?_
           refine pureT_ 9 25 HT_ ?_
           refine pureT_ 10 26 HT_ ?_
           refine takeT_ 11 27 HT_ HW_ hHeld rfl (by rintro w' ⟨s0, s1, s2, s3, s4, s5, s6, s7⟩; go_simp; with_reducible rfl) ?_
           refine pureT_ 12 28 HT_ ?_
           refine pureT_ 13 29 HT_ ?_
           refine pureT_ 14 30 HT_ ?_
           refine pureT_ 16 32 HT_ ?_
           refine pureT_ 18 34 HT_ ?_
           refine pureT_ 19 35 HT_ ?_
           refine takeT_ 15 31 HT_ HW_ hHeld rfl (by rintro w' ⟨s0, s1, s2, s3, s4, s5, s6, s7⟩; go_simp; with_reducible rfl) ?_
           refine takeT_ 17 33 HT_ HW_ hHeld rfl (by rintro w' ⟨s0, s1, s2, s3, s4, s5, s6, s7⟩; go_simp; with_reducible rfl) ?_
           refine pureT_ 20 36 HT_ ?_
           refine pureT_ 21 37 HT_ ?_
           refine takeT_ 22 38 HT_ HW_ hHeld rfl (by rintro w' ⟨s0, s1, s2, s3, s4, s5, s6, s7⟩; go_simp; with_reducible rfl) ?_
           refine pureT_ 23 39 HT_ ?_
           refine pureT_ 24 40 HT_ ?_
           refine pureU_ 25 41 HT_ ?_
           refine pureU_ 26 42 HT_ ?_
           refine pureU_ 27 43 HT_ ?_
           refine pureU_ 28 44 HT_ ?_
           refine pureU_ 29 45 HT_ ?_
           refine pureU_ 30 46 HT_ ?_
           refine pureU_ 31 47 HT_ ?_
           refine pureU_ 32 48 HT_ ?_
           refine pureU_ 33 49 HT_ ?_
           refine pureU_ 34 50 HT_ ?_
           refine pureT_ 35 51 HT_ ?_
           refine pureT_ 36 52 HT_ ?_
           refine pureT_ 37 53 HT_ ?_
           refine done_ (done_of HT_.out (by kernel_rfl)) ?_
           try go_wp2
           go_meet
           case rel => exact ⟨_, (false), eqA, H', ⟨by have := HK1.out; first | omega | exact Nat.le_refl _⟩, ⟨by exact Bz BK192⟩, ⟨by exact Bz BK198⟩, ⟨by exact Lz2 HB GE192 GE198⟩⟩
          rw [if_neg c18] at H
          exact absurd H (by simp)
         rw [if_neg c17] at H
         exact absurd H (by simp)
        rw [if_neg c15] at H
        have c15b0 : decide (0 < x11_1) = false := decide_eq_false c15
        clear c15
        (first | rw [c15b0] | (simp only [i64_w, i32_w]; rw [c15b0]) | skip)
        have H' := Aside0.mk H
        clear H
        try go_wp2
        have n0_ : Aside0 (((w12.setCell ⟨gb198, 0, none⟩ (.int .i64 ((rd_T67 l0_1 x11_1).f0))).setCell ⟨gb198, 1, none⟩ (.int .i64 ((rd_T67 l0_1 x11_1).f1))).heap[gb192]? = some (.cells #[.int .i64 a0_0, .slice (some ad197) l0_1.length c0_1] 31 (0, 0))) := ⟨by (with_reducible repeat (first | refine blk_drewN ?_ _ | refine blk_drew ?_ | refine blk_alloc ?_ _)); refine blk_far ?_ NB192_198.out _; (with_reducible repeat (first | refine blk_drewN ?_ _ | refine blk_drew ?_ | refine blk_alloc ?_ _)); refine blk_far ?_ NB192_198.out _; exact Bz BK192⟩
        have n1_ : Aside0 (((w12.setCell ⟨gb198, 0, none⟩ (.int .i64 ((rd_T67 l0_1 x11_1).f0))).setCell ⟨gb198, 1, none⟩ (.int .i64 ((rd_T67 l0_1 x11_1).f1))).heap[gb198]? = some (.cells #[.int .i64 ((rd_T67 l0_1 x11_1).f0), .int .i64 ((rd_T67 l0_1 x11_1).f1)] 67 (0, 0))) := ⟨by (with_reducible repeat (first | refine blk_drewN ?_ _ | refine blk_drew ?_ | refine blk_alloc ?_ _)); refine blk_put (cs := #[.int .i64 ((rd_T67 l0_1 x11_1).f0), .int .i64 0]) ?_ 1 _ rfl; (with_reducible repeat (first | refine blk_drewN ?_ _ | refine blk_drew ?_ | refine blk_alloc ?_ _)); refine blk_put (cs := #[.int .i64 0, .int .i64 0]) ?_ 0 _ rfl; exact Bz BK198⟩
        have n2_ : Aside0 (Below w.heap.size w ((w12.setCell ⟨gb198, 0, none⟩ (.int .i64 ((rd_T67 l0_1 x11_1).f0))).setCell ⟨gb198, 1, none⟩ (.int .i64 ((rd_T67 l0_1 x11_1).f1)))) := ⟨by exact Lz2 HB GE192 GE198⟩
        (try clear BK192)
        (try clear BK198)
        (try clear HB)
        generalize ((w12.setCell ⟨gb198, 0, none⟩ (.int .i64 ((rd_T67 l0_1 x11_1).f0))).setCell ⟨gb198, 1, none⟩ (.int .i64 ((rd_T67 l0_1 x11_1).f1))) = w27 at n0_ n1_ n2_ ⊢
        have BK192 := n0_
        have BK198 := n1_
        have HB := n2_
        clear n0_ n1_ n2_
        replace BK192 := Aside0.mk (blk_drew BK192.out)
        replace BK198 := Aside0.mk (blk_drew BK198.out)
        replace HB := Aside0.mk (below_drew1 HB.out)
        refine start_ (n := 38) (S := fun w' => True) (ds := []) #[false, false, false, false, false, false, false, false, false, false, false, false, false, false, false, false, false, false, false, false, false, false, false, false, false, false, false, false, false, false, false, false, false, false, false, false, false, false] (by kernel_rfl) rfl rfl trivial (fun hHeld => ?_); refine with_tabW spec_GraphOk.tab6 spec_GraphOk.bits6 (fun HT_ HW_ => ?_)
        generalize w27.drew = w28 at BK192 BK198 HB hHeld ⊢
        refine pureT_ 0 16 HT_ ?_
        refine pureT_ 1 17 HT_ ?_
        refine pureT_ 2 18 HT_ ?_
        refine pureU_ 3 19 HT_ ?_
        refine pureU_ 4 20 HT_ ?_
        refine pureU_ 5 21 HT_ ?_
        refine pureU_ 6 22 HT_ ?_
        refine pureU_ 7 23 HT_ ?_
        refine pureU_ 8 24 HT_ ?_
        refine pureU_ 9 25 HT_ ?_
        refine pureU_ 10 26 HT_ ?_
        refine pureU_ 11 27 HT_ ?_
        refine pureU_ 12 28 HT_ ?_
        refine pureU_ 13 29 HT_ ?_
        refine pureU_ 14 30 HT_ ?_
        refine pureU_ 15 31 HT_ ?_
        refine pureU_ 16 32 HT_ ?_
        refine pureU_ 17 33 HT_ ?_
        refine pureU_ 18 34 HT_ ?_
        refine pureU_ 19 35 HT_ ?_
        refine pureU_ 20 36 HT_ ?_
        refine pureU_ 21 37 HT_ ?_
        refine pureU_ 22 38 HT_ ?_
        refine pureU_ 23 39 HT_ ?_
        refine pureU_ 24 40 HT_ ?_
        refine pureU_ 25 41 HT_ ?_
        refine pureU_ 26 42 HT_ ?_
        refine pureU_ 27 43 HT_ ?_
        refine pureU_ 28 44 HT_ ?_
        refine pureU_ 29 45 HT_ ?_
        refine pureU_ 30 46 HT_ ?_
        refine pureU_ 31 47 HT_ ?_
        refine pureU_ 32 48 HT_ ?_
        refine pureU_ 33 49 HT_ ?_
        refine pureU_ 34 50 HT_ ?_
        refine pureU_ 35 51 HT_ ?_
        refine pureU_ 36 52 HT_ ?_
        refine pureT_ 37 53 HT_ ?_
        refine done_ (done_of HT_.out (by kernel_rfl)) ?_
        try go_wp2
        go_meet
        case rel => exact ⟨_, (false), eqA, H', ⟨by have := HK1.out; first | omega | exact Nat.le_refl _⟩, ⟨by exact Bz BK192⟩, ⟨by exact Bz BK198⟩, ⟨by exact Lz2 HB GE192 GE198⟩⟩
       case rest =>
        clear HC11
        try clear c15
        try clear c15b0
        try clear c17
        try clear c18
        try clear c22
        try clear c22b0
        try clear c22b1
        try clear p199
        try clear p200
        try clear q199
        try clear q200
        obtain ⟨kq, x53_10, rfl, HA, HJ10, BK192, BK198, HB⟩ := hcut
        cases kq with
        | zero => exact absurd HA.out (by simp [spec_GraphOk.j1])
        | succ kj10 =>
         have H := HA.out
         clear HA
         simp only [spec_GraphOk.j1] at H
         by_cases c29 : x53_10 = true
         ·subst c29
          have H1 : (some false) = some r := by rw [if_pos rfl] at H; exact H
          clear H
          have H := H1
          clear H1
          obtain rfl := Option.some.inj H
          go_wp2
          go_ret
          exact ⟨by first | rfl | (simp [errW_none, errW_some] <;> rfl) | (simp [*, errW_none, errW_some] <;> rfl), by exact Lz2 HB GE192 GE198⟩
         replace c29 := Bool.eq_false_iff.mpr c29
         subst c29
         have H1 : (spec_GraphOk.l0 kj10 l0_1 (l0_1.length : Int) (wrap64 (x11_1 + 1)) a0_0 l0_1) = some r := by rw [if_neg (show ¬ (false = true) by decide)] at H; exact H
         clear H
         have H := H1
         clear H1
         have H' := Aside0.mk H
         clear H
         go_wp2
         go_roundg kj10
         case measure => have := HK1.out; have := HJ10.out; omega
         case rel => exact ⟨(wrap64 (x11_1 + 1)), eqA, H', ⟨by have := HK1.out; have := HJ10.out; omega⟩, ⟨by exact Bz BK192⟩, ⟨by exact Lz2 HB GE192 GE198⟩⟩
      rw [if_neg c10] at H
      exact absurd H (by simp)
     rw [if_neg c9] at H
     exact absurd H (by simp)
    rw [if_neg c8] at H
    have c8b0 : decide (x11_1 < (l0_1.length : Int)) = false := decide_eq_false c8
    clear c8
    replace H := Option.bind_eq_some_iff.mp H
    obtain ⟨t194, A300, H⟩ := H
    replace H : (some ((t194.length : Int) == a0_0)) = some r := H
    have A30 := Aside0.mk A300
    clear A300
    obtain rfl := Option.some.inj H
    try go_wp2
    replace BK192 := Aside0.mk (blk_drew BK192.out)
    replace HB := Aside0.mk (below_drew1 HB.out)
    refine start_ (n := 7) (S := fun w' => w'.cell? ⟨gb192, 0, none⟩ = some (.int .i64 a0_0) ∧ w'.cell? ⟨gb192, 1, none⟩ = some (.slice A0_1 l0_1.length c0_1)) (ds := []) #[false, false, false, false, false, false, false] (by kernel_rfl) rfl rfl ⟨(blk_cell BK192.out 0).trans rfl, (blk_cell BK192.out 1).trans rfl⟩ (fun hHeld => ?_)
    generalize wr.drew = w31 at BK192 HB hHeld ⊢
    refine pure_ (i := 3) (N := some 58) (v := ?_) (a' := ?_) #[false, false, false, true, false, false, false] rfl rfl (by kernel_rfl) (fun _ _ _ h => h) (Or.inl ⟨by rfl, ?_⟩) ?_ ?_
    rotate_left
    ·intro w'
     go_simp
     with_reducible rfl
    rotate_left
    ·simp only [Act.put, List.setIfInBounds_toArray, List.set_cons_zero, List.set_cons_succ, i64_w, i32_w]
     rfl
    refine take_ (i := 0) (N := some 55) (v := ?_) (a' := ?_) #[true, false, false, true, false, false, false] rfl rfl (by kernel_rfl) (fun _ _ _ h => h) (Or.inl ⟨by rfl, ?_⟩) hHeld ?_ ?_
    rotate_left
    ·rintro w' ⟨s0, s1⟩
     go_simp
     with_reducible rfl
    rotate_left
    ·simp only [Act.put, List.setIfInBounds_toArray, List.set_cons_zero, List.set_cons_succ, i64_w, i32_w]
     rfl
    refine take_ (i := 4) (N := some 59) (v := ?_) (a' := ?_) #[true, false, false, true, true, false, false] rfl rfl (by kernel_rfl) (fun _ _ _ h => h) (Or.inl ⟨by rfl, ?_⟩) hHeld ?_ ?_
    rotate_left
    ·rintro w' ⟨s0, s1⟩
     go_simp
     with_reducible rfl
    rotate_left
    ·simp only [Act.put, List.setIfInBounds_toArray, List.set_cons_zero, List.set_cons_succ, i64_w, i32_w]
     rfl
    refine one_ (i := 1) (N := some 56) #[true, true, false, true, true, false, false] rfl rfl (by kernel_rfl) (by decide) (fun K hK => ?_)
    refine goes_ Try.func133 (by kernel_rfl) rfl #[.agg #[.int .i64 a0_0, .slice A0_1 l0_1.length c0_1]] (by rfl) rfl rfl (by (try simp only [List.map_toArray, List.map_cons, List.map_nil]); first | done | rfl | (simp only [List.length_drop, List.length_take]; rfl)) ?_
    with_reducible refine (spec_l02Reach.calls k1 a0_0 _ _ l0_1 t194 _ ?side1 ?side2 A30.out).mono ?_
    (case side1 => exact Cz ((Kd.C_below HR0_1.out HB.out)))
    (case side2 => exact HC0_1.out)
    rintro e w32 ⟨v195, rfl, ho0, hb⟩
    refine ⟨_, rfl, ?_⟩
    have HO196 := Aside0.mk (Kd.R_lower ho0 (below_size (by exact Lz1 HB GE192)))
    replace BK192 := Aside0.mk (blk_below (g := gb192) (o := .cells #[.int .i64 a0_0, .slice A0_1 l0_1.length c0_1] 31 (0, 0)) (Bz BK192) hb)
    replace HB := Aside0.mk (below_step (by exact Lz1 HB GE192) hb)
    (try clear hb)
    (try clear hb2)
    (try clear hk)
    (try clear hi)
    (try clear ho0)
    obtain ⟨Ao33, co33, eo33⟩ := Kd.R_slice HO196.out
    (first | subst eo33 | (injection eo33 with f1_ f2_ f3_; have f4_ := f1_.symm; have f5_ := f3_.symm; clear f1_ f2_ f3_; subst f4_; subst f5_))
    refine hK.out _ _ ⟨(blk_cell BK192.out 0).trans rfl, (blk_cell BK192.out 1).trans rfl⟩ (fun hHeld => ?_)
    clear hK K
    refine norm_ (a' := ?_) ?_ ?_
    rotate_left
    ·show Act.put _ (some 56) _ = _
     simp only [Act.put, List.setIfInBounds_toArray, List.set_cons_zero, List.set_cons_succ, i64_w, i32_w]
     rfl
    refine pure_ (i := 2) (N := some 57) (v := ?_) (a' := ?_) #[true, true, true, true, true, false, false] rfl rfl (by kernel_rfl) (fun _ _ _ h => h) (Or.inl ⟨by rfl, ?_⟩) ?_ ?_
    rotate_left
    ·intro w'
     go_simp
     with_reducible rfl
    rotate_left
    ·simp only [Act.put, List.setIfInBounds_toArray, List.set_cons_zero, List.set_cons_succ, i64_w, i32_w]
     rfl
    refine pure_ (i := 5) (N := some 60) (v := ?_) (a' := ?_) #[true, true, true, true, true, true, false] rfl rfl (by kernel_rfl) (fun _ _ _ h => h) (Or.inl ⟨by rfl, ?_⟩) ?_ ?_
    rotate_left
    ·intro w'
     go_simp
     with_reducible rfl
    rotate_left
    ·simp only [Act.put, List.setIfInBounds_toArray, List.set_cons_zero, List.set_cons_succ, i64_w, i32_w]
     rfl
    refine pure_ (i := 6) (N := some 2) (v := ?_) (a' := ?_) #[true, true, true, true, true, true, true] rfl rfl (by kernel_rfl) (fun _ _ _ h => h) (Or.inl ⟨by rfl, ?_⟩) ?_ ?_
    rotate_left
    ·intro w'
     go_simp
     with_reducible rfl
    rotate_left
    ·simp only [Act.put, List.setIfInBounds_toArray, List.set_cons_zero, List.set_cons_succ, i64_w, i32_w]
     rfl
    refine done_ (by kernel_rfl) ?_
    try go_wp2
    go_ret
    exact ⟨by first | rfl | (simp [errW_none, errW_some] <;> rfl) | (simp [*, errW_none, errW_some] <;> rfl), by exact Lz1 HB GE192⟩
 replace c3 := Bool.eq_false_iff.mpr c3
 subst c3
 have H1 : (some false) = some r := by rw [if_neg (show ¬ (false = true) by decide)] at H; exact H
 clear H
 have H := H1
 clear H1
 obtain rfl := Option.some.inj H
 go_enter Try.func116, Try.ntmps116
 go_wp2_with (first | ((with_reducible refine gate_dst (N := 1) rfl ?_); refine box_event ?hg (N := 1) ?hd (cs := #[.int .i64 a0_0, .slice A0_1 l0_1.length c0_1]) (t := 31) ?hr ?_; (case hd => rfl); (case hg => rfl); (case hr => first | (go_simp; done) | (go_simp; rfl)); intro gb192 hg w34 hbox hb; have BK192 := Aside0.mk (hbox); have GW192 := Aside0.mk ((by rw [hg]; exact (below_size (Lz HB)) : w.heap.size ≤ gb192)); have GE192 := Aside0.mk ((by rw [hg]; exact (below_size (Lz HB)) : w.heap.size ≤ gb192)); replace HB := Aside0.mk (below_step (Lz HB) hb); clear hb hbox hg; have hcz35_0 : w34.cell? ⟨gb192, 0, none⟩ = some (.int .i64 a0_0) := (blk_cell BK192.out 0).trans rfl; have hcz35_1 : w34.cell? ⟨gb192, 1, none⟩ = some (.slice A0_1 l0_1.length c0_1) := (blk_cell BK192.out 1).trans rfl; have hfz35_0 := blk_frozen BK192.out 0; have hfz35_1 := blk_frozen BK192.out 1) | ((with_reducible refine gate_callee (f := 132) rfl ?_); refine goesM_ (some 6) rfl rfl Try.func132 (by kernel_rfl) rfl #[.agg #[.int .i64 a0_0, .slice A0_1 l0_1.length c0_1]] rfl ?_; (with_reducible refine (spec_EdgesOk.calls k a0_0 _ _ l0_1 false _ ?side1 ?side2 A2.out).mono ?_); (case side1 => exact Cz ((Kd.C_below HR0_1.out HB.out))); (case side2 => exact HC0_1.out); rintro e w36 ⟨rfl, hb⟩; refine ⟨_, rfl, ?_⟩; replace BK192 := Aside0.mk (blk_below (g := gb192) (o := .cells #[.int .i64 a0_0, .slice A0_1 l0_1.length c0_1] 31 (0, 0)) (Bz BK192) hb); replace HB := Aside0.mk (below_step (by exact Lz1 HB GE192) hb); (try clear hb); (try clear hb2); (try clear hk); (try clear hi)))
 go_ret
 exact ⟨by first | rfl | (simp [errW_none, errW_some] <;> rfl) | (simp [*, errW_none, errW_some] <;> rfl), by exact Lz1 HB GE192⟩
mutual
def spec_AddEdge.j0 : Nat → Int → Int → Bool → Int → List (S67) → Option (Int × (List (S67)) × Bool)
 | 0, _, _, _, _, _ => none
 | k + 1, x1, x2, x42, x647000, x647001 => if x42 = true then (some (0, ([] : List (S67)), false)) else (spec_AddEdge.l0 k false x647001 (x647001.length : Int) 0 (mn x1 x2) (mx x1 x2) x647000 ([] : List (S67)))
def spec_AddEdge.l0 : Nat → Bool → List (S67) → Int → Int → Int → Int → Int → List (S67) → Option (Int × (List (S67)) × Bool)
 | 0, _, _, _, _, _, _, _, _ => none
 | k + 1, x10, x55, x56, x57, x652000, x652001, x653000, x653001 => if x57 < x56 then (if 0 ≤ x57 then (if x57 < (x55.length : Int) then (if x10 = true then (spec_AddEdge.j2 k x10 x55 x56 x57 false x652000 x652001 x653000 x653001 ((rd_T67 x55 x57).f0) ((rd_T67 x55 x57).f1)) else (if ((rd_T67 x55 x57).f0) > x652000 then (spec_AddEdge.j2 k x10 x55 x56 x57 true x652000 x652001 x653000 x653001 ((rd_T67 x55 x57).f0) ((rd_T67 x55 x57).f1)) else (if ((rd_T67 x55 x57).f0) = x652000 then (spec_AddEdge.j2 k x10 x55 x56 x57 (decide (((rd_T67 x55 x57).f1) > x652001)) x652000 x652001 x653000 x653001 ((rd_T67 x55 x57).f0) ((rd_T67 x55 x57).f1)) else (spec_AddEdge.j2 k x10 x55 x56 x57 false x652000 x652001 x653000 x653001 ((rd_T67 x55 x57).f0) ((rd_T67 x55 x57).f1))))) else (none)) else (none)) else (if x10 = true then (some (x653000, x653001, true)) else (if x653001.length < 8796093022208 then (some (x653000, (x653001 ++ [(⟨x652000, x652001⟩ : S67)]), true)) else (none)))
def spec_AddEdge.j2 : Nat → Bool → List (S67) → Int → Int → Bool → Int → Int → Int → List (S67) → Int → Int → Option (Int × (List (S67)) × Bool)
 | 0, _, _, _, _, _, _, _, _, _, _, _ => none
 | k + 1, x10, x55, x56, x57, x83, x652000, x652001, x653000, x653001, x655000, x655001 => if x83 = true then (if x653001.length < 8796093022208 then ((some (x653001 ++ [(⟨x652000, x652001⟩ : S67)] : List (S67))).bind fun y655 => (if y655.length < 8796093022208 then (spec_AddEdge.l0 k true x55 x56 (wrap64 (x57 + 1)) x652000 x652001 x653000 (y655 ++ [(⟨x655000, x655001⟩ : S67)])) else (none))) else (none)) else (if x653001.length < 8796093022208 then (spec_AddEdge.l0 k x10 x55 x56 (wrap64 (x57 + 1)) x652000 x652001 x653000 (x653001 ++ [(⟨x655000, x655001⟩ : S67)])) else (none))
end
def spec_AddEdge.f (k : Nat) (a0_0 : Int) (l0_1 : List (S67)) (a1 : Int) (a2 : Int) : Option (Int × (List (S67)) × Bool) := (spec_GraphOk.f k a0_0 l0_1).bind fun t648 => (if t648 = true then ((spec_l01In.f a1 0 (wrap64 (a0_0 - 1))).bind fun t649 => (if t649 = true then ((spec_l01In.f a2 0 (wrap64 (a0_0 - 1))).bind fun t650 => (if t650 = true then (if a1 = a2 then (spec_AddEdge.j0 k a1 a2 true a0_0 l0_1) else (spec_AddEdge.j0 k a1 a2 ((l0_1.length : Int) == 12) a0_0 l0_1)) else (spec_AddEdge.j0 k a1 a2 true a0_0 l0_1))) else (spec_AddEdge.j0 k a1 a2 true a0_0 l0_1))) else (spec_AddEdge.j0 k a1 a2 true a0_0 l0_1))
set_option maxHeartbeats 8000000 in
set_option maxRecDepth 100000 in
theorem spec_AddEdge.calls (k : Nat) (a0_0 : Int) (A0_1 : Option Addr) (c0_1 : Nat) (l0_1 : List (S67)) (a1 : Int) (a2 : Int) (r1 : Int) (r2 : List (S67)) (r3 : Bool) (w : World) (hr0_1 : Kd.C k67 w A0_1 l0_1.length l0_1) (hc0_1 : l0_1.length ≤ c0_1) (h : spec_AddEdge.f k a0_0 l0_1 a1 a2 = some (r1, r2, r3)) :
  Calls Try.prog 118 #[.agg #[.int .i64 a0_0, .slice A0_1 l0_1.length c0_1], .int .i64 a1, .int .i64 a2] w fun e w' => ∃ v1_ : Value, e = .returned (.tuple #[.agg #[.int .i64 r1, v1_], .bool r3]) ∧ Kd.R k67 67 w' w.heap.size (fun _ => True) v1_ r2 ∧ Below w.heap.size w w' := by
 have hu31 := Try.underlying31
 have hu67 := Try.underlying67
 have HR0_1 := Aside0.mk hr0_1
 have HC0_1 := Aside0.mk hc0_1
 clear hr0_1 hc0_1
 have HB := Aside0.mk (Below.refl w.heap.size w)
 have H : ((spec_GraphOk.f k a0_0 l0_1).bind fun t648 => (if t648 = true then ((spec_l01In.f a1 0 (wrap64 (a0_0 - 1))).bind fun t649 => (if t649 = true then ((spec_l01In.f a2 0 (wrap64 (a0_0 - 1))).bind fun t650 => (if t650 = true then (if a1 = a2 then (spec_AddEdge.j0 k a1 a2 true a0_0 l0_1) else (spec_AddEdge.j0 k a1 a2 ((l0_1.length : Int) == 12) a0_0 l0_1)) else (spec_AddEdge.j0 k a1 a2 true a0_0 l0_1))) else (spec_AddEdge.j0 k a1 a2 true a0_0 l0_1))) else (spec_AddEdge.j0 k a1 a2 true a0_0 l0_1))) = some (r1, r2, r3) := h
 clear h
 have HC4 := Aside0.mk H
 clear H
 go_enter Try.func118, Try.ntmps118
 go_upto_region 1 with (first | ((with_reducible refine gate_dst (N := 3) rfl ?_); (try (refine gate_guard (by rfl) ?_; dsimp only)); refine box_event ?hg (N := 3) ?hd (cs := #[.int .i64 a0_0, .slice A0_1 l0_1.length c0_1]) (t := 31) ?hr ?_; (case hd => rfl); (case hg => rfl); (case hr => first | (go_simp; done) | (go_simp; rfl)); intro gb646 hg w5 hbox hb; have BK646 := Aside0.mk (hbox); have GW646 := Aside0.mk ((by rw [hg]; exact (below_size (Lz HB)) : w.heap.size ≤ gb646)); have GE646 := Aside0.mk ((by rw [hg]; exact (below_size (Lz HB)) : w.heap.size ≤ gb646)); replace HB := Aside0.mk (below_step (Lz HB) hb); clear hb hbox hg) | ((with_reducible refine gate_dst (N := 6) rfl ?_); (try (refine gate_guard (by rfl) ?_; dsimp only)); refine box_event ?hg (N := 6) ?hd (cs := #[.int .i64 0, .slice none 0 0]) (t := 31) ?hr ?_; (case hd => rfl); (case hg => rfl); (case hr => first | (go_simp; done) | (go_simp; rfl)); intro gb647 hg w6 hbox hb; have BK647 := Aside0.mk (hbox); have GW647 := Aside0.mk ((by rw [hg]; exact (below_size (by exact Lz1 HB GE646)) : w.heap.size ≤ gb647)); have GE647 := Aside0.mk ((by rw [hg]; exact (below_size (by exact Lz1 HB GE646)) : w.heap.size ≤ gb647)); replace HB := Aside0.mk (below_step (by exact Lz1 HB GE646) hb); have NB646_647 := Aside0.mk ((by rw [hg]; exact Nat.ne_of_lt (blk_lt (g := gb646) (o := .cells #[.int .i64 a0_0, .slice A0_1 l0_1.length c0_1] 31 (0, 0)) (Bz BK646)) : gb646 ≠ gb647)); have NB647_646 := Aside0.mk ((by rw [hg]; exact Nat.ne_of_gt (blk_lt (g := gb646) (o := .cells #[.int .i64 a0_0, .slice A0_1 l0_1.length c0_1] 31 (0, 0)) (Bz BK646)) : gb647 ≠ gb646)); replace BK646 := Aside0.mk (blk_below (g := gb646) (o := .cells #[.int .i64 a0_0, .slice A0_1 l0_1.length c0_1] 31 (0, 0)) (Bz BK646) hb); clear hb hbox hg))
 (try simp only [Act.put, List.setIfInBounds_toArray, List.set_cons_zero, List.set_cons_succ])
 go_cut [42] (fun v42 wc => ∃ (kq : Nat) (x42_3 : Bool), v42 = .bool x42_3 ∧ Aside0 (spec_AddEdge.j0 kq a1 a2 x42_3 a0_0 l0_1 = some (r1, r2, r3)) ∧ Aside0 (kq ≤ k) ∧ Aside0 (wc.heap[gb646]? = some (.cells #[.int .i64 a0_0, (.slice A0_1 l0_1.length c0_1)] 31 (0, 0))) ∧ Aside0 (wc.heap[gb647]? = some (.cells #[.int .i64 0, (.slice none 0 0)] 31 (0, 0))) ∧ Aside0 (Below w.heap.size w wc))
 case first =>
  have H := HC4.out
  clear HC4
  replace H := Option.bind_eq_some_iff.mp H
  obtain ⟨t648, A70, H⟩ := H
  replace H : (if t648 = true then ((spec_l01In.f a1 0 (wrap64 (a0_0 - 1))).bind fun t649 => (if t649 = true then ((spec_l01In.f a2 0 (wrap64 (a0_0 - 1))).bind fun t650 => (if t650 = true then (if a1 = a2 then (spec_AddEdge.j0 k a1 a2 true a0_0 l0_1) else (spec_AddEdge.j0 k a1 a2 ((l0_1.length : Int) == 12) a0_0 l0_1)) else (spec_AddEdge.j0 k a1 a2 true a0_0 l0_1))) else (spec_AddEdge.j0 k a1 a2 true a0_0 l0_1))) else (spec_AddEdge.j0 k a1 a2 true a0_0 l0_1)) = some (r1, r2, r3) := H
  have A7 := Aside0.mk A70
  clear A70
  by_cases c8 : t648 = true
  ·subst c8
   have H1 : ((spec_l01In.f a1 0 (wrap64 (a0_0 - 1))).bind fun t649 => (if t649 = true then ((spec_l01In.f a2 0 (wrap64 (a0_0 - 1))).bind fun t650 => (if t650 = true then (if a1 = a2 then (spec_AddEdge.j0 k a1 a2 true a0_0 l0_1) else (spec_AddEdge.j0 k a1 a2 ((l0_1.length : Int) == 12) a0_0 l0_1)) else (spec_AddEdge.j0 k a1 a2 true a0_0 l0_1))) else (spec_AddEdge.j0 k a1 a2 true a0_0 l0_1))) = some (r1, r2, r3) := by rw [if_pos rfl] at H; exact H
   clear H
   have H := H1
   clear H1
   replace H := Option.bind_eq_some_iff.mp H
   obtain ⟨t649, A90, H⟩ := H
   replace H : (if t649 = true then ((spec_l01In.f a2 0 (wrap64 (a0_0 - 1))).bind fun t650 => (if t650 = true then (if a1 = a2 then (spec_AddEdge.j0 k a1 a2 true a0_0 l0_1) else (spec_AddEdge.j0 k a1 a2 ((l0_1.length : Int) == 12) a0_0 l0_1)) else (spec_AddEdge.j0 k a1 a2 true a0_0 l0_1))) else (spec_AddEdge.j0 k a1 a2 true a0_0 l0_1)) = some (r1, r2, r3) := H
   have A9 := Aside0.mk A90
   clear A90
   by_cases c10 : t649 = true
   ·subst c10
    have H1 : ((spec_l01In.f a2 0 (wrap64 (a0_0 - 1))).bind fun t650 => (if t650 = true then (if a1 = a2 then (spec_AddEdge.j0 k a1 a2 true a0_0 l0_1) else (spec_AddEdge.j0 k a1 a2 ((l0_1.length : Int) == 12) a0_0 l0_1)) else (spec_AddEdge.j0 k a1 a2 true a0_0 l0_1))) = some (r1, r2, r3) := by rw [if_pos rfl] at H; exact H
    clear H
    have H := H1
    clear H1
    replace H := Option.bind_eq_some_iff.mp H
    obtain ⟨t650, A110, H⟩ := H
    replace H : (if t650 = true then (if a1 = a2 then (spec_AddEdge.j0 k a1 a2 true a0_0 l0_1) else (spec_AddEdge.j0 k a1 a2 ((l0_1.length : Int) == 12) a0_0 l0_1)) else (spec_AddEdge.j0 k a1 a2 true a0_0 l0_1)) = some (r1, r2, r3) := H
    have A11 := Aside0.mk A110
    clear A110
    by_cases c12 : t650 = true
    ·subst c12
     have H1 : (if a1 = a2 then (spec_AddEdge.j0 k a1 a2 true a0_0 l0_1) else (spec_AddEdge.j0 k a1 a2 ((l0_1.length : Int) == 12) a0_0 l0_1)) = some (r1, r2, r3) := by rw [if_pos rfl] at H; exact H
     clear H
     have H := H1
     clear H1
     by_cases c13 : a1 = a2
     ·rw [if_pos c13] at H
      have c13b0 : (a1 == a2) = true := beq_iff_eq.mpr c13
      have c13b1 : (a1 != a2) = false := bne_eq_false_iff_eq.mpr c13
      clear c13
      (first | rw [c13b0] | (simp only [i64_w, i32_w]; rw [c13b0]) | skip)
      have H' := Aside0.mk H
      clear H
      have hnb14 := NB646_647.out
      have hnc14 := NB647_646.out
      have hcz15_0 : w6.cell? ⟨gb646, 0, none⟩ = some (.int .i64 a0_0) := (blk_cell BK646.out 0).trans rfl
      have hcz15_1 : w6.cell? ⟨gb646, 1, none⟩ = some (.slice A0_1 l0_1.length c0_1) := (blk_cell BK646.out 1).trans rfl
      have hfz15_0 := blk_frozen BK646.out 0
      have hfz15_1 := blk_frozen BK646.out 1
      go_wp2_with (first | ((with_reducible refine gate_callee (f := 116) rfl ?_); refine goesM_ (some 14) rfl rfl Try.func116 (by kernel_rfl) rfl #[.agg #[.int .i64 a0_0, .slice A0_1 l0_1.length c0_1]] rfl ?_; (with_reducible refine (spec_GraphOk.calls k a0_0 _ _ l0_1 true _ ?side1 ?side2 A7.out).mono ?_); (case side1 => exact Cz ((Kd.C_below HR0_1.out HB.out))); (case side2 => exact HC0_1.out); rintro e w16 ⟨rfl, hb⟩; refine ⟨_, rfl, ?_⟩; replace BK646 := Aside0.mk (blk_below (g := gb646) (o := .cells #[.int .i64 a0_0, .slice A0_1 l0_1.length c0_1] 31 (0, 0)) (Bz BK646) hb); replace BK647 := Aside0.mk (blk_below (g := gb647) (o := .cells #[.int .i64 0, .slice none 0 0] 31 (0, 0)) (Bz BK647) hb); replace HB := Aside0.mk (below_step (by exact Lz2 HB GE646 GE647) hb); (try clear hb); (try clear hb2); (try clear hk); (try clear hi); have hcz17_0 : w16.cell? ⟨gb646, 0, none⟩ = some (.int .i64 a0_0) := (blk_cell BK646.out 0).trans rfl; have hcz17_1 : w16.cell? ⟨gb646, 1, none⟩ = some (.slice A0_1 l0_1.length c0_1) := (blk_cell BK646.out 1).trans rfl; have hfz17_0 := blk_frozen BK646.out 0; have hfz17_1 := blk_frozen BK646.out 1) | (go_at_call 117; (with_reducible refine (spec_l01In.calls a1 0 (wrap64 (a0_0 - 1)) true _ A9.out).mono ?_); rintro e w' ⟨rfl, ⟨nd, rfl⟩⟩) | (go_at_call 117; (with_reducible refine (spec_l01In.calls a2 0 (wrap64 (a0_0 - 1)) true _ A11.out).mono ?_); rintro e w' ⟨rfl, ⟨nd, rfl⟩⟩))
      go_meet
      case rel => exact ⟨_, (true), eqA, H', ⟨by first | omega | exact Nat.le_refl _⟩, ⟨by exact Bz BK646⟩, ⟨by exact Bz BK647⟩, ⟨by exact Lz2 HB GE646 GE647⟩⟩
     rw [if_neg c13] at H
     have c13b0 : (a1 == a2) = false := beq_eq_false_iff_ne.mpr c13
     have c13b1 : (a1 != a2) = true := bne_iff_ne.mpr c13
     (first | rw [c13b0] | (simp only [i64_w, i32_w]; rw [c13b0]) | skip)
     have H' := Aside0.mk H
     clear H
     have hnb18 := NB646_647.out
     have hnc18 := NB647_646.out
     have hcz19_0 : w6.cell? ⟨gb646, 0, none⟩ = some (.int .i64 a0_0) := (blk_cell BK646.out 0).trans rfl
     have hcz19_1 : w6.cell? ⟨gb646, 1, none⟩ = some (.slice A0_1 l0_1.length c0_1) := (blk_cell BK646.out 1).trans rfl
     have hfz19_0 := blk_frozen BK646.out 0
     have hfz19_1 := blk_frozen BK646.out 1
     go_wp2_with (first | ((with_reducible refine gate_callee (f := 116) rfl ?_); refine goesM_ (some 14) rfl rfl Try.func116 (by kernel_rfl) rfl #[.agg #[.int .i64 a0_0, .slice A0_1 l0_1.length c0_1]] rfl ?_; (with_reducible refine (spec_GraphOk.calls k a0_0 _ _ l0_1 true _ ?side1 ?side2 A7.out).mono ?_); (case side1 => exact Cz ((Kd.C_below HR0_1.out HB.out))); (case side2 => exact HC0_1.out); rintro e w20 ⟨rfl, hb⟩; refine ⟨_, rfl, ?_⟩; replace BK646 := Aside0.mk (blk_below (g := gb646) (o := .cells #[.int .i64 a0_0, .slice A0_1 l0_1.length c0_1] 31 (0, 0)) (Bz BK646) hb); replace BK647 := Aside0.mk (blk_below (g := gb647) (o := .cells #[.int .i64 0, .slice none 0 0] 31 (0, 0)) (Bz BK647) hb); replace HB := Aside0.mk (below_step (by exact Lz2 HB GE646 GE647) hb); (try clear hb); (try clear hb2); (try clear hk); (try clear hi); have hcz21_0 : w20.cell? ⟨gb646, 0, none⟩ = some (.int .i64 a0_0) := (blk_cell BK646.out 0).trans rfl; have hcz21_1 : w20.cell? ⟨gb646, 1, none⟩ = some (.slice A0_1 l0_1.length c0_1) := (blk_cell BK646.out 1).trans rfl; have hfz21_0 := blk_frozen BK646.out 0; have hfz21_1 := blk_frozen BK646.out 1) | (go_at_call 117; (with_reducible refine (spec_l01In.calls a1 0 (wrap64 (a0_0 - 1)) true _ A9.out).mono ?_); rintro e w' ⟨rfl, ⟨nd, rfl⟩⟩) | (go_at_call 117; (with_reducible refine (spec_l01In.calls a2 0 (wrap64 (a0_0 - 1)) true _ A11.out).mono ?_); rintro e w' ⟨rfl, ⟨nd, rfl⟩⟩))
     go_meet
     case rel => exact ⟨_, (((l0_1.length : Int) == 12)), eqA, H', ⟨by first | omega | exact Nat.le_refl _⟩, ⟨by exact Bz BK646⟩, ⟨by exact Bz BK647⟩, ⟨by exact Lz2 HB GE646 GE647⟩⟩
    replace c12 := Bool.eq_false_iff.mpr c12
    subst c12
    have H1 : (spec_AddEdge.j0 k a1 a2 true a0_0 l0_1) = some (r1, r2, r3) := by rw [if_neg (show ¬ (false = true) by decide)] at H; exact H
    clear H
    have H := H1
    clear H1
    have H' := Aside0.mk H
    clear H
    have hnb22 := NB646_647.out
    have hnc22 := NB647_646.out
    have hcz23_0 : w6.cell? ⟨gb646, 0, none⟩ = some (.int .i64 a0_0) := (blk_cell BK646.out 0).trans rfl
    have hcz23_1 : w6.cell? ⟨gb646, 1, none⟩ = some (.slice A0_1 l0_1.length c0_1) := (blk_cell BK646.out 1).trans rfl
    have hfz23_0 := blk_frozen BK646.out 0
    have hfz23_1 := blk_frozen BK646.out 1
    go_wp2_with (first | ((with_reducible refine gate_callee (f := 116) rfl ?_); refine goesM_ (some 14) rfl rfl Try.func116 (by kernel_rfl) rfl #[.agg #[.int .i64 a0_0, .slice A0_1 l0_1.length c0_1]] rfl ?_; (with_reducible refine (spec_GraphOk.calls k a0_0 _ _ l0_1 true _ ?side1 ?side2 A7.out).mono ?_); (case side1 => exact Cz ((Kd.C_below HR0_1.out HB.out))); (case side2 => exact HC0_1.out); rintro e w24 ⟨rfl, hb⟩; refine ⟨_, rfl, ?_⟩; replace BK646 := Aside0.mk (blk_below (g := gb646) (o := .cells #[.int .i64 a0_0, .slice A0_1 l0_1.length c0_1] 31 (0, 0)) (Bz BK646) hb); replace BK647 := Aside0.mk (blk_below (g := gb647) (o := .cells #[.int .i64 0, .slice none 0 0] 31 (0, 0)) (Bz BK647) hb); replace HB := Aside0.mk (below_step (by exact Lz2 HB GE646 GE647) hb); (try clear hb); (try clear hb2); (try clear hk); (try clear hi); have hcz25_0 : w24.cell? ⟨gb646, 0, none⟩ = some (.int .i64 a0_0) := (blk_cell BK646.out 0).trans rfl; have hcz25_1 : w24.cell? ⟨gb646, 1, none⟩ = some (.slice A0_1 l0_1.length c0_1) := (blk_cell BK646.out 1).trans rfl; have hfz25_0 := blk_frozen BK646.out 0; have hfz25_1 := blk_frozen BK646.out 1) | (go_at_call 117; (with_reducible refine (spec_l01In.calls a1 0 (wrap64 (a0_0 - 1)) true _ A9.out).mono ?_); rintro e w' ⟨rfl, ⟨nd, rfl⟩⟩) | (go_at_call 117; (with_reducible refine (spec_l01In.calls a2 0 (wrap64 (a0_0 - 1)) false _ A11.out).mono ?_); rintro e w' ⟨rfl, ⟨nd, rfl⟩⟩))
    go_meet
    case rel => exact ⟨_, (true), eqA, H', ⟨by first | omega | exact Nat.le_refl _⟩, ⟨by exact Bz BK646⟩, ⟨by exact Bz BK647⟩, ⟨by exact Lz2 HB GE646 GE647⟩⟩
   replace c10 := Bool.eq_false_iff.mpr c10
   subst c10
   have H1 : (spec_AddEdge.j0 k a1 a2 true a0_0 l0_1) = some (r1, r2, r3) := by rw [if_neg (show ¬ (false = true) by decide)] at H; exact H
   clear H
   have H := H1
   clear H1
   have H' := Aside0.mk H
   clear H
   have hnb26 := NB646_647.out
   have hnc26 := NB647_646.out
   have hcz27_0 : w6.cell? ⟨gb646, 0, none⟩ = some (.int .i64 a0_0) := (blk_cell BK646.out 0).trans rfl
   have hcz27_1 : w6.cell? ⟨gb646, 1, none⟩ = some (.slice A0_1 l0_1.length c0_1) := (blk_cell BK646.out 1).trans rfl
   have hfz27_0 := blk_frozen BK646.out 0
   have hfz27_1 := blk_frozen BK646.out 1
   go_wp2_with (first | ((with_reducible refine gate_callee (f := 116) rfl ?_); refine goesM_ (some 14) rfl rfl Try.func116 (by kernel_rfl) rfl #[.agg #[.int .i64 a0_0, .slice A0_1 l0_1.length c0_1]] rfl ?_; (with_reducible refine (spec_GraphOk.calls k a0_0 _ _ l0_1 true _ ?side1 ?side2 A7.out).mono ?_); (case side1 => exact Cz ((Kd.C_below HR0_1.out HB.out))); (case side2 => exact HC0_1.out); rintro e w28 ⟨rfl, hb⟩; refine ⟨_, rfl, ?_⟩; replace BK646 := Aside0.mk (blk_below (g := gb646) (o := .cells #[.int .i64 a0_0, .slice A0_1 l0_1.length c0_1] 31 (0, 0)) (Bz BK646) hb); replace BK647 := Aside0.mk (blk_below (g := gb647) (o := .cells #[.int .i64 0, .slice none 0 0] 31 (0, 0)) (Bz BK647) hb); replace HB := Aside0.mk (below_step (by exact Lz2 HB GE646 GE647) hb); (try clear hb); (try clear hb2); (try clear hk); (try clear hi); have hcz29_0 : w28.cell? ⟨gb646, 0, none⟩ = some (.int .i64 a0_0) := (blk_cell BK646.out 0).trans rfl; have hcz29_1 : w28.cell? ⟨gb646, 1, none⟩ = some (.slice A0_1 l0_1.length c0_1) := (blk_cell BK646.out 1).trans rfl; have hfz29_0 := blk_frozen BK646.out 0; have hfz29_1 := blk_frozen BK646.out 1) | (go_at_call 117; (with_reducible refine (spec_l01In.calls a1 0 (wrap64 (a0_0 - 1)) false _ A9.out).mono ?_); rintro e w' ⟨rfl, ⟨nd, rfl⟩⟩))
   go_meet
   case rel => exact ⟨_, (true), eqA, H', ⟨by first | omega | exact Nat.le_refl _⟩, ⟨by exact Bz BK646⟩, ⟨by exact Bz BK647⟩, ⟨by exact Lz2 HB GE646 GE647⟩⟩
  replace c8 := Bool.eq_false_iff.mpr c8
  subst c8
  have H1 : (spec_AddEdge.j0 k a1 a2 true a0_0 l0_1) = some (r1, r2, r3) := by rw [if_neg (show ¬ (false = true) by decide)] at H; exact H
  clear H
  have H := H1
  clear H1
  have H' := Aside0.mk H
  clear H
  have hnb30 := NB646_647.out
  have hnc30 := NB647_646.out
  have hcz31_0 : w6.cell? ⟨gb646, 0, none⟩ = some (.int .i64 a0_0) := (blk_cell BK646.out 0).trans rfl
  have hcz31_1 : w6.cell? ⟨gb646, 1, none⟩ = some (.slice A0_1 l0_1.length c0_1) := (blk_cell BK646.out 1).trans rfl
  have hfz31_0 := blk_frozen BK646.out 0
  have hfz31_1 := blk_frozen BK646.out 1
  go_wp2_with (first | ((with_reducible refine gate_callee (f := 116) rfl ?_); refine goesM_ (some 14) rfl rfl Try.func116 (by kernel_rfl) rfl #[.agg #[.int .i64 a0_0, .slice A0_1 l0_1.length c0_1]] rfl ?_; (with_reducible refine (spec_GraphOk.calls k a0_0 _ _ l0_1 false _ ?side1 ?side2 A7.out).mono ?_); (case side1 => exact Cz ((Kd.C_below HR0_1.out HB.out))); (case side2 => exact HC0_1.out); rintro e w32 ⟨rfl, hb⟩; refine ⟨_, rfl, ?_⟩; replace BK646 := Aside0.mk (blk_below (g := gb646) (o := .cells #[.int .i64 a0_0, .slice A0_1 l0_1.length c0_1] 31 (0, 0)) (Bz BK646) hb); replace BK647 := Aside0.mk (blk_below (g := gb647) (o := .cells #[.int .i64 0, .slice none 0 0] 31 (0, 0)) (Bz BK647) hb); replace HB := Aside0.mk (below_step (by exact Lz2 HB GE646 GE647) hb); (try clear hb); (try clear hb2); (try clear hk); (try clear hi)))
  go_meet
  case rel => exact ⟨_, (true), eqA, H', ⟨by first | omega | exact Nat.le_refl _⟩, ⟨by exact Bz BK646⟩, ⟨by exact Bz BK647⟩, ⟨by exact Lz2 HB GE646 GE647⟩⟩
 case rest =>
  clear HC4
  try clear c8
  try clear c10
  try clear c12
  try clear c13
  try clear c13b0
  try clear c13b1
  obtain ⟨kq, x42_3, rfl, HA, HJ3, BK646, BK647, HB⟩ := hcut
  cases kq with
  | zero => exact absurd HA.out (by simp [spec_AddEdge.j0])
  | succ kj3 =>
   have H := HA.out
   clear HA
   simp only [spec_AddEdge.j0] at H
   by_cases c33 : x42_3 = true
   ·subst c33
    have H1 : (some (0, ([] : List (S67)), false)) = some (r1, r2, r3) := by rw [if_pos rfl] at H; exact H
    clear H
    have H := H1
    clear H1
    simp only [Option.some.injEq, Prod.mk.injEq] at H
    obtain ⟨rfl, rfl, rfl⟩ := H
    have hnb34 := NB647_646.out
    have hnc34 := NB646_647.out
    have hcz35_0 : wc.cell? ⟨gb647, 0, none⟩ = some (.int .i64 0) := (blk_cell BK647.out 0).trans rfl
    have hcz35_1 : wc.cell? ⟨gb647, 1, none⟩ = some (.slice none 0 0) := (blk_cell BK647.out 1).trans rfl
    have hfz35_0 := blk_frozen BK647.out 0
    have hfz35_1 := blk_frozen BK647.out 1
    go_wp2
    refine bodyPost_ret (results_ct rfl _ _ gb647 31 #[.int .i64 0, .slice none 0 0] (0, 0) _ rfl (by (with_reducible repeat (first | refine blk_drewN ?_ _ | refine blk_drew ?_ | refine blk_alloc ?_ _)); refine blk_put (cs := #[.int .i64 0, .slice none 0 0]) ?_ 1 _ rfl; (with_reducible repeat (first | refine blk_drewN ?_ _ | refine blk_drew ?_ | refine blk_alloc ?_ _)); refine blk_put (cs := #[.int .i64 0, .slice none 0 0]) ?_ 0 _ rfl; exact Bz BK647) Try.underlying31 rfl (by kernel_rfl)) rfl ?_
    exact ⟨_, by first | rfl | (simp [errW_none, errW_some] <;> rfl) | (simp [*, errW_none, errW_some] <;> rfl), by first | exact Kd.R_nil _ _ _ _ _ | exact Kd.N_nil _ _ _ _ _ | exact Kd.V_nil _ _ _ _ _ | exact Kd.Q_nil _ _ _ _ _ | exact Kd.S_nil _ _ _ _ _, by exact Lz2 HB GE646 GE647⟩
   replace c33 := Bool.eq_false_iff.mpr c33
   subst c33
   have H1 : (spec_AddEdge.l0 kj3 false l0_1 (l0_1.length : Int) 0 (mn a1 a2) (mx a1 a2) a0_0 ([] : List (S67))) = some (r1, r2, r3) := by rw [if_neg (show ¬ (false = true) by decide)] at H; exact H
   clear H
   have H := H1
   clear H1
   obtain ⟨ji36, hji36⟩ : ∃ j_ : Int, (mn a1 a2) = j_ := ⟨_, rfl⟩
   replace H : (spec_AddEdge.l0 kj3 false l0_1 (l0_1.length : Int) 0 ji36 (mx a1 a2) a0_0 ([] : List (S67))) = some (r1, r2, r3) := by first | (rw [hji36] at H; exact H) | (simp only [hji36] at H ⊢; exact H)
   have hji36_ : (if a2 < a1 then a2 else a1) = ji36 := hji36
   obtain ⟨ji37, hji37⟩ : ∃ j_ : Int, (mx a1 a2) = j_ := ⟨_, rfl⟩
   replace H : (spec_AddEdge.l0 kj3 false l0_1 (l0_1.length : Int) 0 ji36 ji37 a0_0 ([] : List (S67))) = some (r1, r2, r3) := by first | (rw [hji37] at H; exact H) | (simp only [hji37] at H ⊢; exact H)
   have hji37_ : (if a1 < a2 then a2 else a1) = ji37 := hji37
   have H' := Aside0.mk H
   clear H
   go_wp2_with (first | ((with_reducible refine gate_dst (N := 8) rfl ?_); (try (refine gate_guard (by rfl) ?_; dsimp only)); refine box_event ?hg (N := 8) ?hd (cs := #[.int .i64 0, .int .i64 0]) (t := 67) ?hr ?_; (case hd => rfl); (case hg => rfl); (case hr => first | (go_simp; done) | (go_simp; rfl)); intro gb651 hg w38 hbox hb; have BK651 := Aside0.mk (hbox); have GW651 := Aside0.mk ((by rw [hg]; exact (below_size (by exact Lz2 HB GE646 GE647)) : w.heap.size ≤ gb651)); have GE651 := Aside0.mk ((by rw [hg]; exact (below_size (by exact Lz2 HB GE646 GE647)) : w.heap.size ≤ gb651)); replace HB := Aside0.mk (below_step (by exact Lz2 HB GE646 GE647) hb); have NB646_651 := Aside0.mk ((by rw [hg]; exact Nat.ne_of_lt (blk_lt (g := gb646) (o := .cells #[.int .i64 a0_0, .slice A0_1 l0_1.length c0_1] 31 (0, 0)) (Bz BK646)) : gb646 ≠ gb651)); have NB651_646 := Aside0.mk ((by rw [hg]; exact Nat.ne_of_gt (blk_lt (g := gb646) (o := .cells #[.int .i64 a0_0, .slice A0_1 l0_1.length c0_1] 31 (0, 0)) (Bz BK646)) : gb651 ≠ gb646)); replace BK646 := Aside0.mk (blk_below (g := gb646) (o := .cells #[.int .i64 a0_0, .slice A0_1 l0_1.length c0_1] 31 (0, 0)) (Bz BK646) hb); have NB647_651 := Aside0.mk ((by rw [hg]; exact Nat.ne_of_lt (blk_lt (g := gb647) (o := .cells #[.int .i64 0, .slice none 0 0] 31 (0, 0)) (Bz BK647)) : gb647 ≠ gb651)); have NB651_647 := Aside0.mk ((by rw [hg]; exact Nat.ne_of_gt (blk_lt (g := gb647) (o := .cells #[.int .i64 0, .slice none 0 0] 31 (0, 0)) (Bz BK647)) : gb651 ≠ gb647)); replace BK647 := Aside0.mk (blk_below (g := gb647) (o := .cells #[.int .i64 0, .slice none 0 0] 31 (0, 0)) (Bz BK647) hb); clear hb hbox hg; have hnb39 := NB651_646.out; have hnc39 := NB646_651.out; have hnb40 := NB651_647.out; have hnc40 := NB647_651.out; have hcz41_0 : w38.cell? ⟨gb651, 0, none⟩ = some (.int .i64 0) := (blk_cell BK651.out 0).trans rfl; have hcz41_1 : w38.cell? ⟨gb651, 1, none⟩ = some (.int .i64 0) := (blk_cell BK651.out 1).trans rfl; have hfz41_0 := blk_frozen BK651.out 0; have hfz41_1 := blk_frozen BK651.out 1; have hnb42 := NB646_647.out; have hnc42 := NB647_646.out; have hcz43_0 : w38.cell? ⟨gb646, 0, none⟩ = some (.int .i64 a0_0) := (blk_cell BK646.out 0).trans rfl; have hcz43_1 : w38.cell? ⟨gb646, 1, none⟩ = some (.slice A0_1 l0_1.length c0_1) := (blk_cell BK646.out 1).trans rfl; have hfz43_0 := blk_frozen BK646.out 0; have hfz43_1 := blk_frozen BK646.out 1) | ((with_reducible refine gate_dst (N := 9) rfl ?_); (try (refine gate_guard (by rfl) ?_; dsimp only)); refine box_event ?hg (N := 9) ?hd (cs := #[.int .i64 0, .slice none 0 0]) (t := 31) ?hr ?_; (case hd => rfl); (case hg => rfl); (case hr => first | (go_simp; done) | (go_simp; rfl)); intro gb652 hg w44 hbox hb; have BK652 := Aside0.mk (hbox); have GW652 := Aside0.mk ((by rw [hg]; exact (below_size (by exact Lz3 HB GE646 GE647 GE651)) : w.heap.size ≤ gb652)); have GE652 := Aside0.mk ((by rw [hg]; exact (below_size (by exact Lz3 HB GE646 GE647 GE651)) : w.heap.size ≤ gb652)); replace HB := Aside0.mk (below_step (by exact Lz3 HB GE646 GE647 GE651) hb); have NB646_652 := Aside0.mk ((by rw [hg]; exact Nat.ne_of_lt (blk_lt (g := gb646) (o := .cells #[.int .i64 a0_0, .slice A0_1 l0_1.length c0_1] 31 (0, 0)) (by (with_reducible repeat (first | refine blk_drewN ?_ _ | refine blk_drew ?_ | refine blk_alloc ?_ _)); refine blk_far ?_ NB646_651.out _; (with_reducible repeat (first | refine blk_drewN ?_ _ | refine blk_drew ?_ | refine blk_alloc ?_ _)); refine blk_far ?_ NB646_651.out _; exact Bz BK646)) : gb646 ≠ gb652)); have NB652_646 := Aside0.mk ((by rw [hg]; exact Nat.ne_of_gt (blk_lt (g := gb646) (o := .cells #[.int .i64 a0_0, .slice A0_1 l0_1.length c0_1] 31 (0, 0)) (by (with_reducible repeat (first | refine blk_drewN ?_ _ | refine blk_drew ?_ | refine blk_alloc ?_ _)); refine blk_far ?_ NB646_651.out _; (with_reducible repeat (first | refine blk_drewN ?_ _ | refine blk_drew ?_ | refine blk_alloc ?_ _)); refine blk_far ?_ NB646_651.out _; exact Bz BK646)) : gb652 ≠ gb646)); replace BK646 := Aside0.mk (blk_below (g := gb646) (o := .cells #[.int .i64 a0_0, .slice A0_1 l0_1.length c0_1] 31 (0, 0)) (by (with_reducible repeat (first | refine blk_drewN ?_ _ | refine blk_drew ?_ | refine blk_alloc ?_ _)); refine blk_far ?_ NB646_651.out _; (with_reducible repeat (first | refine blk_drewN ?_ _ | refine blk_drew ?_ | refine blk_alloc ?_ _)); refine blk_far ?_ NB646_651.out _; exact Bz BK646) hb); have NB647_652 := Aside0.mk ((by rw [hg]; exact Nat.ne_of_lt (blk_lt (g := gb647) (o := .cells #[.int .i64 0, .slice none 0 0] 31 (0, 0)) (by (with_reducible repeat (first | refine blk_drewN ?_ _ | refine blk_drew ?_ | refine blk_alloc ?_ _)); refine blk_far ?_ NB647_651.out _; (with_reducible repeat (first | refine blk_drewN ?_ _ | refine blk_drew ?_ | refine blk_alloc ?_ _)); refine blk_far ?_ NB647_651.out _; exact Bz BK647)) : gb647 ≠ gb652)); have NB652_647 := Aside0.mk ((by rw [hg]; exact Nat.ne_of_gt (blk_lt (g := gb647) (o := .cells #[.int .i64 0, .slice none 0 0] 31 (0, 0)) (by (with_reducible repeat (first | refine blk_drewN ?_ _ | refine blk_drew ?_ | refine blk_alloc ?_ _)); refine blk_far ?_ NB647_651.out _; (with_reducible repeat (first | refine blk_drewN ?_ _ | refine blk_drew ?_ | refine blk_alloc ?_ _)); refine blk_far ?_ NB647_651.out _; exact Bz BK647)) : gb652 ≠ gb647)); replace BK647 := Aside0.mk (blk_below (g := gb647) (o := .cells #[.int .i64 0, .slice none 0 0] 31 (0, 0)) (by (with_reducible repeat (first | refine blk_drewN ?_ _ | refine blk_drew ?_ | refine blk_alloc ?_ _)); refine blk_far ?_ NB647_651.out _; (with_reducible repeat (first | refine blk_drewN ?_ _ | refine blk_drew ?_ | refine blk_alloc ?_ _)); refine blk_far ?_ NB647_651.out _; exact Bz BK647) hb); have NB651_652 := Aside0.mk ((by rw [hg]; exact Nat.ne_of_lt (blk_lt (g := gb651) (o := .cells #[.int .i64 ji36, .int .i64 ji37] 67 (0, 0)) (by (with_reducible repeat (first | refine blk_drewN ?_ _ | refine blk_drew ?_ | refine blk_alloc ?_ _)); refine blk_put (cs := #[.int .i64 ji36, .int .i64 0]) ?_ 1 _ rfl; (with_reducible repeat (first | refine blk_drewN ?_ _ | refine blk_drew ?_ | refine blk_alloc ?_ _)); refine blk_put (cs := #[.int .i64 0, .int .i64 0]) ?_ 0 _ rfl; exact Bz BK651)) : gb651 ≠ gb652)); have NB652_651 := Aside0.mk ((by rw [hg]; exact Nat.ne_of_gt (blk_lt (g := gb651) (o := .cells #[.int .i64 ji36, .int .i64 ji37] 67 (0, 0)) (by (with_reducible repeat (first | refine blk_drewN ?_ _ | refine blk_drew ?_ | refine blk_alloc ?_ _)); refine blk_put (cs := #[.int .i64 ji36, .int .i64 0]) ?_ 1 _ rfl; (with_reducible repeat (first | refine blk_drewN ?_ _ | refine blk_drew ?_ | refine blk_alloc ?_ _)); refine blk_put (cs := #[.int .i64 0, .int .i64 0]) ?_ 0 _ rfl; exact Bz BK651)) : gb652 ≠ gb651)); replace BK651 := Aside0.mk (blk_below (g := gb651) (o := .cells #[.int .i64 ji36, .int .i64 ji37] 67 (0, 0)) (by (with_reducible repeat (first | refine blk_drewN ?_ _ | refine blk_drew ?_ | refine blk_alloc ?_ _)); refine blk_put (cs := #[.int .i64 ji36, .int .i64 0]) ?_ 1 _ rfl; (with_reducible repeat (first | refine blk_drewN ?_ _ | refine blk_drew ?_ | refine blk_alloc ?_ _)); refine blk_put (cs := #[.int .i64 0, .int .i64 0]) ?_ 0 _ rfl; exact Bz BK651) hb); clear hb hbox hg; have hnb45 := NB652_646.out; have hnc45 := NB646_652.out; have hnb46 := NB652_647.out; have hnc46 := NB647_652.out; have hnb47 := NB652_651.out; have hnc47 := NB651_652.out; have hcz48_0 : w44.cell? ⟨gb652, 0, none⟩ = some (.int .i64 0) := (blk_cell BK652.out 0).trans rfl; have hcz48_1 : w44.cell? ⟨gb652, 1, none⟩ = some (.slice none 0 0) := (blk_cell BK652.out 1).trans rfl; have hfz48_0 := blk_frozen BK652.out 0; have hfz48_1 := blk_frozen BK652.out 1; have hcz49_0 : w44.cell? ⟨gb646, 0, none⟩ = some (.int .i64 a0_0) := (blk_cell BK646.out 0).trans rfl; have hcz49_1 : w44.cell? ⟨gb646, 1, none⟩ = some (.slice A0_1 l0_1.length c0_1) := (blk_cell BK646.out 1).trans rfl; have hfz49_0 := blk_frozen BK646.out 0; have hfz49_1 := blk_frozen BK646.out 1))
   go_loopg [10, 57] kj3 (fun kq v10 v57 w' => ∃ (x10_2 : Bool) (x57_2 : Int) (x653001_2 : List (S67)) (u653001 : Value), v10 = .bool x10_2 ∧ v57 = .int .i64 x57_2 ∧ Aside0 (spec_AddEdge.l0 kq x10_2 l0_1 (l0_1.length : Int) x57_2 ji36 ji37 a0_0 x653001_2 = some (r1, r2, r3)) ∧ Aside0 (kq ≤ kj3) ∧ Aside0 (Kd.R k67 67 w' w.heap.size (fun k_ => k_ ≠ gb651) u653001 x653001_2) ∧ Aside0 (w'.heap[gb646]? = some (.cells #[.int .i64 a0_0, (.slice A0_1 l0_1.length c0_1)] 31 (0, 0))) ∧ Aside0 (w'.heap[gb647]? = some (.cells #[.int .i64 0, (.slice none 0 0)] 31 (0, 0))) ∧ Aside0 (w'.heap[gb651]? = some (.cells #[.int .i64 ji36, .int .i64 ji37] 67 (0, 0))) ∧ Aside0 (w'.heap[gb652]? = some (.cells #[.int .i64 a0_0, u653001] 31 (0, 0))) ∧ Aside0 (Below w.heap.size w w'))
   case atStart => exact ⟨(false), (0), (([] : List (S67))), (.slice none 0 0), eqA, eqA, H', ⟨Nat.le_refl _⟩, ⟨by first | exact Kd.R_nil _ _ _ _ _ | exact Kd.N_nil _ _ _ _ _ | exact Kd.V_nil _ _ _ _ _ | exact Kd.Q_nil _ _ _ _ _ | exact Kd.S_nil _ _ _ _ _⟩, ⟨by (with_reducible repeat (first | refine blk_drewN ?_ _ | refine blk_drew ?_ | refine blk_alloc ?_ _)); refine blk_far ?_ NB646_652.out _; (with_reducible repeat (first | refine blk_drewN ?_ _ | refine blk_drew ?_ | refine blk_alloc ?_ _)); refine blk_far ?_ NB646_652.out _; exact Bz BK646⟩, ⟨by (with_reducible repeat (first | refine blk_drewN ?_ _ | refine blk_drew ?_ | refine blk_alloc ?_ _)); refine blk_far ?_ NB647_652.out _; (with_reducible repeat (first | refine blk_drewN ?_ _ | refine blk_drew ?_ | refine blk_alloc ?_ _)); refine blk_far ?_ NB647_652.out _; exact Bz BK647⟩, ⟨by (with_reducible repeat (first | refine blk_drewN ?_ _ | refine blk_drew ?_ | refine blk_alloc ?_ _)); refine blk_far ?_ NB651_652.out _; (with_reducible repeat (first | refine blk_drewN ?_ _ | refine blk_drew ?_ | refine blk_alloc ?_ _)); refine blk_far ?_ NB651_652.out _; exact Bz BK651⟩, ⟨by (with_reducible repeat (first | refine blk_drewN ?_ _ | refine blk_drew ?_ | refine blk_alloc ?_ _)); refine blk_put (cs := #[.int .i64 a0_0, .slice none 0 0]) ?_ 1 _ rfl; (with_reducible repeat (first | refine blk_drewN ?_ _ | refine blk_drew ?_ | refine blk_alloc ?_ _)); refine blk_put (cs := #[.int .i64 0, .slice none 0 0]) ?_ 0 _ rfl; exact Bz BK652⟩, ⟨by first | exact Lz HB | repeat (first | (with_reducible first | exact HB.out | apply below_alloc | apply pw_below_drewN | apply below_drew1 | refine below_set ?_ GE646.out | refine below_set ?_ GE647.out | refine below_set ?_ GE651.out | refine below_set ?_ GE652.out) | exact HB.out)⟩⟩
   case round =>
    clear H'
    try clear c8
    try clear c10
    try clear c12
    try clear c13
    try clear c13b0
    try clear c13b1
    try clear c33
    obtain ⟨x10_2, x57_2, x653001_2, u653001, rfl, rfl, HA, HK2, HO_653001, BK646, BK647, BK651, BK652, HB⟩ := hrel
    cases gk with
    | zero => exact absurd HA.out (by simp [spec_AddEdge.l0])
    | succ k2 =>
     have H := HA.out
     clear HA
     simp only [spec_AddEdge.l0] at H
     by_cases c50 : x57_2 < (l0_1.length : Int)
     ·rw [if_pos c50] at H
      have c50b0 : decide (x57_2 < (l0_1.length : Int)) = true := decide_eq_true c50
      clear c50
      by_cases c51 : 0 ≤ x57_2
      ·rw [if_pos c51] at H
       have c51b0 : decide (0 ≤ x57_2) = true := decide_eq_true c51
       clear c51
       by_cases c52 : x57_2 < (l0_1.length : Int)
       ·rw [if_pos c52] at H
        have c52b0 : decide (x57_2 < (l0_1.length : Int)) = true := decide_eq_true c52
        clear c52
        have HC53 := Aside0.mk H
        clear H
        have p653 : 0 ≤ (x57_2 : Int) := ofA
        have q653 : x57_2 < (l0_1.length : Int) := ofA
        obtain ⟨ad653, e653, hx653_0, hx653_1⟩ := at_T67 HR0_1.out x57_2 p653 q653
        cases e653
        replace hx653_0 := (HB.out.cell (World.block_lt_of_cell? w _ hx653_0)).trans hx653_0
        replace hx653_1 := (HB.out.cell (World.block_lt_of_cell? w _ hx653_1)).trans hx653_1
        replace p653 := eq_true p653
        replace q653 := eq_true q653
        go_upto_region 9 with (first | ((with_reducible refine gate_dst (N := 12) rfl ?_); (try (refine gate_guard (by rfl) ?_; dsimp only)); refine box_event ?hg (N := 12) ?hd (cs := #[.int .i64 0, .int .i64 0]) (t := 67) ?hr ?_; (case hd => rfl); (case hg => rfl); (case hr => first | (go_simp; done) | (go_simp; rfl)); intro gb654 hg w54 hbox hb; replace HO_653001 := Aside0.mk (Kd.R_below (Kd.R_elderB (Rz HO_653001) gb654 (Nat.le_of_eq hg.symm)) hb); have BK654 := Aside0.mk (hbox); have GW654 := Aside0.mk ((by rw [hg]; exact (below_size (by first | exact Lz HB | repeat (first | (with_reducible first | exact HB.out | apply below_alloc | apply pw_below_drewN | apply below_drew1 | refine below_set ?_ GE646.out | refine below_set ?_ GE647.out | refine below_set ?_ GE651.out | refine below_set ?_ GE652.out) | exact HB.out))) : w.heap.size ≤ gb654)); have GE654 := Aside0.mk ((by rw [hg]; exact (below_size (by first | exact Lz HB | repeat (first | (with_reducible first | exact HB.out | apply below_alloc | apply pw_below_drewN | apply below_drew1 | refine below_set ?_ GE646.out | refine below_set ?_ GE647.out | refine below_set ?_ GE651.out | refine below_set ?_ GE652.out) | exact HB.out))) : w.heap.size ≤ gb654)); replace HB := Aside0.mk (below_step (by first | exact Lz HB | repeat (first | (with_reducible first | exact HB.out | apply below_alloc | apply pw_below_drewN | apply below_drew1 | refine below_set ?_ GE646.out | refine below_set ?_ GE647.out | refine below_set ?_ GE651.out | refine below_set ?_ GE652.out) | exact HB.out)) hb); have NB646_654 := Aside0.mk ((by rw [hg]; exact Nat.ne_of_lt (blk_lt (g := gb646) (o := .cells #[.int .i64 a0_0, .slice (some ad653) l0_1.length c0_1] 31 (0, 0)) (Bz BK646)) : gb646 ≠ gb654)); have NB654_646 := Aside0.mk ((by rw [hg]; exact Nat.ne_of_gt (blk_lt (g := gb646) (o := .cells #[.int .i64 a0_0, .slice (some ad653) l0_1.length c0_1] 31 (0, 0)) (Bz BK646)) : gb654 ≠ gb646)); replace BK646 := Aside0.mk (blk_below (g := gb646) (o := .cells #[.int .i64 a0_0, .slice (some ad653) l0_1.length c0_1] 31 (0, 0)) (Bz BK646) hb); have NB647_654 := Aside0.mk ((by rw [hg]; exact Nat.ne_of_lt (blk_lt (g := gb647) (o := .cells #[.int .i64 0, .slice none 0 0] 31 (0, 0)) (Bz BK647)) : gb647 ≠ gb654)); have NB654_647 := Aside0.mk ((by rw [hg]; exact Nat.ne_of_gt (blk_lt (g := gb647) (o := .cells #[.int .i64 0, .slice none 0 0] 31 (0, 0)) (Bz BK647)) : gb654 ≠ gb647)); replace BK647 := Aside0.mk (blk_below (g := gb647) (o := .cells #[.int .i64 0, .slice none 0 0] 31 (0, 0)) (Bz BK647) hb); have NB651_654 := Aside0.mk ((by rw [hg]; exact Nat.ne_of_lt (blk_lt (g := gb651) (o := .cells #[.int .i64 ji36, .int .i64 ji37] 67 (0, 0)) (Bz BK651)) : gb651 ≠ gb654)); have NB654_651 := Aside0.mk ((by rw [hg]; exact Nat.ne_of_gt (blk_lt (g := gb651) (o := .cells #[.int .i64 ji36, .int .i64 ji37] 67 (0, 0)) (Bz BK651)) : gb654 ≠ gb651)); replace BK651 := Aside0.mk (blk_below (g := gb651) (o := .cells #[.int .i64 ji36, .int .i64 ji37] 67 (0, 0)) (Bz BK651) hb); have NB652_654 := Aside0.mk ((by rw [hg]; exact Nat.ne_of_lt (blk_lt (g := gb652) (o := .cells #[.int .i64 a0_0, u653001] 31 (0, 0)) (Bz BK652)) : gb652 ≠ gb654)); have NB654_652 := Aside0.mk ((by rw [hg]; exact Nat.ne_of_gt (blk_lt (g := gb652) (o := .cells #[.int .i64 a0_0, u653001] 31 (0, 0)) (Bz BK652)) : gb654 ≠ gb652)); replace BK652 := Aside0.mk (blk_below (g := gb652) (o := .cells #[.int .i64 a0_0, u653001] 31 (0, 0)) (Bz BK652) hb); clear hb hbox hg; have hnb55 := NB654_646.out; have hnc55 := NB646_654.out; have hnb56 := NB654_647.out; have hnc56 := NB647_654.out; have hnb57 := NB654_651.out; have hnc57 := NB651_654.out; have hnb58 := NB654_652.out; have hnc58 := NB652_654.out; have hcz59_0 : w54.cell? ⟨gb654, 0, none⟩ = some (.int .i64 0) := (blk_cell BK654.out 0).trans rfl; have hcz59_1 : w54.cell? ⟨gb654, 1, none⟩ = some (.int .i64 0) := (blk_cell BK654.out 1).trans rfl; have hfz59_0 := blk_frozen BK654.out 0; have hfz59_1 := blk_frozen BK654.out 1))
        (try simp only [Act.put, List.setIfInBounds_toArray, List.set_cons_zero, List.set_cons_succ])
        go_cut [83] (fun v83 wc => ∃ (kq : Nat) (x83_52 : Bool), v83 = .bool x83_52 ∧ Aside0 (spec_AddEdge.j2 kq x10_2 l0_1 (l0_1.length : Int) x57_2 x83_52 ji36 ji37 a0_0 x653001_2 ((rd_T67 l0_1 x57_2).f0) ((rd_T67 l0_1 x57_2).f1) = some (r1, r2, r3)) ∧ Aside0 (kq ≤ k2) ∧ Aside0 (Kd.R k67 67 wc w.heap.size (fun k_ => k_ ≠ gb651 ∧ k_ ≠ gb654) u653001 x653001_2) ∧ Aside0 (wc.heap[gb646]? = some (.cells #[.int .i64 a0_0, (.slice (some ad653) l0_1.length c0_1)] 31 (0, 0))) ∧ Aside0 (wc.heap[gb647]? = some (.cells #[.int .i64 0, (.slice none 0 0)] 31 (0, 0))) ∧ Aside0 (wc.heap[gb651]? = some (.cells #[.int .i64 ji36, .int .i64 ji37] 67 (0, 0))) ∧ Aside0 (wc.heap[gb652]? = some (.cells #[.int .i64 a0_0, u653001] 31 (0, 0))) ∧ Aside0 (wc.heap[gb654]? = some (.cells #[.int .i64 ((rd_T67 l0_1 x57_2).f0), .int .i64 ((rd_T67 l0_1 x57_2).f1)] 67 (0, 0))) ∧ Aside0 (Below w.heap.size w wc))
        case first =>
         have H := HC53.out
         clear HC53
         by_cases c60 : x10_2 = true
         ·subst c60
          have H1 : (spec_AddEdge.j2 k2 true l0_1 (l0_1.length : Int) x57_2 false ji36 ji37 a0_0 x653001_2 ((rd_T67 l0_1 x57_2).f0) ((rd_T67 l0_1 x57_2).f1)) = some (r1, r2, r3) := by rw [if_pos rfl] at H; exact H
          clear H
          have H := H1
          clear H1
          have H' := Aside0.mk H
          clear H
          go_wp2
          go_meet
          case rel => exact ⟨_, (false), eqA, H', ⟨by have := HJ3.out; have := HK2.out; first | omega | exact Nat.le_refl _⟩, ⟨by (with_reducible repeat (first | apply Kd.R_alloc | apply Kd.R_drewN | apply Kd.R_drew)); exact Kd.R_mono (Kd.R_far (p := ⟨gb654, 1, none⟩) (Kd.R_far (p := ⟨gb654, 0, none⟩) (Kd.R_mono HO_653001.out (fun k_ hk => (⟨hk, hk.2⟩ : _ ∧ k_ ≠ gb654))) (fun _ hk => hk.2) (.int .i64 ((rd_T67 l0_1 x57_2).f0))) (fun _ hk => hk.2) (.int .i64 ((rd_T67 l0_1 x57_2).f1))) (fun _ hk => ⟨hk.1.1, hk.1.2⟩)⟩, ⟨by (with_reducible repeat (first | refine blk_drewN ?_ _ | refine blk_drew ?_ | refine blk_alloc ?_ _)); refine blk_far ?_ NB646_654.out _; (with_reducible repeat (first | refine blk_drewN ?_ _ | refine blk_drew ?_ | refine blk_alloc ?_ _)); refine blk_far ?_ NB646_654.out _; exact Bz BK646⟩, ⟨by (with_reducible repeat (first | refine blk_drewN ?_ _ | refine blk_drew ?_ | refine blk_alloc ?_ _)); refine blk_far ?_ NB647_654.out _; (with_reducible repeat (first | refine blk_drewN ?_ _ | refine blk_drew ?_ | refine blk_alloc ?_ _)); refine blk_far ?_ NB647_654.out _; exact Bz BK647⟩, ⟨by (with_reducible repeat (first | refine blk_drewN ?_ _ | refine blk_drew ?_ | refine blk_alloc ?_ _)); refine blk_far ?_ NB651_654.out _; (with_reducible repeat (first | refine blk_drewN ?_ _ | refine blk_drew ?_ | refine blk_alloc ?_ _)); refine blk_far ?_ NB651_654.out _; exact Bz BK651⟩, ⟨by (with_reducible repeat (first | refine blk_drewN ?_ _ | refine blk_drew ?_ | refine blk_alloc ?_ _)); refine blk_far ?_ NB652_654.out _; (with_reducible repeat (first | refine blk_drewN ?_ _ | refine blk_drew ?_ | refine blk_alloc ?_ _)); refine blk_far ?_ NB652_654.out _; exact Bz BK652⟩, ⟨by (with_reducible repeat (first | refine blk_drewN ?_ _ | refine blk_drew ?_ | refine blk_alloc ?_ _)); refine blk_put (cs := #[.int .i64 ((rd_T67 l0_1 x57_2).f0), .int .i64 0]) ?_ 1 _ rfl; (with_reducible repeat (first | refine blk_drewN ?_ _ | refine blk_drew ?_ | refine blk_alloc ?_ _)); refine blk_put (cs := #[.int .i64 0, .int .i64 0]) ?_ 0 _ rfl; exact Bz BK654⟩, ⟨by first | exact Lz HB | repeat (first | (with_reducible first | exact HB.out | apply below_alloc | apply pw_below_drewN | apply below_drew1 | refine below_set ?_ GE646.out | refine below_set ?_ GE647.out | refine below_set ?_ GE651.out | refine below_set ?_ GE652.out | refine below_set ?_ GE654.out) | exact HB.out)⟩⟩
         replace c60 := Bool.eq_false_iff.mpr c60
         subst c60
         have H1 : (if ((rd_T67 l0_1 x57_2).f0) > ji36 then (spec_AddEdge.j2 k2 false l0_1 (l0_1.length : Int) x57_2 true ji36 ji37 a0_0 x653001_2 ((rd_T67 l0_1 x57_2).f0) ((rd_T67 l0_1 x57_2).f1)) else (if ((rd_T67 l0_1 x57_2).f0) = ji36 then (spec_AddEdge.j2 k2 false l0_1 (l0_1.length : Int) x57_2 (decide (((rd_T67 l0_1 x57_2).f1) > ji37)) ji36 ji37 a0_0 x653001_2 ((rd_T67 l0_1 x57_2).f0) ((rd_T67 l0_1 x57_2).f1)) else (spec_AddEdge.j2 k2 false l0_1 (l0_1.length : Int) x57_2 false ji36 ji37 a0_0 x653001_2 ((rd_T67 l0_1 x57_2).f0) ((rd_T67 l0_1 x57_2).f1)))) = some (r1, r2, r3) := by rw [if_neg (show ¬ (false = true) by decide)] at H; exact H
         clear H
         have H := H1
         clear H1
         by_cases c61 : ((rd_T67 l0_1 x57_2).f0) > ji36
         ·rw [if_pos c61] at H
          have c61b0 : decide (ji36 < ((rd_T67 l0_1 x57_2).f0)) = true := decide_eq_true c61
          clear c61
          (first | rw [c61b0] | (simp only [i64_w, i32_w]; rw [c61b0]) | skip)
          have H' := Aside0.mk H
          clear H
          have hnb62 := NB654_646.out
          have hnc62 := NB646_654.out
          have hnb63 := NB654_647.out
          have hnc63 := NB647_654.out
          have hnb64 := NB654_651.out
          have hnc64 := NB651_654.out
          have hnb65 := NB654_652.out
          have hnc65 := NB652_654.out
          have hcz66_0 : w54.cell? ⟨gb654, 0, none⟩ = some (.int .i64 0) := (blk_cell BK654.out 0).trans rfl
          have hcz66_1 : w54.cell? ⟨gb654, 1, none⟩ = some (.int .i64 0) := (blk_cell BK654.out 1).trans rfl
          have hfz66_0 := blk_frozen BK654.out 0
          have hfz66_1 := blk_frozen BK654.out 1
          have hnb67 := NB651_646.out
          have hnc67 := NB646_651.out
          have hnb68 := NB651_647.out
          have hnc68 := NB647_651.out
          have hnb69 := NB651_652.out
          have hnc69 := NB652_651.out
          have hcz70_0 : w54.cell? ⟨gb651, 0, none⟩ = some (.int .i64 ji36) := (blk_cell BK651.out 0).trans rfl
          have hcz70_1 : w54.cell? ⟨gb651, 1, none⟩ = some (.int .i64 ji37) := (blk_cell BK651.out 1).trans rfl
          have hfz70_0 := blk_frozen BK651.out 0
          have hfz70_1 := blk_frozen BK651.out 1
          go_wp2
          go_meet
          case rel => exact ⟨_, (true), eqA, H', ⟨by have := HJ3.out; have := HK2.out; first | omega | exact Nat.le_refl _⟩, ⟨by (with_reducible repeat (first | apply Kd.R_alloc | apply Kd.R_drewN | apply Kd.R_drew)); exact Kd.R_mono (Kd.R_far (p := ⟨gb654, 1, none⟩) (Kd.R_far (p := ⟨gb654, 0, none⟩) (Kd.R_mono HO_653001.out (fun k_ hk => (⟨hk, hk.2⟩ : _ ∧ k_ ≠ gb654))) (fun _ hk => hk.2) (.int .i64 ((rd_T67 l0_1 x57_2).f0))) (fun _ hk => hk.2) (.int .i64 ((rd_T67 l0_1 x57_2).f1))) (fun _ hk => ⟨hk.1.1, hk.1.2⟩)⟩, ⟨by (with_reducible repeat (first | refine blk_drewN ?_ _ | refine blk_drew ?_ | refine blk_alloc ?_ _)); refine blk_far ?_ NB646_654.out _; (with_reducible repeat (first | refine blk_drewN ?_ _ | refine blk_drew ?_ | refine blk_alloc ?_ _)); refine blk_far ?_ NB646_654.out _; exact Bz BK646⟩, ⟨by (with_reducible repeat (first | refine blk_drewN ?_ _ | refine blk_drew ?_ | refine blk_alloc ?_ _)); refine blk_far ?_ NB647_654.out _; (with_reducible repeat (first | refine blk_drewN ?_ _ | refine blk_drew ?_ | refine blk_alloc ?_ _)); refine blk_far ?_ NB647_654.out _; exact Bz BK647⟩, ⟨by (with_reducible repeat (first | refine blk_drewN ?_ _ | refine blk_drew ?_ | refine blk_alloc ?_ _)); refine blk_far ?_ NB651_654.out _; (with_reducible repeat (first | refine blk_drewN ?_ _ | refine blk_drew ?_ | refine blk_alloc ?_ _)); refine blk_far ?_ NB651_654.out _; exact Bz BK651⟩, ⟨by (with_reducible repeat (first | refine blk_drewN ?_ _ | refine blk_drew ?_ | refine blk_alloc ?_ _)); refine blk_far ?_ NB652_654.out _; (with_reducible repeat (first | refine blk_drewN ?_ _ | refine blk_drew ?_ | refine blk_alloc ?_ _)); refine blk_far ?_ NB652_654.out _; exact Bz BK652⟩, ⟨by (with_reducible repeat (first | refine blk_drewN ?_ _ | refine blk_drew ?_ | refine blk_alloc ?_ _)); refine blk_put (cs := #[.int .i64 ((rd_T67 l0_1 x57_2).f0), .int .i64 0]) ?_ 1 _ rfl; (with_reducible repeat (first | refine blk_drewN ?_ _ | refine blk_drew ?_ | refine blk_alloc ?_ _)); refine blk_put (cs := #[.int .i64 0, .int .i64 0]) ?_ 0 _ rfl; exact Bz BK654⟩, ⟨by first | exact Lz HB | repeat (first | (with_reducible first | exact HB.out | apply below_alloc | apply pw_below_drewN | apply below_drew1 | refine below_set ?_ GE646.out | refine below_set ?_ GE647.out | refine below_set ?_ GE651.out | refine below_set ?_ GE652.out | refine below_set ?_ GE654.out) | exact HB.out)⟩⟩
         rw [if_neg c61] at H
         have c61b0 : decide (ji36 < ((rd_T67 l0_1 x57_2).f0)) = false := decide_eq_false c61
         clear c61
         (first | rw [c61b0] | (simp only [i64_w, i32_w]; rw [c61b0]) | skip)
         by_cases c71 : ((rd_T67 l0_1 x57_2).f0) = ji36
         ·rw [if_pos c71] at H
          have c71b0 : (((rd_T67 l0_1 x57_2).f0) == ji36) = true := beq_iff_eq.mpr c71
          have c71b1 : (((rd_T67 l0_1 x57_2).f0) != ji36) = false := bne_eq_false_iff_eq.mpr c71
          clear c71
          have H' := Aside0.mk H
          clear H
          have hnb72 := NB654_646.out
          have hnc72 := NB646_654.out
          have hnb73 := NB654_647.out
          have hnc73 := NB647_654.out
          have hnb74 := NB654_651.out
          have hnc74 := NB651_654.out
          have hnb75 := NB654_652.out
          have hnc75 := NB652_654.out
          have hcz76_0 : w54.cell? ⟨gb654, 0, none⟩ = some (.int .i64 0) := (blk_cell BK654.out 0).trans rfl
          have hcz76_1 : w54.cell? ⟨gb654, 1, none⟩ = some (.int .i64 0) := (blk_cell BK654.out 1).trans rfl
          have hfz76_0 := blk_frozen BK654.out 0
          have hfz76_1 := blk_frozen BK654.out 1
          have hnb77 := NB651_646.out
          have hnc77 := NB646_651.out
          have hnb78 := NB651_647.out
          have hnc78 := NB647_651.out
          have hnb79 := NB651_652.out
          have hnc79 := NB652_651.out
          have hcz80_0 : w54.cell? ⟨gb651, 0, none⟩ = some (.int .i64 ji36) := (blk_cell BK651.out 0).trans rfl
          have hcz80_1 : w54.cell? ⟨gb651, 1, none⟩ = some (.int .i64 ji37) := (blk_cell BK651.out 1).trans rfl
          have hfz80_0 := blk_frozen BK651.out 0
          have hfz80_1 := blk_frozen BK651.out 1
          go_wp2
          go_meet
          case rel => exact ⟨_, (decide (((rd_T67 l0_1 x57_2).f1) > ji37)), (by first | rfl | (simp; done) | (simp only [← hji37] <;> (first | rfl | simp)) | (simp [*]; done)), H', ⟨by have := HJ3.out; have := HK2.out; first | omega | exact Nat.le_refl _⟩, ⟨by (with_reducible repeat (first | apply Kd.R_alloc | apply Kd.R_drewN | apply Kd.R_drew)); exact Kd.R_mono (Kd.R_far (p := ⟨gb654, 1, none⟩) (Kd.R_far (p := ⟨gb654, 0, none⟩) (Kd.R_mono HO_653001.out (fun k_ hk => (⟨hk, hk.2⟩ : _ ∧ k_ ≠ gb654))) (fun _ hk => hk.2) (.int .i64 ((rd_T67 l0_1 x57_2).f0))) (fun _ hk => hk.2) (.int .i64 ((rd_T67 l0_1 x57_2).f1))) (fun _ hk => ⟨hk.1.1, hk.1.2⟩)⟩, ⟨by (with_reducible repeat (first | refine blk_drewN ?_ _ | refine blk_drew ?_ | refine blk_alloc ?_ _)); refine blk_far ?_ NB646_654.out _; (with_reducible repeat (first | refine blk_drewN ?_ _ | refine blk_drew ?_ | refine blk_alloc ?_ _)); refine blk_far ?_ NB646_654.out _; exact Bz BK646⟩, ⟨by (with_reducible repeat (first | refine blk_drewN ?_ _ | refine blk_drew ?_ | refine blk_alloc ?_ _)); refine blk_far ?_ NB647_654.out _; (with_reducible repeat (first | refine blk_drewN ?_ _ | refine blk_drew ?_ | refine blk_alloc ?_ _)); refine blk_far ?_ NB647_654.out _; exact Bz BK647⟩, ⟨by (with_reducible repeat (first | refine blk_drewN ?_ _ | refine blk_drew ?_ | refine blk_alloc ?_ _)); refine blk_far ?_ NB651_654.out _; (with_reducible repeat (first | refine blk_drewN ?_ _ | refine blk_drew ?_ | refine blk_alloc ?_ _)); refine blk_far ?_ NB651_654.out _; exact Bz BK651⟩, ⟨by (with_reducible repeat (first | refine blk_drewN ?_ _ | refine blk_drew ?_ | refine blk_alloc ?_ _)); refine blk_far ?_ NB652_654.out _; (with_reducible repeat (first | refine blk_drewN ?_ _ | refine blk_drew ?_ | refine blk_alloc ?_ _)); refine blk_far ?_ NB652_654.out _; exact Bz BK652⟩, ⟨by (with_reducible repeat (first | refine blk_drewN ?_ _ | refine blk_drew ?_ | refine blk_alloc ?_ _)); refine blk_put (cs := #[.int .i64 ((rd_T67 l0_1 x57_2).f0), .int .i64 0]) ?_ 1 _ rfl; (with_reducible repeat (first | refine blk_drewN ?_ _ | refine blk_drew ?_ | refine blk_alloc ?_ _)); refine blk_put (cs := #[.int .i64 0, .int .i64 0]) ?_ 0 _ rfl; exact Bz BK654⟩, ⟨by first | exact Lz HB | repeat (first | (with_reducible first | exact HB.out | apply below_alloc | apply pw_below_drewN | apply below_drew1 | refine below_set ?_ GE646.out | refine below_set ?_ GE647.out | refine below_set ?_ GE651.out | refine below_set ?_ GE652.out | refine below_set ?_ GE654.out) | exact HB.out)⟩⟩
         rw [if_neg c71] at H
         have c71b0 : (((rd_T67 l0_1 x57_2).f0) == ji36) = false := beq_eq_false_iff_ne.mpr c71
         have c71b1 : (((rd_T67 l0_1 x57_2).f0) != ji36) = true := bne_iff_ne.mpr c71
         have H' := Aside0.mk H
         clear H
         have hnb81 := NB654_646.out
         have hnc81 := NB646_654.out
         have hnb82 := NB654_647.out
         have hnc82 := NB647_654.out
         have hnb83 := NB654_651.out
         have hnc83 := NB651_654.out
         have hnb84 := NB654_652.out
         have hnc84 := NB652_654.out
         have hcz85_0 : w54.cell? ⟨gb654, 0, none⟩ = some (.int .i64 0) := (blk_cell BK654.out 0).trans rfl
         have hcz85_1 : w54.cell? ⟨gb654, 1, none⟩ = some (.int .i64 0) := (blk_cell BK654.out 1).trans rfl
         have hfz85_0 := blk_frozen BK654.out 0
         have hfz85_1 := blk_frozen BK654.out 1
         have hnb86 := NB651_646.out
         have hnc86 := NB646_651.out
         have hnb87 := NB651_647.out
         have hnc87 := NB647_651.out
         have hnb88 := NB651_652.out
         have hnc88 := NB652_651.out
         have hcz89_0 : w54.cell? ⟨gb651, 0, none⟩ = some (.int .i64 ji36) := (blk_cell BK651.out 0).trans rfl
         have hcz89_1 : w54.cell? ⟨gb651, 1, none⟩ = some (.int .i64 ji37) := (blk_cell BK651.out 1).trans rfl
         have hfz89_0 := blk_frozen BK651.out 0
         have hfz89_1 := blk_frozen BK651.out 1
         go_wp2
         go_meet
         case rel => exact ⟨_, (false), eqA, H', ⟨by have := HJ3.out; have := HK2.out; first | omega | exact Nat.le_refl _⟩, ⟨by (with_reducible repeat (first | apply Kd.R_alloc | apply Kd.R_drewN | apply Kd.R_drew)); exact Kd.R_mono (Kd.R_far (p := ⟨gb654, 1, none⟩) (Kd.R_far (p := ⟨gb654, 0, none⟩) (Kd.R_mono HO_653001.out (fun k_ hk => (⟨hk, hk.2⟩ : _ ∧ k_ ≠ gb654))) (fun _ hk => hk.2) (.int .i64 ((rd_T67 l0_1 x57_2).f0))) (fun _ hk => hk.2) (.int .i64 ((rd_T67 l0_1 x57_2).f1))) (fun _ hk => ⟨hk.1.1, hk.1.2⟩)⟩, ⟨by (with_reducible repeat (first | refine blk_drewN ?_ _ | refine blk_drew ?_ | refine blk_alloc ?_ _)); refine blk_far ?_ NB646_654.out _; (with_reducible repeat (first | refine blk_drewN ?_ _ | refine blk_drew ?_ | refine blk_alloc ?_ _)); refine blk_far ?_ NB646_654.out _; exact Bz BK646⟩, ⟨by (with_reducible repeat (first | refine blk_drewN ?_ _ | refine blk_drew ?_ | refine blk_alloc ?_ _)); refine blk_far ?_ NB647_654.out _; (with_reducible repeat (first | refine blk_drewN ?_ _ | refine blk_drew ?_ | refine blk_alloc ?_ _)); refine blk_far ?_ NB647_654.out _; exact Bz BK647⟩, ⟨by (with_reducible repeat (first | refine blk_drewN ?_ _ | refine blk_drew ?_ | refine blk_alloc ?_ _)); refine blk_far ?_ NB651_654.out _; (with_reducible repeat (first | refine blk_drewN ?_ _ | refine blk_drew ?_ | refine blk_alloc ?_ _)); refine blk_far ?_ NB651_654.out _; exact Bz BK651⟩, ⟨by (with_reducible repeat (first | refine blk_drewN ?_ _ | refine blk_drew ?_ | refine blk_alloc ?_ _)); refine blk_far ?_ NB652_654.out _; (with_reducible repeat (first | refine blk_drewN ?_ _ | refine blk_drew ?_ | refine blk_alloc ?_ _)); refine blk_far ?_ NB652_654.out _; exact Bz BK652⟩, ⟨by (with_reducible repeat (first | refine blk_drewN ?_ _ | refine blk_drew ?_ | refine blk_alloc ?_ _)); refine blk_put (cs := #[.int .i64 ((rd_T67 l0_1 x57_2).f0), .int .i64 0]) ?_ 1 _ rfl; (with_reducible repeat (first | refine blk_drewN ?_ _ | refine blk_drew ?_ | refine blk_alloc ?_ _)); refine blk_put (cs := #[.int .i64 0, .int .i64 0]) ?_ 0 _ rfl; exact Bz BK654⟩, ⟨by first | exact Lz HB | repeat (first | (with_reducible first | exact HB.out | apply below_alloc | apply pw_below_drewN | apply below_drew1 | refine below_set ?_ GE646.out | refine below_set ?_ GE647.out | refine below_set ?_ GE651.out | refine below_set ?_ GE652.out | refine below_set ?_ GE654.out) | exact HB.out)⟩⟩
        case rest =>
         clear HC53
         try clear c8
         try clear c10
         try clear c12
         try clear c13
         try clear c13b0
         try clear c13b1
         try clear c33
         try clear c50
         try clear c50b0
         try clear c51
         try clear c51b0
         try clear c52
         try clear c52b0
         try clear c60
         try clear c61
         try clear c61b0
         try clear c71
         try clear c71b0
         try clear c71b1
         try clear p653
         try clear q653
         obtain ⟨kq, x83_52, rfl, HA, HJ52, HO_653001, BK646, BK647, BK651, BK652, BK654, HB⟩ := hcut
         cases kq with
         | zero => exact absurd HA.out (by simp [spec_AddEdge.j2])
         | succ kj52 =>
          have H := HA.out
          clear HA
          simp only [spec_AddEdge.j2] at H
          by_cases c90 : x83_52 = true
          ·subst c90
           have H1 : (if x653001_2.length < 8796093022208 then ((some (x653001_2 ++ [(⟨ji36, ji37⟩ : S67)] : List (S67))).bind fun y655 => (if y655.length < 8796093022208 then (spec_AddEdge.l0 kj52 true l0_1 (l0_1.length : Int) (wrap64 (x57_2 + 1)) ji36 ji37 a0_0 (y655 ++ [(⟨((rd_T67 l0_1 x57_2).f0), ((rd_T67 l0_1 x57_2).f1)⟩ : S67)])) else (none))) else (none)) = some (r1, r2, r3) := by rw [if_pos rfl] at H; exact H
           clear H
           have H := H1
           clear H1
           by_cases c91 : x653001_2.length < 8796093022208
           ·rw [if_pos c91] at H
            have LMc91 := Aside0.mk c91
            clear c91
            obtain ⟨y655, hy655⟩ : ∃ y_ : List (S67), y_ = (x653001_2 ++ [(⟨ji36, ji37⟩ : S67)]) := ⟨_, rfl⟩
            replace H : (if y655.length < 8796093022208 then (spec_AddEdge.l0 kj52 true l0_1 (l0_1.length : Int) (wrap64 (x57_2 + 1)) ji36 ji37 a0_0 (y655 ++ [(⟨((rd_T67 l0_1 x57_2).f0), ((rd_T67 l0_1 x57_2).f1)⟩ : S67)])) else (none)) = some (r1, r2, r3) := by first | (rw [hy655]; with_reducible exact H) | (have H2_ := (Option.bind_some _ _).symm.trans H; rw [hy655]; with_reducible exact H2_) | (have H2_ := (Option.bind_some _ _).symm.trans H; with_reducible exact H2_) | with_reducible exact H | (rw [hy655]; exact H) | exact H
            have Ny655 := Aside0.mk hy655
            clear hy655
            by_cases c92 : y655.length < 8796093022208
            ·rw [if_pos c92] at H
             have LMc92 := Aside0.mk c92
             clear c92
             obtain ⟨y658, hy658⟩ : ∃ y_ : List (S67), y_ = (y655 ++ [(⟨((rd_T67 l0_1 x57_2).f0), ((rd_T67 l0_1 x57_2).f1)⟩ : S67)]) := ⟨_, rfl⟩
             replace H : (spec_AddEdge.l0 kj52 true l0_1 (l0_1.length : Int) (wrap64 (x57_2 + 1)) ji36 ji37 a0_0 y658) = some (r1, r2, r3) := by first | (rw [hy658]; with_reducible exact H) | (have H2_ := (Option.bind_some _ _).symm.trans H; rw [hy658]; with_reducible exact H2_) | (have H2_ := (Option.bind_some _ _).symm.trans H; with_reducible exact H2_) | with_reducible exact H | (rw [hy658]; exact H) | exact H
             have Ny658 := Aside0.mk hy658
             clear hy658
             have H' := Aside0.mk H
             clear H
             have hnb93 := NB652_646.out
             have hnc93 := NB646_652.out
             have hnb94 := NB652_647.out
             have hnc94 := NB647_652.out
             have hnb95 := NB652_651.out
             have hnc95 := NB651_652.out
             have hnb96 := NB652_654.out
             have hnc96 := NB654_652.out
             have hcz97_0 : wc.cell? ⟨gb652, 0, none⟩ = some (.int .i64 a0_0) := (blk_cell BK652.out 0).trans rfl
             have hcz97_1 : wc.cell? ⟨gb652, 1, none⟩ = some (u653001) := (blk_cell BK652.out 1).trans rfl
             have hfz97_0 := blk_frozen BK652.out 0
             have hfz97_1 := blk_frozen BK652.out 1
             have hnb98 := NB651_646.out
             have hnc98 := NB646_651.out
             have hnb99 := NB651_647.out
             have hnc99 := NB647_651.out
             have hnb100 := NB651_654.out
             have hnc100 := NB654_651.out
             have hcz101_0 : wc.cell? ⟨gb651, 0, none⟩ = some (.int .i64 ji36) := (blk_cell BK651.out 0).trans rfl
             have hcz101_1 : wc.cell? ⟨gb651, 1, none⟩ = some (.int .i64 ji37) := (blk_cell BK651.out 1).trans rfl
             have hfz101_0 := blk_frozen BK651.out 0
             have hfz101_1 := blk_frozen BK651.out 1
             go_wp2_with (first | ((with_reducible refine gate_builtin (b := .append) (xs := #[.tmp 85, .tmp 87]) rfl ?_); (try (refine gate_guard (by rfl) ?_; dsimp only)); at_builtin; refine Kd.R_append k67 (w0 := w) w.heap.size rfl (.tmp 85) (.tmp 87) 29 67 (.agg #[(.int .i64 0), (.int .i64 0)]) 16 rfl Try.underlying29 info67 rfl (by decide) (by omega) u653001 x653001_2 (⟨ji36, ji37⟩ : S67) [.int .i64 ji36, .int .i64 ji37] (fun k_ => k_ ≠ gb651 ∧ k_ ≠ gb654) (fun _ => False) rfl rfl ?aP (fun _ hk => hk.elim) ?aF ?aO ?aB ?aS ?aL ?_; (case aP => exact k67_mkM _ _ _ (⟨ji36, ji37⟩ : S67)); (case aB => exact (by first | exact Lz HB | repeat (first | (with_reducible first | exact HB.out | apply below_alloc | apply pw_below_drewN | apply below_drew1 | refine below_set ?_ GE646.out | refine below_set ?_ GE647.out | refine below_set ?_ GE651.out | refine below_set ?_ GE652.out | refine below_set ?_ GE654.out) | exact HB.out))); (case aF => exact (fun k_ hk => ⟨Kd.freshB (g := gb651) (o := .cells #[.int .i64 ji36, .int .i64 ji37] 67 (0, 0)) (Bz BK651) k_ hk, Kd.freshB (g := gb654) (o := .cells #[.int .i64 ((rd_T67 l0_1 x57_2).f0), .int .i64 ((rd_T67 l0_1 x57_2).f1)] 67 (0, 0)) (Bz BK654) k_ hk⟩)); (case aO => exact (Rz HO_653001)); (case aS => exact (below_size (by first | exact Lz HB | repeat (first | (with_reducible first | exact HB.out | apply below_alloc | apply pw_below_drewN | apply below_drew1 | refine below_set ?_ GE646.out | refine below_set ?_ GE647.out | refine below_set ?_ GE651.out | refine below_set ?_ GE652.out | refine below_set ?_ GE654.out) | exact HB.out)))); (case aL => have := LMc91.out; omega); intro v656 w102 ho hb hg hat; rw [← Ny655.out] at ho; replace BK646 := Aside0.mk (blk_grown (g := gb646) (o := .cells #[.int .i64 a0_0, .slice (some ad653) l0_1.length c0_1] 31 (0, 0)) (Bz BK646) hg (Kd.R_ne HO_653001.out BK646.out (by decide))); replace BK647 := Aside0.mk (blk_grown (g := gb647) (o := .cells #[.int .i64 0, .slice none 0 0] 31 (0, 0)) (Bz BK647) hg (Kd.R_ne HO_653001.out BK647.out (by decide))); replace BK651 := Aside0.mk (blk_grown (g := gb651) (o := .cells #[.int .i64 ji36, .int .i64 ji37] 67 (0, 0)) (Bz BK651) hg (Kd.R_away HO_653001.out (fun _ hk => hk.1))); replace BK652 := Aside0.mk (blk_grown (g := gb652) (o := .cells #[.int .i64 a0_0, u653001] 31 (0, 0)) (Bz BK652) hg (Kd.R_ne HO_653001.out BK652.out (by decide))); replace BK654 := Aside0.mk (blk_grown (g := gb654) (o := .cells #[.int .i64 ((rd_T67 l0_1 x57_2).f0), .int .i64 ((rd_T67 l0_1 x57_2).f1)] 67 (0, 0)) (Bz BK654) hg (Kd.R_away HO_653001.out (fun _ hk => hk.2))); replace HB := Aside0.mk (hb); have HO657 := Aside0.mk (ho); clear HO_653001; clear ho hb hg hat; obtain ⟨Ao103, co103, eo103⟩ := Kd.R_slice HO657.out; subst eo103; have hcz104_0 : w102.cell? ⟨gb652, 0, none⟩ = some (.int .i64 a0_0) := (blk_cell BK652.out 0).trans rfl; have hcz104_1 : w102.cell? ⟨gb652, 1, none⟩ = some (u653001) := (blk_cell BK652.out 1).trans rfl; have hfz104_0 := blk_frozen BK652.out 0; have hfz104_1 := blk_frozen BK652.out 1; have hnb105 := NB654_646.out; have hnc105 := NB646_654.out; have hnb106 := NB654_647.out; have hnc106 := NB647_654.out; have hcz107_0 : w102.cell? ⟨gb654, 0, none⟩ = some (.int .i64 ((rd_T67 l0_1 x57_2).f0)) := (blk_cell BK654.out 0).trans rfl; have hcz107_1 : w102.cell? ⟨gb654, 1, none⟩ = some (.int .i64 ((rd_T67 l0_1 x57_2).f1)) := (blk_cell BK654.out 1).trans rfl; have hfz107_0 := blk_frozen BK654.out 0; have hfz107_1 := blk_frozen BK654.out 1) | ((with_reducible refine gate_builtin (b := .append) (xs := #[.tmp 91, .tmp 93]) rfl ?_); (try (refine gate_guard (by rfl) ?_; dsimp only)); at_builtin; refine Kd.R_append k67 (w0 := w) w.heap.size rfl (.tmp 91) (.tmp 93) 29 67 (.agg #[(.int .i64 0), (.int .i64 0)]) 16 rfl Try.underlying29 info67 rfl (by decide) (by omega) (.slice Ao103 y655.length co103) y655 (⟨((rd_T67 l0_1 x57_2).f0), ((rd_T67 l0_1 x57_2).f1)⟩ : S67) [.int .i64 ((rd_T67 l0_1 x57_2).f0), .int .i64 ((rd_T67 l0_1 x57_2).f1)] (fun k_ => k_ ≠ gb651 ∧ k_ ≠ gb654) (fun _ => False) rfl (by first | (go_simp; done) | (go_simp; rfl)) ?aP (fun _ hk => hk.elim) ?aF ?aO ?aB ?aS ?aL ?_; (case aP => exact k67_mkM _ _ _ (⟨((rd_T67 l0_1 x57_2).f0), ((rd_T67 l0_1 x57_2).f1)⟩ : S67)); (case aB => exact (by first | exact Lz HB | repeat (first | (with_reducible first | exact HB.out | apply below_alloc | apply pw_below_drewN | apply below_drew1 | refine below_set ?_ GE646.out | refine below_set ?_ GE647.out | refine below_set ?_ GE651.out | refine below_set ?_ GE652.out | refine below_set ?_ GE654.out) | exact HB.out))); (case aF => exact (fun k_ hk => ⟨Kd.freshB (g := gb651) (o := .cells #[.int .i64 ji36, .int .i64 ji37] 67 (0, 0)) (by (with_reducible repeat (first | refine blk_drewN ?_ _ | refine blk_drew ?_ | refine blk_alloc ?_ _)); refine blk_far ?_ NB651_652.out _; exact Bz BK651) k_ hk, Kd.freshB (g := gb654) (o := .cells #[.int .i64 ((rd_T67 l0_1 x57_2).f0), .int .i64 ((rd_T67 l0_1 x57_2).f1)] 67 (0, 0)) (by (with_reducible repeat (first | refine blk_drewN ?_ _ | refine blk_drew ?_ | refine blk_alloc ?_ _)); refine blk_far ?_ NB654_652.out _; exact Bz BK654) k_ hk⟩)); (case aO => exact (by (with_reducible repeat (first | apply Kd.R_alloc | apply Kd.R_drewN | apply Kd.R_drew)); exact Kd.R_mono (Kd.R_far (p := ⟨gb652, 1, none⟩) (Kd.R_types HO657.out BK652.out (by decide)) (fun _ hk => hk.2) (.slice Ao103 y655.length co103)) (fun _ hk => ⟨hk.1.1, hk.1.2⟩))); (case aS => exact (below_size (by first | exact Lz HB | repeat (first | (with_reducible first | exact HB.out | apply below_alloc | apply pw_below_drewN | apply below_drew1 | refine below_set ?_ GE646.out | refine below_set ?_ GE647.out | refine below_set ?_ GE651.out | refine below_set ?_ GE652.out | refine below_set ?_ GE654.out) | exact HB.out)))); (case aL => have := LMc92.out; omega); intro v659 w108 ho hb hg hat; rw [← Ny658.out] at ho; replace BK646 := Aside0.mk (blk_grown (g := gb646) (o := .cells #[.int .i64 a0_0, .slice (some ad653) l0_1.length c0_1] 31 (0, 0)) (by (with_reducible repeat (first | refine blk_drewN ?_ _ | refine blk_drew ?_ | refine blk_alloc ?_ _)); refine blk_far ?_ NB646_652.out _; exact Bz BK646) hg (Kd.R_ne HO657.out BK646.out (by decide))); replace BK647 := Aside0.mk (blk_grown (g := gb647) (o := .cells #[.int .i64 0, .slice none 0 0] 31 (0, 0)) (by (with_reducible repeat (first | refine blk_drewN ?_ _ | refine blk_drew ?_ | refine blk_alloc ?_ _)); refine blk_far ?_ NB647_652.out _; exact Bz BK647) hg (Kd.R_ne HO657.out BK647.out (by decide))); replace BK651 := Aside0.mk (blk_grown (g := gb651) (o := .cells #[.int .i64 ji36, .int .i64 ji37] 67 (0, 0)) (by (with_reducible repeat (first | refine blk_drewN ?_ _ | refine blk_drew ?_ | refine blk_alloc ?_ _)); refine blk_far ?_ NB651_652.out _; exact Bz BK651) hg (Kd.R_away HO657.out (fun _ hk => hk.1))); replace BK652 := Aside0.mk (blk_grown (g := gb652) (o := .cells #[.int .i64 a0_0, .slice Ao103 y655.length co103] 31 (0, 0)) (by (with_reducible repeat (first | refine blk_drewN ?_ _ | refine blk_drew ?_ | refine blk_alloc ?_ _)); refine blk_put (cs := #[.int .i64 a0_0, u653001]) ?_ 1 _ rfl; exact Bz BK652) hg (Kd.R_ne HO657.out BK652.out (by decide))); replace BK654 := Aside0.mk (blk_grown (g := gb654) (o := .cells #[.int .i64 ((rd_T67 l0_1 x57_2).f0), .int .i64 ((rd_T67 l0_1 x57_2).f1)] 67 (0, 0)) (by (with_reducible repeat (first | refine blk_drewN ?_ _ | refine blk_drew ?_ | refine blk_alloc ?_ _)); refine blk_far ?_ NB654_652.out _; exact Bz BK654) hg (Kd.R_away HO657.out (fun _ hk => hk.2))); replace HB := Aside0.mk (hb); have HO660 := Aside0.mk (ho); clear HO657; clear ho hb hg hat; obtain ⟨Ao109, co109, eo109⟩ := Kd.R_slice HO660.out; subst eo109; have hcz110_0 : w108.cell? ⟨gb652, 0, none⟩ = some (.int .i64 a0_0) := (blk_cell BK652.out 0).trans rfl; have hcz110_1 : w108.cell? ⟨gb652, 1, none⟩ = some (.slice Ao103 y655.length co103) := (blk_cell BK652.out 1).trans rfl; have hfz110_0 := blk_frozen BK652.out 0; have hfz110_1 := blk_frozen BK652.out 1))
             go_roundg kj52
             case measure => have := HJ3.out; have := HK2.out; have := HJ52.out; omega
             case rel => exact ⟨(true), (wrap64 (x57_2 + 1)), (y658), (.slice Ao109 y658.length co109), eqA, eqA, H', ⟨by have := HJ3.out; have := HK2.out; have := HJ52.out; omega⟩, ⟨by (with_reducible repeat (first | apply Kd.R_alloc | apply Kd.R_drewN | apply Kd.R_drew)); exact Kd.R_mono (Kd.R_far (p := ⟨gb652, 1, none⟩) (Kd.R_types HO660.out BK652.out (by decide)) (fun _ hk => hk.2) (.slice Ao109 y658.length co109)) (fun _ hk => hk.1.1)⟩, ⟨by (with_reducible repeat (first | refine blk_drewN ?_ _ | refine blk_drew ?_ | refine blk_alloc ?_ _)); refine blk_far ?_ NB646_652.out _; exact Bz BK646⟩, ⟨by (with_reducible repeat (first | refine blk_drewN ?_ _ | refine blk_drew ?_ | refine blk_alloc ?_ _)); refine blk_far ?_ NB647_652.out _; exact Bz BK647⟩, ⟨by (with_reducible repeat (first | refine blk_drewN ?_ _ | refine blk_drew ?_ | refine blk_alloc ?_ _)); refine blk_far ?_ NB651_652.out _; exact Bz BK651⟩, ⟨by (with_reducible repeat (first | refine blk_drewN ?_ _ | refine blk_drew ?_ | refine blk_alloc ?_ _)); refine blk_put (cs := #[.int .i64 a0_0, .slice Ao103 y655.length co103]) ?_ 1 _ rfl; exact Bz BK652⟩, ⟨by first | exact Lz HB | repeat (first | (with_reducible first | exact HB.out | apply below_alloc | apply pw_below_drewN | apply below_drew1 | refine below_set ?_ GE646.out | refine below_set ?_ GE647.out | refine below_set ?_ GE651.out | refine below_set ?_ GE652.out | refine below_set ?_ GE654.out) | exact HB.out)⟩⟩
            rw [if_neg c92] at H
            exact absurd H (by simp)
           rw [if_neg c91] at H
           exact absurd H (by simp)
          replace c90 := Bool.eq_false_iff.mpr c90
          subst c90
          have H1 : (if x653001_2.length < 8796093022208 then (spec_AddEdge.l0 kj52 x10_2 l0_1 (l0_1.length : Int) (wrap64 (x57_2 + 1)) ji36 ji37 a0_0 (x653001_2 ++ [(⟨((rd_T67 l0_1 x57_2).f0), ((rd_T67 l0_1 x57_2).f1)⟩ : S67)])) else (none)) = some (r1, r2, r3) := by rw [if_neg (show ¬ (false = true) by decide)] at H; exact H
          clear H
          have H := H1
          clear H1
          by_cases c111 : x653001_2.length < 8796093022208
          ·rw [if_pos c111] at H
           have LMc111 := Aside0.mk c111
           clear c111
           obtain ⟨y661, hy661⟩ : ∃ y_ : List (S67), y_ = (x653001_2 ++ [(⟨((rd_T67 l0_1 x57_2).f0), ((rd_T67 l0_1 x57_2).f1)⟩ : S67)]) := ⟨_, rfl⟩
           replace H : (spec_AddEdge.l0 kj52 x10_2 l0_1 (l0_1.length : Int) (wrap64 (x57_2 + 1)) ji36 ji37 a0_0 y661) = some (r1, r2, r3) := by first | (rw [hy661]; with_reducible exact H) | (have H2_ := (Option.bind_some _ _).symm.trans H; rw [hy661]; with_reducible exact H2_) | (have H2_ := (Option.bind_some _ _).symm.trans H; with_reducible exact H2_) | with_reducible exact H | (rw [hy661]; exact H) | exact H
           have Ny661 := Aside0.mk hy661
           clear hy661
           have H' := Aside0.mk H
           clear H
           have hnb112 := NB652_646.out
           have hnc112 := NB646_652.out
           have hnb113 := NB652_647.out
           have hnc113 := NB647_652.out
           have hnb114 := NB652_651.out
           have hnc114 := NB651_652.out
           have hnb115 := NB652_654.out
           have hnc115 := NB654_652.out
           have hcz116_0 : wc.cell? ⟨gb652, 0, none⟩ = some (.int .i64 a0_0) := (blk_cell BK652.out 0).trans rfl
           have hcz116_1 : wc.cell? ⟨gb652, 1, none⟩ = some (u653001) := (blk_cell BK652.out 1).trans rfl
           have hfz116_0 := blk_frozen BK652.out 0
           have hfz116_1 := blk_frozen BK652.out 1
           have hnb117 := NB654_646.out
           have hnc117 := NB646_654.out
           have hnb118 := NB654_647.out
           have hnc118 := NB647_654.out
           have hnb119 := NB654_651.out
           have hnc119 := NB651_654.out
           have hcz120_0 : wc.cell? ⟨gb654, 0, none⟩ = some (.int .i64 ((rd_T67 l0_1 x57_2).f0)) := (blk_cell BK654.out 0).trans rfl
           have hcz120_1 : wc.cell? ⟨gb654, 1, none⟩ = some (.int .i64 ((rd_T67 l0_1 x57_2).f1)) := (blk_cell BK654.out 1).trans rfl
           have hfz120_0 := blk_frozen BK654.out 0
           have hfz120_1 := blk_frozen BK654.out 1
           go_wp2_with (first | ((with_reducible refine gate_builtin (b := .append) (xs := #[.tmp 91, .tmp 93]) rfl ?_); (try (refine gate_guard (by rfl) ?_; dsimp only)); at_builtin; refine Kd.R_append k67 (w0 := w) w.heap.size rfl (.tmp 91) (.tmp 93) 29 67 (.agg #[(.int .i64 0), (.int .i64 0)]) 16 rfl Try.underlying29 info67 rfl (by decide) (by omega) u653001 x653001_2 (⟨((rd_T67 l0_1 x57_2).f0), ((rd_T67 l0_1 x57_2).f1)⟩ : S67) [.int .i64 ((rd_T67 l0_1 x57_2).f0), .int .i64 ((rd_T67 l0_1 x57_2).f1)] (fun k_ => k_ ≠ gb651 ∧ k_ ≠ gb654) (fun _ => False) rfl rfl ?aP (fun _ hk => hk.elim) ?aF ?aO ?aB ?aS ?aL ?_; (case aP => exact k67_mkM _ _ _ (⟨((rd_T67 l0_1 x57_2).f0), ((rd_T67 l0_1 x57_2).f1)⟩ : S67)); (case aB => exact (by first | exact Lz HB | repeat (first | (with_reducible first | exact HB.out | apply below_alloc | apply pw_below_drewN | apply below_drew1 | refine below_set ?_ GE646.out | refine below_set ?_ GE647.out | refine below_set ?_ GE651.out | refine below_set ?_ GE652.out | refine below_set ?_ GE654.out) | exact HB.out))); (case aF => exact (fun k_ hk => ⟨Kd.freshB (g := gb651) (o := .cells #[.int .i64 ji36, .int .i64 ji37] 67 (0, 0)) (Bz BK651) k_ hk, Kd.freshB (g := gb654) (o := .cells #[.int .i64 ((rd_T67 l0_1 x57_2).f0), .int .i64 ((rd_T67 l0_1 x57_2).f1)] 67 (0, 0)) (Bz BK654) k_ hk⟩)); (case aO => exact (Rz HO_653001)); (case aS => exact (below_size (by first | exact Lz HB | repeat (first | (with_reducible first | exact HB.out | apply below_alloc | apply pw_below_drewN | apply below_drew1 | refine below_set ?_ GE646.out | refine below_set ?_ GE647.out | refine below_set ?_ GE651.out | refine below_set ?_ GE652.out | refine below_set ?_ GE654.out) | exact HB.out)))); (case aL => have := LMc111.out; omega); intro v662 w121 ho hb hg hat; rw [← Ny661.out] at ho; replace BK646 := Aside0.mk (blk_grown (g := gb646) (o := .cells #[.int .i64 a0_0, .slice (some ad653) l0_1.length c0_1] 31 (0, 0)) (Bz BK646) hg (Kd.R_ne HO_653001.out BK646.out (by decide))); replace BK647 := Aside0.mk (blk_grown (g := gb647) (o := .cells #[.int .i64 0, .slice none 0 0] 31 (0, 0)) (Bz BK647) hg (Kd.R_ne HO_653001.out BK647.out (by decide))); replace BK651 := Aside0.mk (blk_grown (g := gb651) (o := .cells #[.int .i64 ji36, .int .i64 ji37] 67 (0, 0)) (Bz BK651) hg (Kd.R_away HO_653001.out (fun _ hk => hk.1))); replace BK652 := Aside0.mk (blk_grown (g := gb652) (o := .cells #[.int .i64 a0_0, u653001] 31 (0, 0)) (Bz BK652) hg (Kd.R_ne HO_653001.out BK652.out (by decide))); replace BK654 := Aside0.mk (blk_grown (g := gb654) (o := .cells #[.int .i64 ((rd_T67 l0_1 x57_2).f0), .int .i64 ((rd_T67 l0_1 x57_2).f1)] 67 (0, 0)) (Bz BK654) hg (Kd.R_away HO_653001.out (fun _ hk => hk.2))); replace HB := Aside0.mk (hb); have HO663 := Aside0.mk (ho); clear HO_653001; clear ho hb hg hat; obtain ⟨Ao122, co122, eo122⟩ := Kd.R_slice HO663.out; subst eo122; have hcz123_0 : w121.cell? ⟨gb652, 0, none⟩ = some (.int .i64 a0_0) := (blk_cell BK652.out 0).trans rfl; have hcz123_1 : w121.cell? ⟨gb652, 1, none⟩ = some (u653001) := (blk_cell BK652.out 1).trans rfl; have hfz123_0 := blk_frozen BK652.out 0; have hfz123_1 := blk_frozen BK652.out 1))
           go_roundg kj52
           case measure => have := HJ3.out; have := HK2.out; have := HJ52.out; omega
           case rel => exact ⟨(x10_2), (wrap64 (x57_2 + 1)), (y661), (.slice Ao122 y661.length co122), eqA, eqA, H', ⟨by have := HJ3.out; have := HK2.out; have := HJ52.out; omega⟩, ⟨by (with_reducible repeat (first | apply Kd.R_alloc | apply Kd.R_drewN | apply Kd.R_drew)); exact Kd.R_mono (Kd.R_far (p := ⟨gb652, 1, none⟩) (Kd.R_types HO663.out BK652.out (by decide)) (fun _ hk => hk.2) (.slice Ao122 y661.length co122)) (fun _ hk => hk.1.1)⟩, ⟨by (with_reducible repeat (first | refine blk_drewN ?_ _ | refine blk_drew ?_ | refine blk_alloc ?_ _)); refine blk_far ?_ NB646_652.out _; exact Bz BK646⟩, ⟨by (with_reducible repeat (first | refine blk_drewN ?_ _ | refine blk_drew ?_ | refine blk_alloc ?_ _)); refine blk_far ?_ NB647_652.out _; exact Bz BK647⟩, ⟨by (with_reducible repeat (first | refine blk_drewN ?_ _ | refine blk_drew ?_ | refine blk_alloc ?_ _)); refine blk_far ?_ NB651_652.out _; exact Bz BK651⟩, ⟨by (with_reducible repeat (first | refine blk_drewN ?_ _ | refine blk_drew ?_ | refine blk_alloc ?_ _)); refine blk_put (cs := #[.int .i64 a0_0, u653001]) ?_ 1 _ rfl; exact Bz BK652⟩, ⟨by first | exact Lz HB | repeat (first | (with_reducible first | exact HB.out | apply below_alloc | apply pw_below_drewN | apply below_drew1 | refine below_set ?_ GE646.out | refine below_set ?_ GE647.out | refine below_set ?_ GE651.out | refine below_set ?_ GE652.out | refine below_set ?_ GE654.out) | exact HB.out)⟩⟩
          rw [if_neg c111] at H
          exact absurd H (by simp)
       rw [if_neg c52] at H
       exact absurd H (by simp)
      rw [if_neg c51] at H
      exact absurd H (by simp)
     rw [if_neg c50] at H
     have c50b0 : decide (x57_2 < (l0_1.length : Int)) = false := decide_eq_false c50
     clear c50
     by_cases c124 : x10_2 = true
     ·subst c124
      have H1 : (some (a0_0, x653001_2, true)) = some (r1, r2, r3) := by rw [if_pos rfl] at H; exact H
      clear H
      have H := H1
      clear H1
      simp only [Option.some.injEq, Prod.mk.injEq] at H
      obtain ⟨rfl, rfl, rfl⟩ := H
      have hnb125 := NB652_646.out
      have hnc125 := NB646_652.out
      have hnb126 := NB652_647.out
      have hnc126 := NB647_652.out
      have hnb127 := NB652_651.out
      have hnc127 := NB651_652.out
      have hcz128_0 : wr.cell? ⟨gb652, 0, none⟩ = some (.int .i64 a0_0) := (blk_cell BK652.out 0).trans rfl
      have hcz128_1 : wr.cell? ⟨gb652, 1, none⟩ = some (u653001) := (blk_cell BK652.out 1).trans rfl
      have hfz128_0 := blk_frozen BK652.out 0
      have hfz128_1 := blk_frozen BK652.out 1
      have hnb129 := NB647_646.out
      have hnc129 := NB646_647.out
      have hnb130 := NB647_651.out
      have hnc130 := NB651_647.out
      have hcz131_0 : wr.cell? ⟨gb647, 0, none⟩ = some (.int .i64 0) := (blk_cell BK647.out 0).trans rfl
      have hcz131_1 : wr.cell? ⟨gb647, 1, none⟩ = some (.slice none 0 0) := (blk_cell BK647.out 1).trans rfl
      have hfz131_0 := blk_frozen BK647.out 0
      have hfz131_1 := blk_frozen BK647.out 1
      obtain ⟨Ao132, co132, eo132⟩ := Kd.R_slice HO_653001.out
      subst eo132
      go_wp2
      refine bodyPost_ret (results_ct rfl _ _ gb647 31 #[.int .i64 a0_0, .slice Ao132 x653001_2.length co132] (0, 0) _ rfl (by (with_reducible repeat (first | refine blk_drewN ?_ _ | refine blk_drew ?_ | refine blk_alloc ?_ _)); refine blk_put (cs := #[.int .i64 a0_0, .slice none 0 0]) ?_ 1 _ rfl; (with_reducible repeat (first | refine blk_drewN ?_ _ | refine blk_drew ?_ | refine blk_alloc ?_ _)); refine blk_put (cs := #[.int .i64 0, .slice none 0 0]) ?_ 0 _ rfl; exact Bz BK647) Try.underlying31 rfl (by kernel_rfl)) rfl ?_
      exact ⟨_, by first | rfl | (simp [errW_none, errW_some] <;> rfl) | (simp only [← hji36, ← hji37]; first | rfl | (simp [errW_none, errW_some] <;> rfl)) | (simp [*, errW_none, errW_some] <;> rfl), by (with_reducible repeat (first | apply Kd.R_alloc | apply Kd.R_drewN | apply Kd.R_drew)); exact Kd.R_mono (Kd.R_far (p := ⟨gb647, 1, none⟩) (Kd.R_far (p := ⟨gb647, 0, none⟩) (Kd.R_types HO_653001.out BK647.out (by decide)) (fun _ hk => hk.2) (.int .i64 a0_0)) (fun _ hk => hk.2) (.slice Ao132 x653001_2.length co132)) (fun _ hk => trivial), by first | exact Lz HB | repeat (first | (with_reducible first | exact HB.out | apply below_alloc | apply pw_below_drewN | apply below_drew1 | refine below_set ?_ GE646.out | refine below_set ?_ GE647.out | refine below_set ?_ GE651.out | refine below_set ?_ GE652.out) | exact HB.out)⟩
     replace c124 := Bool.eq_false_iff.mpr c124
     subst c124
     have H1 : (if x653001_2.length < 8796093022208 then (some (a0_0, (x653001_2 ++ [(⟨ji36, ji37⟩ : S67)]), true)) else (none)) = some (r1, r2, r3) := by rw [if_neg (show ¬ (false = true) by decide)] at H; exact H
     clear H
     have H := H1
     clear H1
     by_cases c133 : x653001_2.length < 8796093022208
     ·rw [if_pos c133] at H
      have LMc133 := Aside0.mk c133
      clear c133
      obtain ⟨y664, hy664⟩ : ∃ y_ : List (S67), y_ = (x653001_2 ++ [(⟨ji36, ji37⟩ : S67)]) := ⟨_, rfl⟩
      replace H : (some (a0_0, y664, true)) = some (r1, r2, r3) := by first | (rw [hy664]; with_reducible exact H) | (have H2_ := (Option.bind_some _ _).symm.trans H; rw [hy664]; with_reducible exact H2_) | (have H2_ := (Option.bind_some _ _).symm.trans H; with_reducible exact H2_) | with_reducible exact H | (rw [hy664]; exact H) | exact H
      have Ny664 := Aside0.mk hy664
      clear hy664
      simp only [Option.some.injEq, Prod.mk.injEq] at H
      obtain ⟨rfl, rfl, rfl⟩ := H
      have hnb134 := NB652_646.out
      have hnc134 := NB646_652.out
      have hnb135 := NB652_647.out
      have hnc135 := NB647_652.out
      have hnb136 := NB652_651.out
      have hnc136 := NB651_652.out
      have hcz137_0 : wr.cell? ⟨gb652, 0, none⟩ = some (.int .i64 a0_0) := (blk_cell BK652.out 0).trans rfl
      have hcz137_1 : wr.cell? ⟨gb652, 1, none⟩ = some (u653001) := (blk_cell BK652.out 1).trans rfl
      have hfz137_0 := blk_frozen BK652.out 0
      have hfz137_1 := blk_frozen BK652.out 1
      have hnb138 := NB651_646.out
      have hnc138 := NB646_651.out
      have hnb139 := NB651_647.out
      have hnc139 := NB647_651.out
      have hcz140_0 : wr.cell? ⟨gb651, 0, none⟩ = some (.int .i64 ji36) := (blk_cell BK651.out 0).trans rfl
      have hcz140_1 : wr.cell? ⟨gb651, 1, none⟩ = some (.int .i64 ji37) := (blk_cell BK651.out 1).trans rfl
      have hfz140_0 := blk_frozen BK651.out 0
      have hfz140_1 := blk_frozen BK651.out 1
      go_wp2_with (first | ((with_reducible refine gate_builtin (b := .append) (xs := #[.tmp 100, .tmp 102]) rfl ?_); (try (refine gate_guard (by rfl) ?_; dsimp only)); at_builtin; refine Kd.R_append k67 (w0 := w) w.heap.size rfl (.tmp 100) (.tmp 102) 29 67 (.agg #[(.int .i64 0), (.int .i64 0)]) 16 rfl Try.underlying29 info67 rfl (by decide) (by omega) u653001 x653001_2 (⟨ji36, ji37⟩ : S67) [.int .i64 ji36, .int .i64 ji37] (fun k_ => k_ ≠ gb651) (fun _ => False) rfl rfl ?aP (fun _ hk => hk.elim) ?aF ?aO ?aB ?aS ?aL ?_; (case aP => exact k67_mkM _ _ _ (⟨ji36, ji37⟩ : S67)); (case aB => exact (by first | exact Lz HB | repeat (first | (with_reducible first | exact HB.out | apply below_alloc | apply pw_below_drewN | apply below_drew1 | refine below_set ?_ GE646.out | refine below_set ?_ GE647.out | refine below_set ?_ GE651.out | refine below_set ?_ GE652.out) | exact HB.out))); (case aF => exact (fun k_ hk => Kd.freshB (g := gb651) (o := .cells #[.int .i64 ji36, .int .i64 ji37] 67 (0, 0)) (Bz BK651) k_ hk)); (case aO => exact (Rz HO_653001)); (case aS => exact (below_size (by first | exact Lz HB | repeat (first | (with_reducible first | exact HB.out | apply below_alloc | apply pw_below_drewN | apply below_drew1 | refine below_set ?_ GE646.out | refine below_set ?_ GE647.out | refine below_set ?_ GE651.out | refine below_set ?_ GE652.out) | exact HB.out)))); (case aL => have := LMc133.out; omega); intro v665 w141 ho hb hg hat; rw [← Ny664.out] at ho; replace BK646 := Aside0.mk (blk_grown (g := gb646) (o := .cells #[.int .i64 a0_0, .slice A0_1 l0_1.length c0_1] 31 (0, 0)) (Bz BK646) hg (Kd.R_ne HO_653001.out BK646.out (by decide))); replace BK647 := Aside0.mk (blk_grown (g := gb647) (o := .cells #[.int .i64 0, .slice none 0 0] 31 (0, 0)) (Bz BK647) hg (Kd.R_ne HO_653001.out BK647.out (by decide))); replace BK651 := Aside0.mk (blk_grown (g := gb651) (o := .cells #[.int .i64 ji36, .int .i64 ji37] 67 (0, 0)) (Bz BK651) hg (Kd.R_away HO_653001.out (fun _ hk => hk))); replace BK652 := Aside0.mk (blk_grown (g := gb652) (o := .cells #[.int .i64 a0_0, u653001] 31 (0, 0)) (Bz BK652) hg (Kd.R_ne HO_653001.out BK652.out (by decide))); replace HB := Aside0.mk (hb); have HO666 := Aside0.mk (ho); clear HO_653001; clear ho hb hg hat; obtain ⟨Ao142, co142, eo142⟩ := Kd.R_slice HO666.out; subst eo142; have hcz143_0 : w141.cell? ⟨gb652, 0, none⟩ = some (.int .i64 a0_0) := (blk_cell BK652.out 0).trans rfl; have hcz143_1 : w141.cell? ⟨gb652, 1, none⟩ = some (u653001) := (blk_cell BK652.out 1).trans rfl; have hfz143_0 := blk_frozen BK652.out 0; have hfz143_1 := blk_frozen BK652.out 1; have hnb144 := NB647_646.out; have hnc144 := NB646_647.out; have hcz145_0 : w141.cell? ⟨gb647, 0, none⟩ = some (.int .i64 0) := (blk_cell BK647.out 0).trans rfl; have hcz145_1 : w141.cell? ⟨gb647, 1, none⟩ = some (.slice none 0 0) := (blk_cell BK647.out 1).trans rfl; have hfz145_0 := blk_frozen BK647.out 0; have hfz145_1 := blk_frozen BK647.out 1))
      refine bodyPost_ret (results_ct rfl _ _ gb647 31 #[.int .i64 a0_0, .slice Ao142 y664.length co142] (0, 0) _ rfl (by (with_reducible repeat (first | refine blk_drewN ?_ _ | refine blk_drew ?_ | refine blk_alloc ?_ _)); refine blk_put (cs := #[.int .i64 a0_0, .slice none 0 0]) ?_ 1 _ rfl; (with_reducible repeat (first | refine blk_drewN ?_ _ | refine blk_drew ?_ | refine blk_alloc ?_ _)); refine blk_put (cs := #[.int .i64 0, .slice none 0 0]) ?_ 0 _ rfl; (with_reducible repeat (first | refine blk_drewN ?_ _ | refine blk_drew ?_ | refine blk_alloc ?_ _)); refine blk_far ?_ NB647_652.out _; exact Bz BK647) Try.underlying31 rfl (by kernel_rfl)) rfl ?_
      exact ⟨_, by first | rfl | (simp [errW_none, errW_some] <;> rfl) | (simp only [← hji36, ← hji37]; first | rfl | (simp [errW_none, errW_some] <;> rfl)) | (simp [*, errW_none, errW_some] <;> rfl), by (with_reducible repeat (first | apply Kd.R_alloc | apply Kd.R_drewN | apply Kd.R_drew)); exact Kd.R_mono (Kd.R_far (p := ⟨gb647, 1, none⟩) (Kd.R_far (p := ⟨gb647, 0, none⟩) (Kd.R_far (p := ⟨gb652, 1, none⟩) (Kd.R_types (Kd.R_types HO666.out BK652.out (by decide)) BK647.out (by decide)) (fun _ hk => hk.1.2) (.slice Ao142 y664.length co142)) (fun _ hk => hk.2) (.int .i64 a0_0)) (fun _ hk => hk.2) (.slice Ao142 y664.length co142)) (fun _ hk => trivial), by first | exact Lz HB | repeat (first | (with_reducible first | exact HB.out | apply below_alloc | apply pw_below_drewN | apply below_drew1 | refine below_set ?_ GE646.out | refine below_set ?_ GE647.out | refine below_set ?_ GE651.out | refine below_set ?_ GE652.out) | exact HB.out)⟩
     rw [if_neg c133] at H
     exact absurd H (by simp)
end Go.Proofs.Ytbcfccdoffbncaa.P
end
