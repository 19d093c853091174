/- Functions of the program as plain Lean functions and that the machine's calls answer as they do, the words of the print that these use, lemmas and plain proofs of laws. Put together by a program of this work that leaves out what nothing uses; Lean checks it. -/
import Derived.Test.YtchkndeeaoohpaaG45c7b9954f
import Derived.Test.YtchkndeeaoohpaaG7a6bd9712a
section
namespace Go.Proofs.Ytchkndeeaoohpaa.P
open Go.RowKit Go.Proofs.YtchkndeeaoohpaaW.PrintWords Go.Proofs.YtchkndeeaoohpaaW.PrintLast Go.Proofs.YtchkndeeaoohpaaW.PrintMore
attribute [local go_sem] max2_int min2_int max_two min_two max_three min_three max_four min_four
set_option linter.unusedVariables false
set_option linter.unusedSimpArgs false
mutual
def impl_connected.l0 : Nat → Int → List (S75) → Int → Int → Int → Option (Bool)
 | 0, _, _, _, _, _ => none
 | k + 1, x0, x1, x5, x8, x9 => if x9 < x8 then (impl_connected.l1 k x0 x1 x5 x8 x9 x1 (x1.length : Int) 0) else (if 0 ≤ x0 then (some (x5 == (wrap64 ((shl .i64 1 x0) - 1)))) else (none))
def impl_connected.l1 : Nat → Int → List (S75) → Int → Int → Int → List (S75) → Int → Int → Option (Bool)
 | 0, _, _, _, _, _, _, _, _ => none
 | k + 1, x0, x1, x5, x8, x9, x11, x12, x13 => if x13 < x12 then (if 0 ≤ x13 then (if x13 < (x11.length : Int) then (if 0 ≤ ((rd_T75 x11 x13).f0) then (if (Go.bits .and .i64 (shr .i64 x5 ((rd_T75 x11 x13).f0)) 1) = 1 then (if 0 ≤ ((rd_T75 x11 x13).f1) then (impl_connected.l1 k x0 x1 (Go.bits .or .i64 x5 (Go.bits .or .i64 (shl .i64 1 ((rd_T75 x11 x13).f0)) (shl .i64 1 ((rd_T75 x11 x13).f1)))) x8 x9 x11 x12 (wrap64 (x13 + 1))) else (none)) else (if 0 ≤ ((rd_T75 x11 x13).f1) then (if (Go.bits .and .i64 (shr .i64 x5 ((rd_T75 x11 x13).f1)) 1) = 1 then (impl_connected.l1 k x0 x1 (Go.bits .or .i64 x5 (Go.bits .or .i64 (shl .i64 1 ((rd_T75 x11 x13).f0)) (shl .i64 1 ((rd_T75 x11 x13).f1)))) x8 x9 x11 x12 (wrap64 (x13 + 1))) else (impl_connected.l1 k x0 x1 x5 x8 x9 x11 x12 (wrap64 (x13 + 1)))) else (none))) else (none)) else (none)) else (none)) else (impl_connected.l0 k x0 x1 x5 x8 (wrap64 (x9 + 1)))
end
def impl_connected.f (k : Nat) (a0 : Int) (l1 : List (S75)) : Option (Bool) := impl_connected.l0 k a0 l1 1 a0 0
set_option maxHeartbeats 8000000 in
set_option maxRecDepth 100000 in
theorem impl_connected.calls (k : Nat) (a0 : Int) (A1 : Option Addr) (c1 : Nat) (l1 : List (S75)) (r : Bool) (w : World) (hr1 : Kd.C k75 w A1 l1.length l1) (hc1 : l1.length ≤ c1) (h : impl_connected.f k a0 l1 = some r) :
  Calls Try.prog 87 #[.int .i64 a0, .slice A1 l1.length c1] w fun e w' => e = .returned (.bool r) ∧ Below w.heap.size w w' := by
 have hu75 := Try.underlying75
 have HR1 := Aside0.mk hr1
 have HC1 := Aside0.mk hc1
 clear hr1 hc1
 have HB := Aside0.mk (Below.refl w.heap.size w)
 have H : (impl_connected.l0 k a0 l1 1 a0 0) = some r := h
 clear h
 have H' := Aside0.mk H
 clear H
 go_enter Try.func87, Try.ntmps87
 go_wp2
 repeat (go_quiet (fail); try go_wp2)
 go_loopg [5, 9] k (fun kq v5 v9 w' => ∃ (x5_1 : Int) (x9_1 : Int), v5 = .int .i64 x5_1 ∧ v9 = .int .i64 x9_1 ∧ Aside0 (impl_connected.l0 kq a0 l1 x5_1 a0 x9_1 = some r) ∧ Aside0 (kq ≤ k) ∧ Aside0 (Below w.heap.size w w'))
 case atStart => exact ⟨(1), (0), eqA, eqA, H', ⟨Nat.le_refl _⟩, ⟨by exact Lz HB⟩⟩
 case round =>
  clear H'
  try clear c1
  obtain ⟨x5_1, x9_1, rfl, rfl, HA, HK1, HB⟩ := hrel
  cases gk with
  | zero => exact absurd HA.out (by simp [impl_connected.l0])
  | succ k1 =>
   have H := HA.out
   clear HA
   simp only [impl_connected.l0] at H
   by_cases c3 : x9_1 < a0
   ·rw [if_pos c3] at H
    have c3b0 : decide (x9_1 < a0) = true := decide_eq_true c3
    clear c3
    have H' := Aside0.mk H
    clear H
    go_wp2
    repeat (go_quiet (fail); try go_wp2)
    go_loopg [5, 13] k1 (fun kq v5 v13 w' => ∃ (x5_2 : Int) (x13_2 : Int), v5 = .int .i64 x5_2 ∧ v13 = .int .i64 x13_2 ∧ Aside0 (impl_connected.l1 kq a0 l1 x5_2 a0 x9_1 l1 (l1.length : Int) x13_2 = some r) ∧ Aside0 (kq ≤ k1) ∧ Aside0 (Below w.heap.size w w'))
    case atStart => exact ⟨(x5_1), (0), eqA, eqA, H', ⟨Nat.le_refl _⟩, ⟨by exact Lz HB⟩⟩
    case round =>
     clear H'
     try clear c1
     try clear c3
     try clear c3b0
     obtain ⟨x5_2, x13_2, rfl, rfl, HA, HK2, HB⟩ := hrel
     cases gk with
     | zero => exact absurd HA.out (by simp [impl_connected.l1])
     | succ k2 =>
      have H := HA.out
      clear HA
      simp only [impl_connected.l1] at H
      by_cases c4 : x13_2 < (l1.length : Int)
      ·rw [if_pos c4] at H
       have c4b0 : decide (x13_2 < (l1.length : Int)) = true := decide_eq_true c4
       clear c4
       by_cases c5 : 0 ≤ x13_2
       ·rw [if_pos c5] at H
        have c5b0 : decide (0 ≤ x13_2) = true := decide_eq_true c5
        clear c5
        by_cases c6 : x13_2 < (l1.length : Int)
        ·rw [if_pos c6] at H
         have c6b0 : decide (x13_2 < (l1.length : Int)) = true := decide_eq_true c6
         clear c6
         by_cases c7 : 0 ≤ ((rd_T75 l1 x13_2).f0)
         ·rw [if_pos c7] at H
          have c7b0 := eq_true c7
          have c7b1 : decide (0 ≤ ((rd_T75 l1 x13_2).f0)) = true := decide_eq_true c7
          clear c7
          obtain ⟨ji8, hji8⟩ : ∃ j_ : Int, (shr .i64 x5_2 ((rd_T75 l1 x13_2).f0)) = j_ := ⟨_, rfl⟩
          replace H : (if (Go.bits .and .i64 (ji8) 1) = 1 then (if 0 ≤ ((rd_T75 l1 x13_2).f1) then (impl_connected.l1 k2 a0 l1 (Go.bits .or .i64 x5_2 (Go.bits .or .i64 (shl .i64 1 ((rd_T75 l1 x13_2).f0)) (shl .i64 1 ((rd_T75 l1 x13_2).f1)))) a0 x9_1 l1 (l1.length : Int) (wrap64 (x13_2 + 1))) else (none)) else (if 0 ≤ ((rd_T75 l1 x13_2).f1) then (if (Go.bits .and .i64 (shr .i64 x5_2 ((rd_T75 l1 x13_2).f1)) 1) = 1 then (impl_connected.l1 k2 a0 l1 (Go.bits .or .i64 x5_2 (Go.bits .or .i64 (shl .i64 1 ((rd_T75 l1 x13_2).f0)) (shl .i64 1 ((rd_T75 l1 x13_2).f1)))) a0 x9_1 l1 (l1.length : Int) (wrap64 (x13_2 + 1))) else (impl_connected.l1 k2 a0 l1 x5_2 a0 x9_1 l1 (l1.length : Int) (wrap64 (x13_2 + 1)))) else (none))) = some r := by first | (rw [hji8] at H; exact H) | (simp only [hji8] at H ⊢; exact H)
          have hji8_ : (x5_2 / 2 ^ min ((rd_T75 l1 x13_2).f0).toNat 64) = ji8 := hji8
          have hji8z : ((rd_T75 l1 x13_2).f0) ≤ 64 → (x5_2 / 2 ^ ((rd_T75 l1 x13_2).f0).toNat) = ji8 := shr_small hji8
          by_cases c9 : (Go.bits .and .i64 (ji8) 1) = 1
          ·rw [if_pos c9] at H
           have c9b0 : ((Go.bits .and .i64 (ji8) 1) == 1) = true := beq_iff_eq.mpr c9
           have c9b1 : ((Go.bits .and .i64 (ji8) 1) != 1) = false := bne_eq_false_iff_eq.mpr c9
           clear c9
           have c10b0 := eq_true (ofA : 0 ≤ ((rd_T75 l1 x13_2).f0))
           obtain ⟨ji11, hji11⟩ : ∃ j_ : Int, (shl .i64 1 ((rd_T75 l1 x13_2).f0)) = j_ := ⟨_, rfl⟩
           replace H : (if 0 ≤ ((rd_T75 l1 x13_2).f1) then (impl_connected.l1 k2 a0 l1 (Go.bits .or .i64 x5_2 (Go.bits .or .i64 (ji11) (shl .i64 1 ((rd_T75 l1 x13_2).f1)))) a0 x9_1 l1 (l1.length : Int) (wrap64 (x13_2 + 1))) else (none)) = some r := by first | (rw [hji11] at H; exact H) | (simp only [hji11] at H ⊢; exact H)
           have hji11_ : (IntKind.i64.wrap (1 * 2 ^ min ((rd_T75 l1 x13_2).f0).toNat 64)) = ji11 := hji11
           have hji11z : ((rd_T75 l1 x13_2).f0) ≤ 64 → (IntKind.i64.wrap (1 * 2 ^ ((rd_T75 l1 x13_2).f0).toNat)) = ji11 := shl_small hji11
           have hji11u : (IntKind.i64.wrap (2 ^ min ((rd_T75 l1 x13_2).f0).toNat 64)) = ji11 := by have h_ := hji11_; rw [Int.one_mul] at h_; exact h_
           have hji11v : ((rd_T75 l1 x13_2).f0) ≤ 64 → (IntKind.i64.wrap (2 ^ ((rd_T75 l1 x13_2).f0).toNat)) = ji11 := fun hle_ => by have h_ := hji11z hle_; rw [Int.one_mul] at h_; exact h_
           have hji11y : (wrap64 (1 * 2 ^ min ((rd_T75 l1 x13_2).f0).toNat 64)) = ji11 := (i64_w _).symm.trans hji11_
           have hji11x : ((rd_T75 l1 x13_2).f0) ≤ 64 → (wrap64 (1 * 2 ^ ((rd_T75 l1 x13_2).f0).toNat)) = ji11 := fun h_ => (i64_w _).symm.trans (hji11z h_)
           by_cases c12 : 0 ≤ ((rd_T75 l1 x13_2).f1)
           ·rw [if_pos c12] at H
            have c12b0 := eq_true c12
            have c12b1 : decide (0 ≤ ((rd_T75 l1 x13_2).f1)) = true := decide_eq_true c12
            clear c12
            obtain ⟨ji13, hji13⟩ : ∃ j_ : Int, (shl .i64 1 ((rd_T75 l1 x13_2).f1)) = j_ := ⟨_, rfl⟩
            replace H : (impl_connected.l1 k2 a0 l1 (Go.bits .or .i64 x5_2 (Go.bits .or .i64 (ji11) (ji13))) a0 x9_1 l1 (l1.length : Int) (wrap64 (x13_2 + 1))) = some r := by first | (rw [hji13] at H; exact H) | (simp only [hji13] at H ⊢; exact H)
            have hji13_ : (IntKind.i64.wrap (1 * 2 ^ min ((rd_T75 l1 x13_2).f1).toNat 64)) = ji13 := hji13
            have hji13z : ((rd_T75 l1 x13_2).f1) ≤ 64 → (IntKind.i64.wrap (1 * 2 ^ ((rd_T75 l1 x13_2).f1).toNat)) = ji13 := shl_small hji13
            have hji13u : (IntKind.i64.wrap (2 ^ min ((rd_T75 l1 x13_2).f1).toNat 64)) = ji13 := by have h_ := hji13_; rw [Int.one_mul] at h_; exact h_
            have hji13v : ((rd_T75 l1 x13_2).f1) ≤ 64 → (IntKind.i64.wrap (2 ^ ((rd_T75 l1 x13_2).f1).toNat)) = ji13 := fun hle_ => by have h_ := hji13z hle_; rw [Int.one_mul] at h_; exact h_
            have hji13y : (wrap64 (1 * 2 ^ min ((rd_T75 l1 x13_2).f1).toNat 64)) = ji13 := (i64_w _).symm.trans hji13_
            have hji13x : ((rd_T75 l1 x13_2).f1) ≤ 64 → (wrap64 (1 * 2 ^ ((rd_T75 l1 x13_2).f1).toNat)) = ji13 := fun h_ => (i64_w _).symm.trans (hji13z h_)
            have H' := Aside0.mk H
            clear H
            have p300 : 0 ≤ (x13_2 : Int) := ofA
            have q300 : x13_2 < (l1.length : Int) := ofA
            obtain ⟨ad300, e300, hx300_0, hx300_1⟩ := at_T75 HR1.out x13_2 p300 q300
            cases e300
            replace hx300_0 := (HB.out.cell (World.block_lt_of_cell? w _ hx300_0)).trans hx300_0
            replace hx300_1 := (HB.out.cell (World.block_lt_of_cell? w _ hx300_1)).trans hx300_1
            replace p300 := eq_true p300
            replace q300 := eq_true q300
            go_wp2_with (first | ((with_reducible refine gate_dst (N := 7) rfl ?_); refine box_event ?hg (N := 7) ?hd (cs := #[.int .i64 0, .int .i64 0]) (t := 75) ?hr ?_; (case hd => rfl); (case hg => rfl); (case hr => first | (go_simp; done) | (go_simp; rfl)); intro gb301 hg w14 hbox hb; have BK301 := Aside0.mk (hbox); have GW301 := Aside0.mk ((by rw [hg]; exact (below_size (Lz HB)) : w.heap.size ≤ gb301)); have GE301 := Aside0.mk ((by rw [hg]; exact (below_size (Lz HB)) : w.heap.size ≤ gb301)); replace HB := Aside0.mk (below_step (Lz HB) hb); clear hb hbox hg; have hcz15_0 : w14.cell? ⟨gb301, 0, none⟩ = some (.int .i64 0) := (blk_cell BK301.out 0).trans rfl; have hcz15_1 : w14.cell? ⟨gb301, 1, none⟩ = some (.int .i64 0) := (blk_cell BK301.out 1).trans rfl; have hfz15_0 := blk_frozen BK301.out 0; have hfz15_1 := blk_frozen BK301.out 1))
            repeat (go_quiet (first | ((with_reducible refine gate_dst (N := 7) rfl ?_); refine box_event ?hg (N := 7) ?hd (cs := #[.int .i64 0, .int .i64 0]) (t := 75) ?hr ?_; (case hd => rfl); (case hg => rfl); (case hr => first | (go_simp; done) | (go_simp; rfl)); intro gb301 hg w14 hbox hb; have BK301 := Aside0.mk (hbox); have GW301 := Aside0.mk ((by rw [hg]; exact (below_size (Lz HB)) : w.heap.size ≤ gb301)); have GE301 := Aside0.mk ((by rw [hg]; exact (below_size (Lz HB)) : w.heap.size ≤ gb301)); replace HB := Aside0.mk (below_step (Lz HB) hb); clear hb hbox hg; have hcz15_0 : w14.cell? ⟨gb301, 0, none⟩ = some (.int .i64 0) := (blk_cell BK301.out 0).trans rfl; have hcz15_1 : w14.cell? ⟨gb301, 1, none⟩ = some (.int .i64 0) := (blk_cell BK301.out 1).trans rfl; have hfz15_0 := blk_frozen BK301.out 0; have hfz15_1 := blk_frozen BK301.out 1)); try go_wp2_with (first | ((with_reducible refine gate_dst (N := 7) rfl ?_); refine box_event ?hg (N := 7) ?hd (cs := #[.int .i64 0, .int .i64 0]) (t := 75) ?hr ?_; (case hd => rfl); (case hg => rfl); (case hr => first | (go_simp; done) | (go_simp; rfl)); intro gb301 hg w14 hbox hb; have BK301 := Aside0.mk (hbox); have GW301 := Aside0.mk ((by rw [hg]; exact (below_size (Lz HB)) : w.heap.size ≤ gb301)); have GE301 := Aside0.mk ((by rw [hg]; exact (below_size (Lz HB)) : w.heap.size ≤ gb301)); replace HB := Aside0.mk (below_step (Lz HB) hb); clear hb hbox hg; have hcz15_0 : w14.cell? ⟨gb301, 0, none⟩ = some (.int .i64 0) := (blk_cell BK301.out 0).trans rfl; have hcz15_1 : w14.cell? ⟨gb301, 1, none⟩ = some (.int .i64 0) := (blk_cell BK301.out 1).trans rfl; have hfz15_0 := blk_frozen BK301.out 0; have hfz15_1 := blk_frozen BK301.out 1)))
            go_roundg k2
            case measure => have := HK1.out; have := HK2.out; omega
            case rel => exact ⟨(Go.bits .or .i64 x5_2 (Go.bits .or .i64 (ji11) (ji13))), (wrap64 (x13_2 + 1)), (by first | rfl | (simp; done) | (simp only [← hji11, ← hji13] <;> (first | rfl | simp)) | (simp [*]; done)), eqA, H', ⟨by have := HK1.out; have := HK2.out; omega⟩, ⟨by exact Lz1 HB GE301⟩⟩
           rw [if_neg c12] at H
           exact absurd H (by simp)
          rw [if_neg c9] at H
          have c9b0 : ((Go.bits .and .i64 (ji8) 1) == 1) = false := beq_eq_false_iff_ne.mpr c9
          have c9b1 : ((Go.bits .and .i64 (ji8) 1) != 1) = true := bne_iff_ne.mpr c9
          by_cases c16 : 0 ≤ ((rd_T75 l1 x13_2).f1)
          ·rw [if_pos c16] at H
           have c16b0 := eq_true c16
           have c16b1 : decide (0 ≤ ((rd_T75 l1 x13_2).f1)) = true := decide_eq_true c16
           clear c16
           obtain ⟨ji17, hji17⟩ : ∃ j_ : Int, (shr .i64 x5_2 ((rd_T75 l1 x13_2).f1)) = j_ := ⟨_, rfl⟩
           replace H : (if (Go.bits .and .i64 (ji17) 1) = 1 then (impl_connected.l1 k2 a0 l1 (Go.bits .or .i64 x5_2 (Go.bits .or .i64 (shl .i64 1 ((rd_T75 l1 x13_2).f0)) (shl .i64 1 ((rd_T75 l1 x13_2).f1)))) a0 x9_1 l1 (l1.length : Int) (wrap64 (x13_2 + 1))) else (impl_connected.l1 k2 a0 l1 x5_2 a0 x9_1 l1 (l1.length : Int) (wrap64 (x13_2 + 1)))) = some r := by first | (rw [hji17] at H; exact H) | (simp only [hji17] at H ⊢; exact H)
           have hji17_ : (x5_2 / 2 ^ min ((rd_T75 l1 x13_2).f1).toNat 64) = ji17 := hji17
           have hji17z : ((rd_T75 l1 x13_2).f1) ≤ 64 → (x5_2 / 2 ^ ((rd_T75 l1 x13_2).f1).toNat) = ji17 := shr_small hji17
           by_cases c18 : (Go.bits .and .i64 (ji17) 1) = 1
           ·rw [if_pos c18] at H
            have c18b0 : ((Go.bits .and .i64 (ji17) 1) == 1) = true := beq_iff_eq.mpr c18
            have c18b1 : ((Go.bits .and .i64 (ji17) 1) != 1) = false := bne_eq_false_iff_eq.mpr c18
            clear c18
            have c19b0 := eq_true (ofA : 0 ≤ ((rd_T75 l1 x13_2).f0))
            obtain ⟨ji20, hji20⟩ : ∃ j_ : Int, (shl .i64 1 ((rd_T75 l1 x13_2).f0)) = j_ := ⟨_, rfl⟩
            replace H : (impl_connected.l1 k2 a0 l1 (Go.bits .or .i64 x5_2 (Go.bits .or .i64 (ji20) (shl .i64 1 ((rd_T75 l1 x13_2).f1)))) a0 x9_1 l1 (l1.length : Int) (wrap64 (x13_2 + 1))) = some r := by first | (rw [hji20] at H; exact H) | (simp only [hji20] at H ⊢; exact H)
            have hji20_ : (IntKind.i64.wrap (1 * 2 ^ min ((rd_T75 l1 x13_2).f0).toNat 64)) = ji20 := hji20
            have hji20z : ((rd_T75 l1 x13_2).f0) ≤ 64 → (IntKind.i64.wrap (1 * 2 ^ ((rd_T75 l1 x13_2).f0).toNat)) = ji20 := shl_small hji20
            have hji20u : (IntKind.i64.wrap (2 ^ min ((rd_T75 l1 x13_2).f0).toNat 64)) = ji20 := by have h_ := hji20_; rw [Int.one_mul] at h_; exact h_
            have hji20v : ((rd_T75 l1 x13_2).f0) ≤ 64 → (IntKind.i64.wrap (2 ^ ((rd_T75 l1 x13_2).f0).toNat)) = ji20 := fun hle_ => by have h_ := hji20z hle_; rw [Int.one_mul] at h_; exact h_
            have hji20y : (wrap64 (1 * 2 ^ min ((rd_T75 l1 x13_2).f0).toNat 64)) = ji20 := (i64_w _).symm.trans hji20_
            have hji20x : ((rd_T75 l1 x13_2).f0) ≤ 64 → (wrap64 (1 * 2 ^ ((rd_T75 l1 x13_2).f0).toNat)) = ji20 := fun h_ => (i64_w _).symm.trans (hji20z h_)
            have c21b0 := eq_true (ofA : 0 ≤ ((rd_T75 l1 x13_2).f1))
            obtain ⟨ji22, hji22⟩ : ∃ j_ : Int, (shl .i64 1 ((rd_T75 l1 x13_2).f1)) = j_ := ⟨_, rfl⟩
            replace H : (impl_connected.l1 k2 a0 l1 (Go.bits .or .i64 x5_2 (Go.bits .or .i64 (ji20) (ji22))) a0 x9_1 l1 (l1.length : Int) (wrap64 (x13_2 + 1))) = some r := by first | (rw [hji22] at H; exact H) | (simp only [hji22] at H ⊢; exact H)
            have hji22_ : (IntKind.i64.wrap (1 * 2 ^ min ((rd_T75 l1 x13_2).f1).toNat 64)) = ji22 := hji22
            have hji22z : ((rd_T75 l1 x13_2).f1) ≤ 64 → (IntKind.i64.wrap (1 * 2 ^ ((rd_T75 l1 x13_2).f1).toNat)) = ji22 := shl_small hji22
            have hji22u : (IntKind.i64.wrap (2 ^ min ((rd_T75 l1 x13_2).f1).toNat 64)) = ji22 := by have h_ := hji22_; rw [Int.one_mul] at h_; exact h_
            have hji22v : ((rd_T75 l1 x13_2).f1) ≤ 64 → (IntKind.i64.wrap (2 ^ ((rd_T75 l1 x13_2).f1).toNat)) = ji22 := fun hle_ => by have h_ := hji22z hle_; rw [Int.one_mul] at h_; exact h_
            have hji22y : (wrap64 (1 * 2 ^ min ((rd_T75 l1 x13_2).f1).toNat 64)) = ji22 := (i64_w _).symm.trans hji22_
            have hji22x : ((rd_T75 l1 x13_2).f1) ≤ 64 → (wrap64 (1 * 2 ^ ((rd_T75 l1 x13_2).f1).toNat)) = ji22 := fun h_ => (i64_w _).symm.trans (hji22z h_)
            have H' := Aside0.mk H
            clear H
            have p300 : 0 ≤ (x13_2 : Int) := ofA
            have q300 : x13_2 < (l1.length : Int) := ofA
            obtain ⟨ad300, e300, hx300_0, hx300_1⟩ := at_T75 HR1.out x13_2 p300 q300
            cases e300
            replace hx300_0 := (HB.out.cell (World.block_lt_of_cell? w _ hx300_0)).trans hx300_0
            replace hx300_1 := (HB.out.cell (World.block_lt_of_cell? w _ hx300_1)).trans hx300_1
            replace p300 := eq_true p300
            replace q300 := eq_true q300
            go_wp2_with (first | ((with_reducible refine gate_dst (N := 7) rfl ?_); refine box_event ?hg (N := 7) ?hd (cs := #[.int .i64 0, .int .i64 0]) (t := 75) ?hr ?_; (case hd => rfl); (case hg => rfl); (case hr => first | (go_simp; done) | (go_simp; rfl)); intro gb301 hg w23 hbox hb; have BK301 := Aside0.mk (hbox); have GW301 := Aside0.mk ((by rw [hg]; exact (below_size (Lz HB)) : w.heap.size ≤ gb301)); have GE301 := Aside0.mk ((by rw [hg]; exact (below_size (Lz HB)) : w.heap.size ≤ gb301)); replace HB := Aside0.mk (below_step (Lz HB) hb); clear hb hbox hg; have hcz24_0 : w23.cell? ⟨gb301, 0, none⟩ = some (.int .i64 0) := (blk_cell BK301.out 0).trans rfl; have hcz24_1 : w23.cell? ⟨gb301, 1, none⟩ = some (.int .i64 0) := (blk_cell BK301.out 1).trans rfl; have hfz24_0 := blk_frozen BK301.out 0; have hfz24_1 := blk_frozen BK301.out 1))
            repeat (go_quiet (first | ((with_reducible refine gate_dst (N := 7) rfl ?_); refine box_event ?hg (N := 7) ?hd (cs := #[.int .i64 0, .int .i64 0]) (t := 75) ?hr ?_; (case hd => rfl); (case hg => rfl); (case hr => first | (go_simp; done) | (go_simp; rfl)); intro gb301 hg w23 hbox hb; have BK301 := Aside0.mk (hbox); have GW301 := Aside0.mk ((by rw [hg]; exact (below_size (Lz HB)) : w.heap.size ≤ gb301)); have GE301 := Aside0.mk ((by rw [hg]; exact (below_size (Lz HB)) : w.heap.size ≤ gb301)); replace HB := Aside0.mk (below_step (Lz HB) hb); clear hb hbox hg; have hcz24_0 : w23.cell? ⟨gb301, 0, none⟩ = some (.int .i64 0) := (blk_cell BK301.out 0).trans rfl; have hcz24_1 : w23.cell? ⟨gb301, 1, none⟩ = some (.int .i64 0) := (blk_cell BK301.out 1).trans rfl; have hfz24_0 := blk_frozen BK301.out 0; have hfz24_1 := blk_frozen BK301.out 1)); try go_wp2_with (first | ((with_reducible refine gate_dst (N := 7) rfl ?_); refine box_event ?hg (N := 7) ?hd (cs := #[.int .i64 0, .int .i64 0]) (t := 75) ?hr ?_; (case hd => rfl); (case hg => rfl); (case hr => first | (go_simp; done) | (go_simp; rfl)); intro gb301 hg w23 hbox hb; have BK301 := Aside0.mk (hbox); have GW301 := Aside0.mk ((by rw [hg]; exact (below_size (Lz HB)) : w.heap.size ≤ gb301)); have GE301 := Aside0.mk ((by rw [hg]; exact (below_size (Lz HB)) : w.heap.size ≤ gb301)); replace HB := Aside0.mk (below_step (Lz HB) hb); clear hb hbox hg; have hcz24_0 : w23.cell? ⟨gb301, 0, none⟩ = some (.int .i64 0) := (blk_cell BK301.out 0).trans rfl; have hcz24_1 : w23.cell? ⟨gb301, 1, none⟩ = some (.int .i64 0) := (blk_cell BK301.out 1).trans rfl; have hfz24_0 := blk_frozen BK301.out 0; have hfz24_1 := blk_frozen BK301.out 1)))
            go_roundg k2
            case measure => have := HK1.out; have := HK2.out; omega
            case rel => exact ⟨(Go.bits .or .i64 x5_2 (Go.bits .or .i64 (ji20) (ji22))), (wrap64 (x13_2 + 1)), (by first | rfl | (simp; done) | (simp only [← hji20, ← hji22] <;> (first | rfl | simp)) | (simp [*]; done)), eqA, H', ⟨by have := HK1.out; have := HK2.out; omega⟩, ⟨by exact Lz1 HB GE301⟩⟩
           rw [if_neg c18] at H
           have c18b0 : ((Go.bits .and .i64 (ji17) 1) == 1) = false := beq_eq_false_iff_ne.mpr c18
           have c18b1 : ((Go.bits .and .i64 (ji17) 1) != 1) = true := bne_iff_ne.mpr c18
           have H' := Aside0.mk H
           clear H
           have p300 : 0 ≤ (x13_2 : Int) := ofA
           have q300 : x13_2 < (l1.length : Int) := ofA
           obtain ⟨ad300, e300, hx300_0, hx300_1⟩ := at_T75 HR1.out x13_2 p300 q300
           cases e300
           replace hx300_0 := (HB.out.cell (World.block_lt_of_cell? w _ hx300_0)).trans hx300_0
           replace hx300_1 := (HB.out.cell (World.block_lt_of_cell? w _ hx300_1)).trans hx300_1
           replace p300 := eq_true p300
           replace q300 := eq_true q300
           go_wp2_with (first | ((with_reducible refine gate_dst (N := 7) rfl ?_); refine box_event ?hg (N := 7) ?hd (cs := #[.int .i64 0, .int .i64 0]) (t := 75) ?hr ?_; (case hd => rfl); (case hg => rfl); (case hr => first | (go_simp; done) | (go_simp; rfl)); intro gb301 hg w25 hbox hb; have BK301 := Aside0.mk (hbox); have GW301 := Aside0.mk ((by rw [hg]; exact (below_size (Lz HB)) : w.heap.size ≤ gb301)); have GE301 := Aside0.mk ((by rw [hg]; exact (below_size (Lz HB)) : w.heap.size ≤ gb301)); replace HB := Aside0.mk (below_step (Lz HB) hb); clear hb hbox hg; have hcz26_0 : w25.cell? ⟨gb301, 0, none⟩ = some (.int .i64 0) := (blk_cell BK301.out 0).trans rfl; have hcz26_1 : w25.cell? ⟨gb301, 1, none⟩ = some (.int .i64 0) := (blk_cell BK301.out 1).trans rfl; have hfz26_0 := blk_frozen BK301.out 0; have hfz26_1 := blk_frozen BK301.out 1))
           repeat (go_quiet (first | ((with_reducible refine gate_dst (N := 7) rfl ?_); refine box_event ?hg (N := 7) ?hd (cs := #[.int .i64 0, .int .i64 0]) (t := 75) ?hr ?_; (case hd => rfl); (case hg => rfl); (case hr => first | (go_simp; done) | (go_simp; rfl)); intro gb301 hg w25 hbox hb; have BK301 := Aside0.mk (hbox); have GW301 := Aside0.mk ((by rw [hg]; exact (below_size (Lz HB)) : w.heap.size ≤ gb301)); have GE301 := Aside0.mk ((by rw [hg]; exact (below_size (Lz HB)) : w.heap.size ≤ gb301)); replace HB := Aside0.mk (below_step (Lz HB) hb); clear hb hbox hg; have hcz26_0 : w25.cell? ⟨gb301, 0, none⟩ = some (.int .i64 0) := (blk_cell BK301.out 0).trans rfl; have hcz26_1 : w25.cell? ⟨gb301, 1, none⟩ = some (.int .i64 0) := (blk_cell BK301.out 1).trans rfl; have hfz26_0 := blk_frozen BK301.out 0; have hfz26_1 := blk_frozen BK301.out 1)); try go_wp2_with (first | ((with_reducible refine gate_dst (N := 7) rfl ?_); refine box_event ?hg (N := 7) ?hd (cs := #[.int .i64 0, .int .i64 0]) (t := 75) ?hr ?_; (case hd => rfl); (case hg => rfl); (case hr => first | (go_simp; done) | (go_simp; rfl)); intro gb301 hg w25 hbox hb; have BK301 := Aside0.mk (hbox); have GW301 := Aside0.mk ((by rw [hg]; exact (below_size (Lz HB)) : w.heap.size ≤ gb301)); have GE301 := Aside0.mk ((by rw [hg]; exact (below_size (Lz HB)) : w.heap.size ≤ gb301)); replace HB := Aside0.mk (below_step (Lz HB) hb); clear hb hbox hg; have hcz26_0 : w25.cell? ⟨gb301, 0, none⟩ = some (.int .i64 0) := (blk_cell BK301.out 0).trans rfl; have hcz26_1 : w25.cell? ⟨gb301, 1, none⟩ = some (.int .i64 0) := (blk_cell BK301.out 1).trans rfl; have hfz26_0 := blk_frozen BK301.out 0; have hfz26_1 := blk_frozen BK301.out 1)))
           go_roundg k2
           case measure => have := HK1.out; have := HK2.out; omega
           case rel => exact ⟨(x5_2), (wrap64 (x13_2 + 1)), eqA, eqA, H', ⟨by have := HK1.out; have := HK2.out; omega⟩, ⟨by exact Lz1 HB GE301⟩⟩
          rw [if_neg c16] at H
          exact absurd H (by simp)
         rw [if_neg c7] at H
         exact absurd H (by simp)
        rw [if_neg c6] at H
        exact absurd H (by simp)
       rw [if_neg c5] at H
       exact absurd H (by simp)
      rw [if_neg c4] at H
      have c4b0 : decide (x13_2 < (l1.length : Int)) = false := decide_eq_false c4
      clear c4
      have H' := Aside0.mk H
      clear H
      go_wp2
      repeat (go_quiet (fail); try go_wp2)
      go_roundg k2
      case measure => have := HK1.out; have := HK2.out; omega
      case rel => exact ⟨(x5_2), (wrap64 (x9_1 + 1)), eqA, eqA, H', ⟨by have := HK1.out; have := HK2.out; omega⟩, ⟨by exact Lz HB⟩⟩
   rw [if_neg c3] at H
   have c3b0 : decide (x9_1 < a0) = false := decide_eq_false c3
   clear c3
   by_cases c27 : 0 ≤ a0
   ·rw [if_pos c27] at H
    have c27b0 := eq_true c27
    have c27b1 : decide (0 ≤ a0) = true := decide_eq_true c27
    clear c27
    obtain ⟨ji28, hji28⟩ : ∃ j_ : Int, (shl .i64 1 a0) = j_ := ⟨_, rfl⟩
    replace H : (some (x5_1 == (wrap64 ((ji28) - 1)))) = some r := by first | (rw [hji28] at H; exact H) | (simp only [hji28] at H ⊢; exact H)
    have hji28_ : (IntKind.i64.wrap (1 * 2 ^ min a0.toNat 64)) = ji28 := hji28
    have hji28z : a0 ≤ 64 → (IntKind.i64.wrap (1 * 2 ^ a0.toNat)) = ji28 := shl_small hji28
    have hji28u : (IntKind.i64.wrap (2 ^ min a0.toNat 64)) = ji28 := by have h_ := hji28_; rw [Int.one_mul] at h_; exact h_
    have hji28v : a0 ≤ 64 → (IntKind.i64.wrap (2 ^ a0.toNat)) = ji28 := fun hle_ => by have h_ := hji28z hle_; rw [Int.one_mul] at h_; exact h_
    have hji28y : (wrap64 (1 * 2 ^ min a0.toNat 64)) = ji28 := (i64_w _).symm.trans hji28_
    have hji28x : a0 ≤ 64 → (wrap64 (1 * 2 ^ a0.toNat)) = ji28 := fun h_ => (i64_w _).symm.trans (hji28z h_)
    obtain rfl := Option.some.inj H
    go_wp2
    repeat (go_quiet (fail); try go_wp2)
    go_ret
    exact ⟨by first | rfl | (simp [errW_none, errW_some] <;> rfl) | (simp only [← hji28]; first | rfl | (simp [errW_none, errW_some] <;> rfl)) | (simp [*, errW_none, errW_some] <;> rfl), by exact Lz HB⟩
   rw [if_neg c27] at H
   exact absurd H (by simp)
def impl_GraphOk.f (k : Nat) (a0_0 : Int) (l0_1 : List (S75)) : Option (Bool) := (impl_EdgesOk.f k a0_0 l0_1).bind fun t303 => (if t303 = true then ((slices_IsSortedFunc_Edge.f k l0_1).bind fun t304 => (if t304 = true then ((impl_connected.f k a0_0 l0_1).bind fun t305 => (some t305)) else (some false))) else (some false))
set_option maxHeartbeats 8000000 in
set_option maxRecDepth 100000 in
theorem impl_GraphOk.calls (k : Nat) (a0_0 : Int) (A0_1 : Option Addr) (c0_1 : Nat) (l0_1 : List (S75)) (r : Bool) (w : World) (hr0_1 : Kd.C k75 w A0_1 l0_1.length l0_1) (hc0_1 : l0_1.length ≤ c0_1) (h : impl_GraphOk.f k a0_0 l0_1 = some r) :
  Calls Try.prog 53 #[.agg #[.int .i64 a0_0, .slice A0_1 l0_1.length c0_1]] w fun e w' => e = .returned (.bool r) ∧ Below w.heap.size w w' := by
 have hu42 := Try.underlying42
 have HR0_1 := Aside0.mk hr0_1
 have HC0_1 := Aside0.mk hc0_1
 clear hr0_1 hc0_1
 have HB := Aside0.mk (Below.refl w.heap.size w)
 have H : ((impl_EdgesOk.f k a0_0 l0_1).bind fun t303 => (if t303 = true then ((slices_IsSortedFunc_Edge.f k l0_1).bind fun t304 => (if t304 = true then ((impl_connected.f k a0_0 l0_1).bind fun t305 => (some t305)) else (some false))) else (some false))) = some r := h
 clear h
 replace H := Option.bind_eq_some_iff.mp H
 obtain ⟨t303, A20, H⟩ := H
 replace H : (if t303 = true then ((slices_IsSortedFunc_Edge.f k l0_1).bind fun t304 => (if t304 = true then ((impl_connected.f k a0_0 l0_1).bind fun t305 => (some t305)) else (some false))) else (some false)) = some r := H
 have A2 := Aside0.mk A20
 clear A20
 by_cases c3 : t303 = true
 ·subst c3
  have H1 : ((slices_IsSortedFunc_Edge.f k l0_1).bind fun t304 => (if t304 = true then ((impl_connected.f k a0_0 l0_1).bind fun t305 => (some t305)) else (some false))) = some r := by rw [if_pos rfl] at H; exact H
  clear H
  have H := H1
  clear H1
  replace H := Option.bind_eq_some_iff.mp H
  obtain ⟨t304, A40, H⟩ := H
  replace H : (if t304 = true then ((impl_connected.f k a0_0 l0_1).bind fun t305 => (some t305)) else (some false)) = some r := H
  have A4 := Aside0.mk A40
  clear A40
  by_cases c5 : t304 = true
  ·subst c5
   have H1 : ((impl_connected.f k a0_0 l0_1).bind fun t305 => (some t305)) = some r := by rw [if_pos rfl] at H; exact H
   clear H
   have H := H1
   clear H1
   replace H := Option.bind_eq_some_iff.mp H
   obtain ⟨t305, A60, H⟩ := H
   replace H : (some t305) = some r := H
   have A6 := Aside0.mk A60
   clear A60
   obtain rfl := Option.some.inj H
   go_enter Try.func53, Try.ntmps53
   go_wp2_with (first | ((with_reducible refine gate_dst (N := 1) rfl ?_); refine box_event ?hg (N := 1) ?hd (cs := #[.int .i64 a0_0, .slice A0_1 l0_1.length c0_1]) (t := 42) ?hr ?_; (case hd => rfl); (case hg => rfl); (case hr => first | (go_simp; done) | (go_simp; rfl)); intro gb302 hg w7 hbox hb; have BK302 := Aside0.mk (hbox); have GW302 := Aside0.mk ((by rw [hg]; exact (below_size (Lz HB)) : w.heap.size ≤ gb302)); have GE302 := Aside0.mk ((by rw [hg]; exact (below_size (Lz HB)) : w.heap.size ≤ gb302)); replace HB := Aside0.mk (below_step (Lz HB) hb); clear hb hbox hg; have hcz8_0 : w7.cell? ⟨gb302, 0, none⟩ = some (.int .i64 a0_0) := (blk_cell BK302.out 0).trans rfl; have hcz8_1 : w7.cell? ⟨gb302, 1, none⟩ = some (.slice A0_1 l0_1.length c0_1) := (blk_cell BK302.out 1).trans rfl; have hfz8_0 := blk_frozen BK302.out 0; have hfz8_1 := blk_frozen BK302.out 1) | ((with_reducible refine gate_callee (f := 85) rfl ?_); refine goesM_ (some 4) rfl rfl Try.func85 (by kernel_rfl) rfl #[.agg #[.int .i64 a0_0, .slice A0_1 l0_1.length c0_1]] rfl ?_; (with_reducible refine (impl_EdgesOk.calls k a0_0 _ _ l0_1 true _ ?side1 ?side2 A2.out).mono ?_); (case side1 => exact Cz ((Kd.C_below HR0_1.out HB.out))); (case side2 => exact HC0_1.out); rintro e w9 ⟨rfl, hb⟩; refine ⟨_, rfl, ?_⟩; replace BK302 := Aside0.mk (blk_below (g := gb302) (o := .cells #[.int .i64 a0_0, .slice A0_1 l0_1.length c0_1] 42 (0, 0)) (Bz BK302) hb); replace HB := Aside0.mk (below_step (by exact Lz1 HB GE302) hb); (try clear hb); (try clear hb2); (try clear hk); (try clear hi); have hcz10_0 : w9.cell? ⟨gb302, 0, none⟩ = some (.int .i64 a0_0) := (blk_cell BK302.out 0).trans rfl; have hcz10_1 : w9.cell? ⟨gb302, 1, none⟩ = some (.slice A0_1 l0_1.length c0_1) := (blk_cell BK302.out 1).trans rfl; have hfz10_0 := blk_frozen BK302.out 0; have hfz10_1 := blk_frozen BK302.out 1) | (go_at_call 86; (with_reducible refine (slices_IsSortedFunc_Edge.calls k _ _ l0_1 true _ ?side1 ?side2 A4.out).mono ?_); (case side1 => exact Cz ((Kd.C_below HR0_1.out HB.out))); (case side2 => exact HC0_1.out); rintro e w11 ⟨rfl, hb⟩; replace BK302 := Aside0.mk (blk_below (g := gb302) (o := .cells #[.int .i64 a0_0, .slice A0_1 l0_1.length c0_1] 42 (0, 0)) (Bz BK302) hb); replace HB := Aside0.mk (below_step (by exact Lz1 HB GE302) hb); (try clear hb); (try clear hb2); (try clear hk); (try clear hi); have hcz12_0 : w11.cell? ⟨gb302, 0, none⟩ = some (.int .i64 a0_0) := (blk_cell BK302.out 0).trans rfl; have hcz12_1 : w11.cell? ⟨gb302, 1, none⟩ = some (.slice A0_1 l0_1.length c0_1) := (blk_cell BK302.out 1).trans rfl; have hfz12_0 := blk_frozen BK302.out 0; have hfz12_1 := blk_frozen BK302.out 1) | (go_at_call 87; (with_reducible refine (impl_connected.calls k a0_0 _ _ l0_1 t305 _ ?side1 ?side2 A6.out).mono ?_); (case side1 => exact Cz ((Kd.C_below HR0_1.out HB.out))); (case side2 => exact HC0_1.out); rintro e w13 ⟨rfl, hb⟩; replace BK302 := Aside0.mk (blk_below (g := gb302) (o := .cells #[.int .i64 a0_0, .slice A0_1 l0_1.length c0_1] 42 (0, 0)) (Bz BK302) hb); replace HB := Aside0.mk (below_step (by exact Lz1 HB GE302) hb); (try clear hb); (try clear hb2); (try clear hk); (try clear hi)))
   go_ret
   exact ⟨by first | rfl | (simp [errW_none, errW_some] <;> rfl) | (simp [*, errW_none, errW_some] <;> rfl), by exact Lz1 HB GE302⟩
  replace c5 := Bool.eq_false_iff.mpr c5
  subst c5
  have H1 : (some false) = some r := by rw [if_neg (show ¬ (false = true) by decide)] at H; exact H
  clear H
  have H := H1
  clear H1
  obtain rfl := Option.some.inj H
  go_enter Try.func53, Try.ntmps53
  go_wp2_with (first | ((with_reducible refine gate_dst (N := 1) rfl ?_); refine box_event ?hg (N := 1) ?hd (cs := #[.int .i64 a0_0, .slice A0_1 l0_1.length c0_1]) (t := 42) ?hr ?_; (case hd => rfl); (case hg => rfl); (case hr => first | (go_simp; done) | (go_simp; rfl)); intro gb302 hg w14 hbox hb; have BK302 := Aside0.mk (hbox); have GW302 := Aside0.mk ((by rw [hg]; exact (below_size (Lz HB)) : w.heap.size ≤ gb302)); have GE302 := Aside0.mk ((by rw [hg]; exact (below_size (Lz HB)) : w.heap.size ≤ gb302)); replace HB := Aside0.mk (below_step (Lz HB) hb); clear hb hbox hg; have hcz15_0 : w14.cell? ⟨gb302, 0, none⟩ = some (.int .i64 a0_0) := (blk_cell BK302.out 0).trans rfl; have hcz15_1 : w14.cell? ⟨gb302, 1, none⟩ = some (.slice A0_1 l0_1.length c0_1) := (blk_cell BK302.out 1).trans rfl; have hfz15_0 := blk_frozen BK302.out 0; have hfz15_1 := blk_frozen BK302.out 1) | ((with_reducible refine gate_callee (f := 85) rfl ?_); refine goesM_ (some 4) rfl rfl Try.func85 (by kernel_rfl) rfl #[.agg #[.int .i64 a0_0, .slice A0_1 l0_1.length c0_1]] rfl ?_; (with_reducible refine (impl_EdgesOk.calls k a0_0 _ _ l0_1 true _ ?side1 ?side2 A2.out).mono ?_); (case side1 => exact Cz ((Kd.C_below HR0_1.out HB.out))); (case side2 => exact HC0_1.out); rintro e w16 ⟨rfl, hb⟩; refine ⟨_, rfl, ?_⟩; replace BK302 := Aside0.mk (blk_below (g := gb302) (o := .cells #[.int .i64 a0_0, .slice A0_1 l0_1.length c0_1] 42 (0, 0)) (Bz BK302) hb); replace HB := Aside0.mk (below_step (by exact Lz1 HB GE302) hb); (try clear hb); (try clear hb2); (try clear hk); (try clear hi); have hcz17_0 : w16.cell? ⟨gb302, 0, none⟩ = some (.int .i64 a0_0) := (blk_cell BK302.out 0).trans rfl; have hcz17_1 : w16.cell? ⟨gb302, 1, none⟩ = some (.slice A0_1 l0_1.length c0_1) := (blk_cell BK302.out 1).trans rfl; have hfz17_0 := blk_frozen BK302.out 0; have hfz17_1 := blk_frozen BK302.out 1) | (go_at_call 86; (with_reducible refine (slices_IsSortedFunc_Edge.calls k _ _ l0_1 false _ ?side1 ?side2 A4.out).mono ?_); (case side1 => exact Cz ((Kd.C_below HR0_1.out HB.out))); (case side2 => exact HC0_1.out); rintro e w18 ⟨rfl, hb⟩; replace BK302 := Aside0.mk (blk_below (g := gb302) (o := .cells #[.int .i64 a0_0, .slice A0_1 l0_1.length c0_1] 42 (0, 0)) (Bz BK302) hb); replace HB := Aside0.mk (below_step (by exact Lz1 HB GE302) hb); (try clear hb); (try clear hb2); (try clear hk); (try clear hi)))
  go_ret
  exact ⟨by first | rfl | (simp [errW_none, errW_some] <;> rfl) | (simp [*, errW_none, errW_some] <;> rfl), by exact Lz1 HB GE302⟩
 replace c3 := Bool.eq_false_iff.mpr c3
 subst c3
 have H1 : (some false) = some r := by rw [if_neg (show ¬ (false = true) by decide)] at H; exact H
 clear H
 have H := H1
 clear H1
 obtain rfl := Option.some.inj H
 go_enter Try.func53, Try.ntmps53
 go_wp2_with (first | ((with_reducible refine gate_dst (N := 1) rfl ?_); refine box_event ?hg (N := 1) ?hd (cs := #[.int .i64 a0_0, .slice A0_1 l0_1.length c0_1]) (t := 42) ?hr ?_; (case hd => rfl); (case hg => rfl); (case hr => first | (go_simp; done) | (go_simp; rfl)); intro gb302 hg w19 hbox hb; have BK302 := Aside0.mk (hbox); have GW302 := Aside0.mk ((by rw [hg]; exact (below_size (Lz HB)) : w.heap.size ≤ gb302)); have GE302 := Aside0.mk ((by rw [hg]; exact (below_size (Lz HB)) : w.heap.size ≤ gb302)); replace HB := Aside0.mk (below_step (Lz HB) hb); clear hb hbox hg; have hcz20_0 : w19.cell? ⟨gb302, 0, none⟩ = some (.int .i64 a0_0) := (blk_cell BK302.out 0).trans rfl; have hcz20_1 : w19.cell? ⟨gb302, 1, none⟩ = some (.slice A0_1 l0_1.length c0_1) := (blk_cell BK302.out 1).trans rfl; have hfz20_0 := blk_frozen BK302.out 0; have hfz20_1 := blk_frozen BK302.out 1) | ((with_reducible refine gate_callee (f := 85) rfl ?_); refine goesM_ (some 4) rfl rfl Try.func85 (by kernel_rfl) rfl #[.agg #[.int .i64 a0_0, .slice A0_1 l0_1.length c0_1]] rfl ?_; (with_reducible refine (impl_EdgesOk.calls k a0_0 _ _ l0_1 false _ ?side1 ?side2 A2.out).mono ?_); (case side1 => exact Cz ((Kd.C_below HR0_1.out HB.out))); (case side2 => exact HC0_1.out); rintro e w21 ⟨rfl, hb⟩; refine ⟨_, rfl, ?_⟩; replace BK302 := Aside0.mk (blk_below (g := gb302) (o := .cells #[.int .i64 a0_0, .slice A0_1 l0_1.length c0_1] 42 (0, 0)) (Bz BK302) hb); replace HB := Aside0.mk (below_step (by exact Lz1 HB GE302) hb); (try clear hb); (try clear hb2); (try clear hk); (try clear hi)))
 go_ret
 exact ⟨by first | rfl | (simp [errW_none, errW_some] <;> rfl) | (simp [*, errW_none, errW_some] <;> rfl), by exact Lz1 HB GE302⟩
def impl_isVertex.f (k : Nat) (a0_0 : Int) (l0_1 : List (S75)) (a1 : Int) : Option (Bool) := (impl_GraphOk.f k a0_0 l0_1).bind fun t307 => (if t307 = true then ((impl_within.f a1 0 (wrap64 (a0_0 - 1))).bind fun t308 => (some t308)) else (some false))
set_option maxHeartbeats 8000000 in
set_option maxRecDepth 100000 in
theorem impl_isVertex.calls (k : Nat) (a0_0 : Int) (A0_1 : Option Addr) (c0_1 : Nat) (l0_1 : List (S75)) (a1 : Int) (r : Bool) (w : World) (hr0_1 : Kd.C k75 w A0_1 l0_1.length l0_1) (hc0_1 : l0_1.length ≤ c0_1) (h : impl_isVertex.f k a0_0 l0_1 a1 = some r) :
  Calls Try.prog 74 #[.agg #[.int .i64 a0_0, .slice A0_1 l0_1.length c0_1], .int .i64 a1] w fun e w' => e = .returned (.bool r) ∧ Below w.heap.size w w' := by
 have hu42 := Try.underlying42
 have HR0_1 := Aside0.mk hr0_1
 have HC0_1 := Aside0.mk hc0_1
 clear hr0_1 hc0_1
 have HB := Aside0.mk (Below.refl w.heap.size w)
 have H : ((impl_GraphOk.f k a0_0 l0_1).bind fun t307 => (if t307 = true then ((impl_within.f a1 0 (wrap64 (a0_0 - 1))).bind fun t308 => (some t308)) else (some false))) = some r := h
 clear h
 replace H := Option.bind_eq_some_iff.mp H
 obtain ⟨t307, A30, H⟩ := H
 replace H : (if t307 = true then ((impl_within.f a1 0 (wrap64 (a0_0 - 1))).bind fun t308 => (some t308)) else (some false)) = some r := H
 have A3 := Aside0.mk A30
 clear A30
 by_cases c4 : t307 = true
 ·subst c4
  have H1 : ((impl_within.f a1 0 (wrap64 (a0_0 - 1))).bind fun t308 => (some t308)) = some r := by rw [if_pos rfl] at H; exact H
  clear H
  have H := H1
  clear H1
  replace H := Option.bind_eq_some_iff.mp H
  obtain ⟨t308, A50, H⟩ := H
  replace H : (some t308) = some r := H
  have A5 := Aside0.mk A50
  clear A50
  obtain rfl := Option.some.inj H
  go_enter Try.func74, Try.ntmps74
  go_wp2_with (first | ((with_reducible refine gate_dst (N := 2) rfl ?_); refine box_event ?hg (N := 2) ?hd (cs := #[.int .i64 a0_0, .slice A0_1 l0_1.length c0_1]) (t := 42) ?hr ?_; (case hd => rfl); (case hg => rfl); (case hr => first | (go_simp; done) | (go_simp; rfl)); intro gb306 hg w6 hbox hb; have BK306 := Aside0.mk (hbox); have GW306 := Aside0.mk ((by rw [hg]; exact (below_size (Lz HB)) : w.heap.size ≤ gb306)); have GE306 := Aside0.mk ((by rw [hg]; exact (below_size (Lz HB)) : w.heap.size ≤ gb306)); replace HB := Aside0.mk (below_step (Lz HB) hb); clear hb hbox hg; have hcz7_0 : w6.cell? ⟨gb306, 0, none⟩ = some (.int .i64 a0_0) := (blk_cell BK306.out 0).trans rfl; have hcz7_1 : w6.cell? ⟨gb306, 1, none⟩ = some (.slice A0_1 l0_1.length c0_1) := (blk_cell BK306.out 1).trans rfl; have hfz7_0 := blk_frozen BK306.out 0; have hfz7_1 := blk_frozen BK306.out 1) | ((with_reducible refine gate_callee (f := 53) rfl ?_); refine goesM_ (some 6) rfl rfl Try.func53 (by kernel_rfl) rfl #[.agg #[.int .i64 a0_0, .slice A0_1 l0_1.length c0_1]] rfl ?_; (with_reducible refine (impl_GraphOk.calls k a0_0 _ _ l0_1 true _ ?side1 ?side2 A3.out).mono ?_); (case side1 => exact Cz ((Kd.C_below HR0_1.out HB.out))); (case side2 => exact HC0_1.out); rintro e w8 ⟨rfl, hb⟩; refine ⟨_, rfl, ?_⟩; replace BK306 := Aside0.mk (blk_below (g := gb306) (o := .cells #[.int .i64 a0_0, .slice A0_1 l0_1.length c0_1] 42 (0, 0)) (Bz BK306) hb); replace HB := Aside0.mk (below_step (by exact Lz1 HB GE306) hb); (try clear hb); (try clear hb2); (try clear hk); (try clear hi); have hcz9_0 : w8.cell? ⟨gb306, 0, none⟩ = some (.int .i64 a0_0) := (blk_cell BK306.out 0).trans rfl; have hcz9_1 : w8.cell? ⟨gb306, 1, none⟩ = some (.slice A0_1 l0_1.length c0_1) := (blk_cell BK306.out 1).trans rfl; have hfz9_0 := blk_frozen BK306.out 0; have hfz9_1 := blk_frozen BK306.out 1) | (go_at_call 76; (with_reducible refine (impl_within.calls a1 0 (wrap64 (a0_0 - 1)) t308 _ A5.out).mono ?_); rintro e w' ⟨rfl, ⟨nd, rfl⟩⟩))
  go_ret
  exact ⟨by first | rfl | (simp [errW_none, errW_some] <;> rfl) | (simp [*, errW_none, errW_some] <;> rfl), by exact Lz1 HB GE306⟩
 replace c4 := Bool.eq_false_iff.mpr c4
 subst c4
 have H1 : (some false) = some r := by rw [if_neg (show ¬ (false = true) by decide)] at H; exact H
 clear H
 have H := H1
 clear H1
 obtain rfl := Option.some.inj H
 go_enter Try.func74, Try.ntmps74
 go_wp2_with (first | ((with_reducible refine gate_dst (N := 2) rfl ?_); refine box_event ?hg (N := 2) ?hd (cs := #[.int .i64 a0_0, .slice A0_1 l0_1.length c0_1]) (t := 42) ?hr ?_; (case hd => rfl); (case hg => rfl); (case hr => first | (go_simp; done) | (go_simp; rfl)); intro gb306 hg w10 hbox hb; have BK306 := Aside0.mk (hbox); have GW306 := Aside0.mk ((by rw [hg]; exact (below_size (Lz HB)) : w.heap.size ≤ gb306)); have GE306 := Aside0.mk ((by rw [hg]; exact (below_size (Lz HB)) : w.heap.size ≤ gb306)); replace HB := Aside0.mk (below_step (Lz HB) hb); clear hb hbox hg; have hcz11_0 : w10.cell? ⟨gb306, 0, none⟩ = some (.int .i64 a0_0) := (blk_cell BK306.out 0).trans rfl; have hcz11_1 : w10.cell? ⟨gb306, 1, none⟩ = some (.slice A0_1 l0_1.length c0_1) := (blk_cell BK306.out 1).trans rfl; have hfz11_0 := blk_frozen BK306.out 0; have hfz11_1 := blk_frozen BK306.out 1) | ((with_reducible refine gate_callee (f := 53) rfl ?_); refine goesM_ (some 6) rfl rfl Try.func53 (by kernel_rfl) rfl #[.agg #[.int .i64 a0_0, .slice A0_1 l0_1.length c0_1]] rfl ?_; (with_reducible refine (impl_GraphOk.calls k a0_0 _ _ l0_1 false _ ?side1 ?side2 A3.out).mono ?_); (case side1 => exact Cz ((Kd.C_below HR0_1.out HB.out))); (case side2 => exact HC0_1.out); rintro e w12 ⟨rfl, hb⟩; refine ⟨_, rfl, ?_⟩; replace BK306 := Aside0.mk (blk_below (g := gb306) (o := .cells #[.int .i64 a0_0, .slice A0_1 l0_1.length c0_1] 42 (0, 0)) (Bz BK306) hb); replace HB := Aside0.mk (below_step (by exact Lz1 HB GE306) hb); (try clear hb); (try clear hb2); (try clear hk); (try clear hi)))
 go_ret
 exact ⟨by first | rfl | (simp [errW_none, errW_some] <;> rfl) | (simp [*, errW_none, errW_some] <;> rfl), by exact Lz1 HB GE306⟩
def impl_copyGraph.f (a0_0 : Int) (l0_1 : List (S75)) : Option (Int × (List (S75))) := if ([] : List (S75)).length + l0_1.length < 8796093022208 then (some (a0_0, (([] : List (S75)) ++ l0_1))) else (none)
set_option maxHeartbeats 8000000 in
set_option maxRecDepth 100000 in
theorem impl_copyGraph.calls (a0_0 : Int) (A0_1 : Option Addr) (c0_1 : Nat) (l0_1 : List (S75)) (r1 : Int) (r2 : List (S75)) (w : World) (hr0_1 : Kd.C k75 w A0_1 l0_1.length l0_1) (hc0_1 : l0_1.length ≤ c0_1) (h : impl_copyGraph.f a0_0 l0_1 = some (r1, r2)) :
  Calls Try.prog 77 #[.agg #[.int .i64 a0_0, .slice A0_1 l0_1.length c0_1]] w fun e w' => ∃ v1_ : Value, e = .returned (.agg #[.int .i64 r1, v1_]) ∧ Kd.R k75 75 w' w.heap.size (fun _ => True) v1_ r2 ∧ Below w.heap.size w w' := by
 have hu42 := Try.underlying42
 have HR0_1 := Aside0.mk hr0_1
 have HC0_1 := Aside0.mk hc0_1
 clear hr0_1 hc0_1
 have HB := Aside0.mk (Below.refl w.heap.size w)
 have H : (if ([] : List (S75)).length + l0_1.length < 8796093022208 then (some (a0_0, (([] : List (S75)) ++ l0_1))) else (none)) = some (r1, r2) := h
 clear h
 by_cases c2 : ([] : List (S75)).length + l0_1.length < 8796093022208
 ·rw [if_pos c2] at H
  have LMc2 := Aside0.mk c2
  clear c2
  obtain ⟨y389, hy389⟩ : ∃ y_ : List (S75), y_ = (([] : List (S75)) ++ l0_1) := ⟨_, rfl⟩
  replace H : (some (a0_0, y389)) = some (r1, r2) := by first | (rw [hy389]; with_reducible exact H) | (have H2_ := (Option.bind_some _ _).symm.trans H; rw [hy389]; with_reducible exact H2_) | (have H2_ := (Option.bind_some _ _).symm.trans H; with_reducible exact H2_) | with_reducible exact H | (rw [hy389]; exact H) | exact H
  have Ny389 := Aside0.mk hy389
  clear hy389
  simp only [Option.some.injEq, Prod.mk.injEq] at H
  obtain ⟨rfl, rfl⟩ := H
  go_enter Try.func77, Try.ntmps77
  try go_wp2_with (first | ((with_reducible refine gate_dst (N := 1) rfl ?_); refine box_event ?hg (N := 1) ?hd (cs := #[.int .i64 a0_0, .slice A0_1 l0_1.length c0_1]) (t := 42) ?hr ?_; (case hd => rfl); (case hg => rfl); (case hr => first | (go_simp; done) | (go_simp; rfl)); intro gb387 hg w3 hbox hb; have BK387 := Aside0.mk (hbox); have GW387 := Aside0.mk ((by rw [hg]; exact (below_size (Lz HB)) : w.heap.size ≤ gb387)); have GE387 := Aside0.mk ((by rw [hg]; exact (below_size (Lz HB)) : w.heap.size ≤ gb387)); replace HB := Aside0.mk (below_step (Lz HB) hb); clear hb hbox hg) | ((with_reducible refine gate_dst (N := 2) rfl ?_); refine box_event ?hg (N := 2) ?hd (cs := #[.int .i64 0, .slice none 0 0]) (t := 42) ?hr ?_; (case hd => rfl); (case hg => rfl); (case hr => first | (go_simp; done) | (go_simp; rfl)); intro gb388 hg w4 hbox hb; have BK388 := Aside0.mk (hbox); have GW388 := Aside0.mk ((by rw [hg]; exact (below_size (by exact Lz1 HB GE387)) : w.heap.size ≤ gb388)); have GE388 := Aside0.mk ((by rw [hg]; exact (below_size (by exact Lz1 HB GE387)) : w.heap.size ≤ gb388)); replace HB := Aside0.mk (below_step (by exact Lz1 HB GE387) hb); have NB387_388 := Aside0.mk ((by rw [hg]; exact Nat.ne_of_lt (blk_lt (g := gb387) (o := .cells #[.int .i64 a0_0, .slice A0_1 l0_1.length c0_1] 42 (0, 0)) (Bz BK387)) : gb387 ≠ gb388)); have NB388_387 := Aside0.mk ((by rw [hg]; exact Nat.ne_of_gt (blk_lt (g := gb387) (o := .cells #[.int .i64 a0_0, .slice A0_1 l0_1.length c0_1] 42 (0, 0)) (Bz BK387)) : gb388 ≠ gb387)); replace BK387 := Aside0.mk (blk_below (g := gb387) (o := .cells #[.int .i64 a0_0, .slice A0_1 l0_1.length c0_1] 42 (0, 0)) (Bz BK387) hb); clear hb hbox hg))
  replace BK387 := Aside0.mk (blk_drew BK387.out)
  replace BK388 := Aside0.mk (blk_drew BK388.out)
  replace HB := Aside0.mk (below_drew1 HB.out)
  refine start_ (n := 7) (S := fun w' => w'.cell? ⟨gb387, 0, none⟩ = some (.int .i64 a0_0) ∧ w'.cell? ⟨gb387, 1, none⟩ = some (.slice A0_1 l0_1.length c0_1)) (ds := []) #[false, false, false, false, false, false, false] (by kernel_rfl) rfl rfl ⟨(blk_cell BK387.out 0).trans rfl, (blk_cell BK387.out 1).trans rfl⟩ (fun hHeld => ?_)
  generalize w4.drew = w5 at BK387 BK388 HB hHeld ⊢
  refine pure_ (i := 0) (N := some 3) (v := ?_) (a' := ?_) #[true, false, false, false, false, false, false] rfl rfl (by kernel_rfl) (fun _ _ _ h => h) (Or.inl ⟨by rfl, ?_⟩) ?_ ?_
  rotate_left
  ·intro w'
   go_simp
   with_reducible rfl
  rotate_left
  ·simp only [Act.put, List.setIfInBounds_toArray, List.set_cons_zero, List.set_cons_succ, i64_w, i32_w]
   rfl
  refine pure_ (i := 2) (N := some 5) (v := ?_) (a' := ?_) #[true, false, true, false, false, false, false] rfl rfl (by kernel_rfl) (fun _ _ _ h => h) (Or.inl ⟨by rfl, ?_⟩) ?_ ?_
  rotate_left
  ·intro w'
   go_simp
   with_reducible rfl
  rotate_left
  ·simp only [Act.put, List.setIfInBounds_toArray, List.set_cons_zero, List.set_cons_succ, i64_w, i32_w]
   rfl
  refine take_ (i := 1) (N := some 4) (v := ?_) (a' := ?_) #[true, true, true, false, false, false, false] rfl rfl (by kernel_rfl) (fun _ _ _ h => h) (Or.inl ⟨by rfl, ?_⟩) hHeld ?_ ?_
  rotate_left
  ·rintro w' ⟨s0, s1⟩
   go_simp
   with_reducible rfl
  rotate_left
  ·simp only [Act.put, List.setIfInBounds_toArray, List.set_cons_zero, List.set_cons_succ, i64_w, i32_w]
   rfl
  refine take_ (i := 3) (N := some 6) (v := ?_) (a' := ?_) #[true, true, true, true, false, false, false] rfl rfl (by kernel_rfl) (fun _ _ _ h => h) (Or.inl ⟨by rfl, ?_⟩) hHeld ?_ ?_
  rotate_left
  ·rintro w' ⟨s0, s1⟩
   go_simp
   with_reducible rfl
  rotate_left
  ·simp only [Act.put, List.setIfInBounds_toArray, List.set_cons_zero, List.set_cons_succ, i64_w, i32_w]
   rfl
  refine one_ (i := 4) (N := some 7) #[true, true, true, true, true, false, false] rfl rfl (by kernel_rfl) (by decide) (fun K hK => ?_)
  refine Kd.R_append_rows_step k75 (w0 := w) w.heap.size (by rfl) (.const (.slice none 0 0)) (.tmp 6) 40 75 (.agg #[(.int .i64 0), (.int .i64 0)]) 16 rfl Try.underlying40 info75 rfl (by decide) (by omega) (.slice none 0 0) ([] : List (S75)) l0_1 _ _ _ (fun _ => True) (fun _ => False) rfl rfl ?aO ?aR (fun _ _ h => h) (fun _ h => h.elim) ?aF ?aB ?aS ?aL ?_
  (case aR => exact Cz ((Kd.C_below HR0_1.out HB.out)))
  (case aB => exact (by exact Lz2 HB GE387 GE388))
  (case aF => exact (fun _ _ => trivial))
  (case aO => exact ((Kd.R_nil _ _ _ _ (fun _ => True))))
  (case aS => exact (below_size (by exact Lz2 HB GE387 GE388)))
  (case aL => have := LMc2.out; omega)
  intro v390 w6 ho hb hg hat
  rw [← Ny389.out] at ho
  replace BK387 := Aside0.mk (blk_grown (g := gb387) (o := .cells #[.int .i64 a0_0, .slice A0_1 l0_1.length c0_1] 42 (0, 0)) (Bz BK387) hg (by simp [Value.ownBlock]))
  replace BK388 := Aside0.mk (blk_grown (g := gb388) (o := .cells #[.int .i64 0, .slice none 0 0] 42 (0, 0)) (Bz BK388) hg (by simp [Value.ownBlock]))
  replace HB := Aside0.mk (hb)
  have HO391 := Aside0.mk (ho)
  clear ho hb hg hat
  obtain ⟨Ao7, co7, eo7⟩ := Kd.R_slice HO391.out
  (first | subst eo7 | (injection eo7 with f1_ f2_ f3_; have f4_ := f1_.symm; have f5_ := f3_.symm; clear f1_ f2_ f3_; subst f4_; subst f5_))
  refine hK.out _ _ ⟨(blk_cell BK387.out 0).trans rfl, (blk_cell BK387.out 1).trans rfl⟩ (fun hHeld => ?_)
  clear hK K
  refine norm_ (a' := ?_) ?_ ?_
  rotate_left
  ·show Act.put _ (some 7) _ = _
   simp only [Act.put, List.setIfInBounds_toArray, List.set_cons_zero, List.set_cons_succ, i64_w, i32_w]
   rfl
  refine pure_ (i := 5) (N := some 8) (v := ?_) (a' := ?_) #[true, true, true, true, true, true, false] rfl rfl (by kernel_rfl) (fun _ _ _ h => h) (Or.inl ⟨by rfl, ?_⟩) ?_ ?_
  rotate_left
  ·intro w'
   go_simp
   with_reducible rfl
  rotate_left
  ·simp only [Act.put, List.setIfInBounds_toArray, List.set_cons_zero, List.set_cons_succ, i64_w, i32_w]
   rfl
  refine one_ (i := 6) (N := none) #[true, true, true, true, true, true, true] rfl rfl (by kernel_rfl) (by decide) (fun K hK => ?_)
  have hs8 : w6.cell? ⟨gb388, 0, none⟩ = some (.int .i64 0) := (blk_cell BK388.out 0).trans rfl
  have hfs8 := blk_frozen BK388.out 0
  have hns8_0 := NB387_388.out
  have hms8_0 := NB388_387.out
  have hs9 : w6.cell? ⟨gb388, 1, none⟩ = some (.slice none 0 0) := (blk_cell BK388.out 1).trans rfl
  have hfs9 := blk_frozen BK388.out 1
  have hns9_0 := NB387_388.out
  have hms9_0 := NB388_387.out
  refine skip_ (w1 := ?_) (by rfl) rfl ?_ ?_
  rotate_left
  ·go_simp
   rfl
  refine hK.out _ _ ⟨((cell_far (p := ⟨gb388, _, none⟩) NB387_388.out _).trans (((cell_far (p := ⟨gb388, _, none⟩) NB387_388.out _).trans (hHeld.1)))), ((cell_far (p := ⟨gb388, _, none⟩) NB387_388.out _).trans (((cell_far (p := ⟨gb388, _, none⟩) NB387_388.out _).trans (hHeld.2))))⟩ (fun hHeld => ?_)
  clear hK K
  refine done_ (by kernel_rfl) ?_
  try go_wp2
  refine bodyPost_ret (results_cell_row rfl _ _ gb388 42 #[.int .i64 a0_0, .slice Ao7 y389.length co7] (0, 0) _ rfl (by (with_reducible repeat (first | refine blk_drewN ?_ _ | refine blk_drew ?_ | refine blk_alloc ?_ _)); refine blk_put (cs := #[.int .i64 a0_0, .slice none 0 0]) ?_ 1 _ rfl; (with_reducible repeat (first | refine blk_drewN ?_ _ | refine blk_drew ?_ | refine blk_alloc ?_ _)); refine blk_put (cs := #[.int .i64 0, .slice none 0 0]) ?_ 0 _ rfl; exact Bz BK388) Try.underlying42 rfl (by kernel_rfl)) rfl ?_
  exact ⟨_, by first | rfl | (simp [errW_none, errW_some] <;> rfl) | (simp [*, errW_none, errW_some] <;> rfl), by (with_reducible repeat (first | apply Kd.R_alloc | apply Kd.R_drewN | apply Kd.R_drew)); exact Kd.R_mono (Kd.R_far (p := ⟨gb388, 1, none⟩) (Kd.R_far (p := ⟨gb388, 0, none⟩) (Kd.R_types HO391.out BK388.out (by decide)) (fun _ hk => hk.2) (.int .i64 a0_0)) (fun _ hk => hk.2) (.slice Ao7 y389.length co7)) (fun _ hk => trivial), by exact Lz2 HB GE387 GE388⟩
 rw [if_neg c2] at H
 exact absurd H (by simp)
instance : Inhabited S75 := ⟨z75⟩
def slices_SortFunc_Edge.enc (x : S75) : List Value := [.int .i64 x.f0, .int .i64 x.f1]
def slices_SortFunc_Edge.cf (x y : S75) : Int := (impl_compareEdges.f x.f0 x.f1 y.f0 y.f1).getD 0
theorem slices_SortFunc_Edge.cf_some (x y : S75) : impl_compareEdges.f x.f0 x.f1 y.f0 y.f1 = some (slices_SortFunc_Edge.cf x y) := by
  have hn : ∀ a : Int, cmp_isNaN_int.f a = some false := fun a => by
    unfold cmp_isNaN_int.f
    simp
  have hc : ∀ a b : Int, ∃ c, cmp_Compare_int.f a b = some c := fun a b => by
    unfold cmp_Compare_int.f
    simp only [hn, Option.bind_some, Bool.false_eq_true, if_false]
    split
    · exact ⟨_, rfl⟩
    · split <;> exact ⟨_, rfl⟩
  have h : ∃ c, impl_compareEdges.f x.f0 x.f1 y.f0 y.f1 = some c := by
    obtain ⟨c1, h1⟩ := hc x.f0 y.f0
    obtain ⟨c2, h2⟩ := hc x.f1 y.f1
    unfold impl_compareEdges.f
    rw [h1, h2]
    simp only [Option.bind_some]
    split <;> exact ⟨_, rfl⟩
  obtain ⟨c, h⟩ := h
  unfold slices_SortFunc_Edge.cf
  rw [h]
  rfl
set_option maxHeartbeats 2000000 in
set_option maxRecDepth 100000 in
theorem slices_SortFunc_Edge.cmp (x y : S75) (W : World) : Calls Try.prog 82 #[.agg #[.int .i64 x.f0, .int .i64 x.f1], .agg #[.int .i64 y.f0, .int .i64 y.f1]] W fun e w' => e = .returned (.int .i64 (slices_SortFunc_Edge.cf x y)) ∧ ∃ q os', w' = Go.Sort.grow (W.drewN q) os' := by
  have H := slices_SortFunc_Edge.cf_some x y
  generalize slices_SortFunc_Edge.cf x y = r at H ⊢
  unfold impl_compareEdges.f at H
  obtain ⟨t1, A1, H⟩ := Option.bind_eq_some_iff.mp H
  have C1 := fun w1 => cmp_Compare_int.calls x.f0 y.f0 t1 w1 A1
  by_cases c : t1 = 0
  · rw [if_pos c] at H
    obtain ⟨t2, A2, H⟩ := Option.bind_eq_some_iff.mp H
    obtain rfl := Option.some.inj H
    have C2 := fun w1 => cmp_Compare_int.calls x.f1 y.f1 t2 w1 A2
    clear A1 A2 H
    subst c
    go_enter Try.func82, Try.ntmps82
    go_wp2_with (first | ((with_reducible refine gate_callee (f := 96) rfl ?_); refine goesM_ (some 10) rfl rfl Try.func96 (by kernel_rfl) rfl #[.int .i64 x.f0, .int .i64 y.f0] rfl ?_; (with_reducible refine (C1 _).mono ?_); rintro e w' ⟨rfl, ⟨⟨m1, rfl⟩⟩⟩; refine ⟨_, rfl, ?_⟩) | ((with_reducible refine gate_callee (f := 96) rfl ?_); refine goesM_ (some 18) rfl rfl Try.func96 (by kernel_rfl) rfl #[.int .i64 x.f1, .int .i64 y.f1] rfl ?_; (with_reducible refine (C2 _).mono ?_); rintro e w' ⟨rfl, ⟨⟨m2, rfl⟩⟩⟩; refine ⟨_, rfl, ?_⟩))
    go_ret
    exact ⟨rfl, m1 + m2, _, by rw [Go.Sort.alloc_eq_grow, Go.Sort.alloc_eq_grow, Go.Sort.grow_grow]; rfl⟩
  · rw [if_neg c] at H
    obtain rfl := Option.some.inj H
    clear A1 H
    have c0 : (t1 == 0) = false := beq_eq_false_iff_ne.mpr c
    have c1 : (t1 != 0) = true := bne_iff_ne.mpr c
    go_enter Try.func82, Try.ntmps82
    go_wp2_with ((with_reducible refine gate_callee (f := 96) rfl ?_); refine goesM_ (some 10) rfl rfl Try.func96 (by kernel_rfl) rfl #[.int .i64 x.f0, .int .i64 y.f0] rfl ?_; (with_reducible refine (C1 _).mono ?_); rintro e w' ⟨rfl, ⟨⟨m1, rfl⟩⟩⟩; refine ⟨_, rfl, ?_⟩)
    go_ret
    exact ⟨rfl, m1, _, by rw [Go.Sort.alloc_eq_grow, Go.Sort.alloc_eq_grow, Go.Sort.grow_grow]; rfl⟩
def slices_SortFunc_Edge.srt (l0 : List S75) : Array S75 := Go.Sort.insertionSort (Go.Proofs.ltOf slices_SortFunc_Edge.cf) l0.toArray 0 l0.length
theorem slices_SortFunc_Edge.lt_eq (x y : S75) : Go.Proofs.ltOf slices_SortFunc_Edge.cf x y = decide (x.f0 < y.f0 ∨ (x.f0 = y.f0 ∧ x.f1 < y.f1)) := by
  have hn : ∀ a : Int, cmp_isNaN_int.f a = some false := fun a => by
    unfold cmp_isNaN_int.f
    simp
  have hc : ∀ a b : Int, cmp_Compare_int.f a b = some (if a < b then -1 else if a > b then 1 else 0) := fun a b => by
    unfold cmp_Compare_int.f
    simp only [hn, Option.bind_some, Bool.false_eq_true, if_false]
    split
    · rfl
    · split <;> rfl
  unfold Go.Proofs.ltOf slices_SortFunc_Edge.cf impl_compareEdges.f
  rw [hc, hc]
  simp only [Option.bind_some]
  apply decide_eq_decide.mpr
  by_cases a : x.f0 < y.f0
  · simp [a]
  · by_cases b : x.f0 > y.f0
    · simp [a, b]
      omega
    · have e : x.f0 = y.f0 := by omega
      simp only [e, Int.lt_irrefl, gt_iff_lt, if_false, if_true, Option.getD_some, true_and, false_or]
      split
      · simp; omega
      · split <;> simp <;> omega
theorem slices_SortFunc_Edge.swo : Go.Sort.SWO (Go.Proofs.ltOf slices_SortFunc_Edge.cf) := by
  have hl := slices_SortFunc_Edge.lt_eq
  refine ⟨fun x => ?_, fun x y z h1 h2 => ?_, fun x y z h1 h2 => ?_⟩
  · rw [hl]; simp
  · rw [hl] at h1 h2 ⊢
    simp only [decide_eq_true_eq] at h1 h2 ⊢
    omega
  · rw [hl] at h1 h2 ⊢
    simp only [decide_eq_false_iff_not] at h1 h2 ⊢
    omega
theorem slices_SortFunc_Edge.srt_size (l0 : List S75) : (slices_SortFunc_Edge.srt l0).size = l0.length := by
  have h := (Go.Sort.insertionSort_holds (lt := Go.Proofs.ltOf slices_SortFunc_Edge.cf) slices_SortFunc_Edge.swo l0.toArray 0 l0.length (Nat.zero_le _) (by simp)).1.1
  unfold slices_SortFunc_Edge.srt
  rw [h]
  simp
def slices_SortFunc_Edge.f (l0 : List S75) : Option (List S75) := if 0 < l0.length ∧ l0.length ≤ 12 then some (slices_SortFunc_Edge.srt l0).toList else none
theorem slices_SortFunc_Edge.flat (d : Array S75) (j : Nat) (p : S75) (hj : d.toList[j]? = some p) : ((Go.Sort.flatK slices_SortFunc_Edge.enc 2 d).toList.drop (j * 2)).take 2 = slices_SortFunc_Edge.enc p := by
  have hlt : j < d.size := by
    have := (List.getElem?_eq_some_iff.1 hj).1
    simpa using this
  have hp : d[j]! = p := by
    rw [getElem!_pos d j hlt]
    have := (List.getElem?_eq_some_iff.1 hj).2
    simpa using this
  have hsz : (Go.Sort.flatK slices_SortFunc_Edge.enc 2 d).toList.length = d.size * 2 := by simp
  have g0 : (Go.Sort.flatK slices_SortFunc_Edge.enc 2 d).toList[j * 2]'(by omega) = .int .i64 p.f0 := by
    have : (Go.Sort.flatK slices_SortFunc_Edge.enc 2 d)[j * 2]! = .int .i64 p.f0 := by
      rw [Go.Sort.get_flatK _ _ _ _ (by omega), show j * 2 / 2 = j by omega, show j * 2 % 2 = 0 by omega, hp]
      rfl
    rw [getElem!_pos _ _ (by simp; omega)] at this
    simpa using this
  have g1 : (Go.Sort.flatK slices_SortFunc_Edge.enc 2 d).toList[j * 2 + 1]'(by omega) = .int .i64 p.f1 := by
    have : (Go.Sort.flatK slices_SortFunc_Edge.enc 2 d)[j * 2 + 1]! = .int .i64 p.f1 := by
      rw [Go.Sort.get_flatK _ _ _ _ (by omega), show (j * 2 + 1) / 2 = j by omega, show (j * 2 + 1) % 2 = 1 by omega, hp]
      rfl
    rw [getElem!_pos _ _ (by simp; omega)] at this
    simpa using this
  rw [List.drop_eq_getElem_cons (show j * 2 < (Go.Sort.flatK slices_SortFunc_Edge.enc 2 d).toList.length by omega), List.drop_eq_getElem_cons (show j * 2 + 1 < (Go.Sort.flatK slices_SortFunc_Edge.enc 2 d).toList.length by omega), g0, g1]
  rfl
theorem slices_SortFunc_Edge.takes (cur F : Array Value) (h : F.size ≤ cur.size) : (Go.Sort.putCells id 0 F cur).toList.take F.size = F.toList := by
  apply List.ext_getElem?
  intro j
  by_cases hj : j < F.size
  · rw [List.getElem?_take_of_lt hj, Array.getElem?_toList]
    simp [Go.Sort.putCells, hj, show j < cur.size by omega]
  · rw [List.getElem?_take_eq_none (by omega), List.getElem?_eq_none (by simp; omega)]
set_option maxHeartbeats 4000000 in
theorem slices_SortFunc_Edge.calls (P0_ : Nat → Prop) (u9000_ : Value) (l0 : List S75) (r : List S75) (w0 w : World) (hB : Below w0.heap.size w0 w) (ho0 : Kd.R k75 75 w w0.heap.size P0_ u9000_ l0) (h : slices_SortFunc_Edge.f l0 = some r) :
  Calls Try.prog 81 #[u9000_, .func (.func 82) #[] #[]] w fun e w' => e = .returned (.tuple #[]) ∧ Kd.R k75 75 w' w0.heap.size (fun k_ => (P0_ k_ ∨ w.heap.size ≤ k_)) u9000_ r ∧ Below w0.heap.size w0 w' ∧ Kept w w' (fun k_ => P0_ k_) := by
  unfold slices_SortFunc_Edge.f at h
  by_cases hc : 0 < l0.length ∧ l0.length ≤ 12
  · rw [if_pos hc] at h
    obtain rfl := Option.some.inj h
    obtain ⟨g, cap, rfl, hbase, hglt, cells0, hcells0⟩ := Kd.R_form ho0 hc.1
    have hown : P0_ g := ho0.1 g rfl
    have hsz : ∀ i : Nat, i < l0.length → ∀ j : Nat, j < 2 → w.cell? ⟨g, i * 2 + j, none⟩ = some ((slices_SortFunc_Edge.enc (l0.getD i z75))[j]!) ∧ w.frozen? ⟨g, i * 2 + j, none⟩ = false := fun i hi j hj => by
      obtain ⟨ce, hcl, hM, hcc, hfr⟩ := Kd.R_elem ho0 z75 (i : Int) (by omega) (by omega)
      obtain rfl := k75_openM hM
      rw [Int.toNat_natCast] at hcc hfr
      refine ⟨?_, hfr j⟩
      have : j = 0 ∨ j = 1 := by omega
      rcases this with rfl | rfl
      · exact hcc 0 _ rfl
      · exact hcc 1 _ rfl
    have hH : Go.Sort.HoldsK slices_SortFunc_Edge.enc 2 w g 0 l0.toArray := fun t ht => by
      have ht' : t < l0.length * 2 := by simpa using ht
      have := hsz (t / 2) (by omega) (t % 2) (by omega)
      rw [show t / 2 * 2 + t % 2 = t by omega] at this
      rw [Go.Sort.get_flatK _ _ _ t (by simpa using ht'), Nat.zero_add]
      refine ⟨?_, this.2⟩
      rw [this.1]
      have e : l0.toArray[t / 2]! = l0.getD (t / 2) z75 := by
        rw [List.getD_eq_getElem?_getD, List.getElem?_eq_getElem (by omega)]
        simp [show t / 2 < l0.length by omega]
      rw [e]
      rfl
    have hlen : ∀ (n : Nat) (W : World), n ≤ 12 → Calls Try.prog 95 #[.int .u64 n] W fun e w' => (∃ l : Int, e = .returned (.int .i64 l)) ∧ w' = W := fun n W hn =>
      (Try.bits_Len n W (by omega) (by omega)).mono fun _ _ ⟨he, hw⟩ => ⟨⟨_, he⟩, hw⟩
    have hS := Try.slices_SortFunc_small (α := S75) 2 Try.isAgg75 Try.sizeOf75 slices_SortFunc_Edge.enc (fun _ => rfl) (fun x v hv => by simp [slices_SortFunc_Edge.enc] at hv; rcases hv with rfl | rfl <;> rfl) slices_SortFunc_Edge.cf 82 #[] g 0 cap l0.toArray w (Go.Proofs.enters_of Try.func82 (by kernel_rfl) rfl) (fun _ _ _ _ x y => slices_SortFunc_Edge.cmp x y _) hH hglt (by simpa using hc.2) hlen
    rw [show (l0.toArray).size = l0.length from by simp] at hS
    refine hS.mono ?_
    rintro e w' ⟨rfl, n, os, rfl⟩
    have hss : (slices_SortFunc_Edge.srt l0).size = l0.length := slices_SortFunc_Edge.srt_size l0
    have hgr : w.grownBy (Go.Proofs.sortWorldK slices_SortFunc_Edge.enc 2 w g 0 n (slices_SortFunc_Edge.srt l0) os) (some g) := by
      unfold Go.Proofs.sortWorldK Go.Sort.putRowK
      refine ⟨rfl, rfl, rfl, by simp, fun k hk hne => ?_⟩
      rw [Go.Sort.heap_grow_old _ _ (by simpa using hk)]
      have : g ≠ k := fun e => hne (by rw [e])
      simp [Go.Sort.putRow, Go.Sort.mapBlock, Go.Sort.ahead, Array.getElem?_modify, this]
    obtain ⟨h0, inner, ho, hr⟩ := ho0
    rcases ho.2 with ⟨hnil, _⟩ | ⟨g', cap', cur, hv, hg, hh, h1, h2, h3, h4⟩
    · cases hnil
    cases hv
    have hheap : (Go.Proofs.sortWorldK slices_SortFunc_Edge.enc 2 w g 0 n (slices_SortFunc_Edge.srt l0) os).heap[g]? = some (.cells (Go.Sort.putCells id 0 (Go.Sort.flatK slices_SortFunc_Edge.enc 2 (slices_SortFunc_Edge.srt l0)) cur) 75 (0, 0)) := by
      unfold Go.Proofs.sortWorldK Go.Sort.putRowK
      rw [Go.Sort.heap_grow_old _ _ (by simpa using hglt)]
      simp [Go.Sort.putRow, Go.Sort.mapBlock, Go.Sort.ahead, Array.getElem?_modify, hh, Go.Sort.onCells]
    have hF : (Go.Sort.flatK slices_SortFunc_Edge.enc 2 (slices_SortFunc_Edge.srt l0)).size = l0.length * 2 := by rw [Go.Sort.size_flatK, hss]
    have hcs : cur.size = cap * 2 := h3
    refine ⟨rfl, ⟨fun k hk => ?_, (Go.Sort.flatK slices_SortFunc_Edge.enc 2 (slices_SortFunc_Edge.srt l0)).toList, ⟨?_, .inr ⟨g, cap, _, ?_, hg, hheap, ?_, h2, ?_, ?_⟩⟩, ?_, fun j p hj => ?_⟩, ?_, ?_⟩
    · exact .inl (h0 k hk)
    · simp [hss]; rfl
    · simp [hss]
    · simpa [hss] using h1
    · simp [Go.Sort.putCells, hcs]; rfl
    · have ht := slices_SortFunc_Edge.takes cur (Go.Sort.flatK slices_SortFunc_Edge.enc 2 (slices_SortFunc_Edge.srt l0)) (by omega)
      rw [hF] at ht
      rw [show (slices_SortFunc_Edge.srt l0).toList.length * (k75).sz = l0.length * 2 by simp [hss]; rfl]
      exact ht
    · simp [hss]; rfl
    · have hfl := slices_SortFunc_Edge.flat (slices_SortFunc_Edge.srt l0) j p hj
      show (k75).M _ _ _ p (((Go.Sort.flatK slices_SortFunc_Edge.enc 2 (slices_SortFunc_Edge.srt l0)).toList.drop (j * 2)).take 2)
      rw [hfl]
      exact k75_mkM _ _ _ p
    · exact Below.grown hB hgr hB.size (fun k hk => by cases hk; exact hbase)
    · exact Kept.of_grown hgr (Kept.refl w _) (fun k hk => by cases hk; exact .inl hown)
  · rw [if_neg hc] at h
    exact absurd h (by simp)
def impl_AddEdge.j0 : Nat → Int → Int → Bool → Int → List (S75) → Option (Int × (List (S75)) × Bool)
 | 0, _, _, _, _, _ => none
 | k + 1, x1, x2, x29, x395000, x395001 => if x29 = true then (some (0, ([] : List (S75)), false)) else ((impl_copyGraph.f x395000 x395001).bind fun bt398 => (if bt398.2.length < 8796093022208 then ((slices_SortFunc_Edge.f (bt398.2 ++ [(⟨mn x1 x2, mx x1 x2⟩ : S75)])).bind fun t406 => (some (bt398.1, t406, true))) else (none)))
def impl_AddEdge.f (k : Nat) (a0_0 : Int) (l0_1 : List (S75)) (a1 : Int) (a2 : Int) : Option (Int × (List (S75)) × Bool) := (impl_isVertex.f k a0_0 l0_1 a1).bind fun t396 => (if t396 = true then ((impl_isVertex.f k a0_0 l0_1 a2).bind fun t397 => (if t397 = true then (if a1 = a2 then (impl_AddEdge.j0 k a1 a2 true a0_0 l0_1) else (impl_AddEdge.j0 k a1 a2 ((l0_1.length : Int) == 12) a0_0 l0_1)) else (impl_AddEdge.j0 k a1 a2 true a0_0 l0_1))) else (impl_AddEdge.j0 k a1 a2 true a0_0 l0_1))
set_option maxHeartbeats 8000000 in
set_option maxRecDepth 100000 in
theorem impl_AddEdge.calls (k : Nat) (a0_0 : Int) (A0_1 : Option Addr) (c0_1 : Nat) (l0_1 : List (S75)) (a1 : Int) (a2 : Int) (r1 : Int) (r2 : List (S75)) (r3 : Bool) (w : World) (hr0_1 : Kd.C k75 w A0_1 l0_1.length l0_1) (hc0_1 : l0_1.length ≤ c0_1) (h : impl_AddEdge.f k a0_0 l0_1 a1 a2 = some (r1, r2, r3)) :
  Calls Try.prog 50 #[.agg #[.int .i64 a0_0, .slice A0_1 l0_1.length c0_1], .int .i64 a1, .int .i64 a2] w fun e w' => ∃ v1_ : Value, e = .returned (.tuple #[.agg #[.int .i64 r1, v1_], .bool r3]) ∧ Kd.R k75 75 w' w.heap.size (fun _ => True) v1_ r2 ∧ Below w.heap.size w w' := by
 have hu42 := Try.underlying42
 have hu75 := Try.underlying75
 have HR0_1 := Aside0.mk hr0_1
 have HC0_1 := Aside0.mk hc0_1
 clear hr0_1 hc0_1
 have HB := Aside0.mk (Below.refl w.heap.size w)
 have H : ((impl_isVertex.f k a0_0 l0_1 a1).bind fun t396 => (if t396 = true then ((impl_isVertex.f k a0_0 l0_1 a2).bind fun t397 => (if t397 = true then (if a1 = a2 then (impl_AddEdge.j0 k a1 a2 true a0_0 l0_1) else (impl_AddEdge.j0 k a1 a2 ((l0_1.length : Int) == 12) a0_0 l0_1)) else (impl_AddEdge.j0 k a1 a2 true a0_0 l0_1))) else (impl_AddEdge.j0 k a1 a2 true a0_0 l0_1))) = some (r1, r2, r3) := h
 clear h
 have HC4 := Aside0.mk H
 clear H
 go_enter Try.func50, Try.ntmps50
 go_upto_region 1 with (first | ((with_reducible refine gate_dst (N := 3) rfl ?_); (try (refine gate_guard (by rfl) ?_; dsimp only)); refine box_event ?hg (N := 3) ?hd (cs := #[.int .i64 a0_0, .slice A0_1 l0_1.length c0_1]) (t := 42) ?hr ?_; (case hd => rfl); (case hg => rfl); (case hr => first | (go_simp; done) | (go_simp; rfl)); intro gb394 hg w5 hbox hb; have BK394 := Aside0.mk (hbox); have GW394 := Aside0.mk ((by rw [hg]; exact (below_size (Lz HB)) : w.heap.size ≤ gb394)); have GE394 := Aside0.mk ((by rw [hg]; exact (below_size (Lz HB)) : w.heap.size ≤ gb394)); replace HB := Aside0.mk (below_step (Lz HB) hb); clear hb hbox hg) | ((with_reducible refine gate_dst (N := 6) rfl ?_); (try (refine gate_guard (by rfl) ?_; dsimp only)); refine box_event ?hg (N := 6) ?hd (cs := #[.int .i64 0, .slice none 0 0]) (t := 42) ?hr ?_; (case hd => rfl); (case hg => rfl); (case hr => first | (go_simp; done) | (go_simp; rfl)); intro gb395 hg w6 hbox hb; have BK395 := Aside0.mk (hbox); have GW395 := Aside0.mk ((by rw [hg]; exact (below_size (by exact Lz1 HB GE394)) : w.heap.size ≤ gb395)); have GE395 := Aside0.mk ((by rw [hg]; exact (below_size (by exact Lz1 HB GE394)) : w.heap.size ≤ gb395)); replace HB := Aside0.mk (below_step (by exact Lz1 HB GE394) hb); have NB394_395 := Aside0.mk ((by rw [hg]; exact Nat.ne_of_lt (blk_lt (g := gb394) (o := .cells #[.int .i64 a0_0, .slice A0_1 l0_1.length c0_1] 42 (0, 0)) (Bz BK394)) : gb394 ≠ gb395)); have NB395_394 := Aside0.mk ((by rw [hg]; exact Nat.ne_of_gt (blk_lt (g := gb394) (o := .cells #[.int .i64 a0_0, .slice A0_1 l0_1.length c0_1] 42 (0, 0)) (Bz BK394)) : gb395 ≠ gb394)); replace BK394 := Aside0.mk (blk_below (g := gb394) (o := .cells #[.int .i64 a0_0, .slice A0_1 l0_1.length c0_1] 42 (0, 0)) (Bz BK394) hb); clear hb hbox hg))
 (try simp only [Act.put, List.setIfInBounds_toArray, List.set_cons_zero, List.set_cons_succ])
 go_cut [29] (fun v29 wc => ∃ (kq : Nat) (x29_3 : Bool), v29 = .bool x29_3 ∧ Aside0 (impl_AddEdge.j0 kq a1 a2 x29_3 a0_0 l0_1 = some (r1, r2, r3)) ∧ Aside0 (kq ≤ k) ∧ Aside0 (wc.heap[gb394]? = some (.cells #[.int .i64 a0_0, (.slice A0_1 l0_1.length c0_1)] 42 (0, 0))) ∧ Aside0 (wc.heap[gb395]? = some (.cells #[.int .i64 0, (.slice none 0 0)] 42 (0, 0))) ∧ Aside0 (Below w.heap.size w wc))
 case first =>
  have H := HC4.out
  clear HC4
  replace H := Option.bind_eq_some_iff.mp H
  obtain ⟨t396, A70, H⟩ := H
  replace H : (if t396 = true then ((impl_isVertex.f k a0_0 l0_1 a2).bind fun t397 => (if t397 = true then (if a1 = a2 then (impl_AddEdge.j0 k a1 a2 true a0_0 l0_1) else (impl_AddEdge.j0 k a1 a2 ((l0_1.length : Int) == 12) a0_0 l0_1)) else (impl_AddEdge.j0 k a1 a2 true a0_0 l0_1))) else (impl_AddEdge.j0 k a1 a2 true a0_0 l0_1)) = some (r1, r2, r3) := H
  have A7 := Aside0.mk A70
  clear A70
  by_cases c8 : t396 = true
  ·subst c8
   have H1 : ((impl_isVertex.f k a0_0 l0_1 a2).bind fun t397 => (if t397 = true then (if a1 = a2 then (impl_AddEdge.j0 k a1 a2 true a0_0 l0_1) else (impl_AddEdge.j0 k a1 a2 ((l0_1.length : Int) == 12) a0_0 l0_1)) else (impl_AddEdge.j0 k a1 a2 true a0_0 l0_1))) = some (r1, r2, r3) := by rw [if_pos rfl] at H; exact H
   clear H
   have H := H1
   clear H1
   replace H := Option.bind_eq_some_iff.mp H
   obtain ⟨t397, A90, H⟩ := H
   replace H : (if t397 = true then (if a1 = a2 then (impl_AddEdge.j0 k a1 a2 true a0_0 l0_1) else (impl_AddEdge.j0 k a1 a2 ((l0_1.length : Int) == 12) a0_0 l0_1)) else (impl_AddEdge.j0 k a1 a2 true a0_0 l0_1)) = some (r1, r2, r3) := H
   have A9 := Aside0.mk A90
   clear A90
   by_cases c10 : t397 = true
   ·subst c10
    have H1 : (if a1 = a2 then (impl_AddEdge.j0 k a1 a2 true a0_0 l0_1) else (impl_AddEdge.j0 k a1 a2 ((l0_1.length : Int) == 12) a0_0 l0_1)) = some (r1, r2, r3) := by rw [if_pos rfl] at H; exact H
    clear H
    have H := H1
    clear H1
    by_cases c11 : a1 = a2
    ·rw [if_pos c11] at H
     have c11b0 : (a1 == a2) = true := beq_iff_eq.mpr c11
     have c11b1 : (a1 != a2) = false := bne_eq_false_iff_eq.mpr c11
     clear c11
     (first | rw [c11b0] | (simp only [i64_w, i32_w]; rw [c11b0]) | skip)
     have H' := Aside0.mk H
     clear H
     have hnb12 := NB394_395.out
     have hnc12 := NB395_394.out
     have hcz13_0 : w6.cell? ⟨gb394, 0, none⟩ = some (.int .i64 a0_0) := (blk_cell BK394.out 0).trans rfl
     have hcz13_1 : w6.cell? ⟨gb394, 1, none⟩ = some (.slice A0_1 l0_1.length c0_1) := (blk_cell BK394.out 1).trans rfl
     have hfz13_0 := blk_frozen BK394.out 0
     have hfz13_1 := blk_frozen BK394.out 1
     go_wp2_with (first | ((with_reducible refine gate_callee (f := 74) rfl ?_); refine goesM_ (some 11) rfl rfl Try.func74 (by kernel_rfl) rfl #[.agg #[.int .i64 a0_0, .slice A0_1 l0_1.length c0_1], .int .i64 a1] rfl ?_; (with_reducible refine (impl_isVertex.calls k a0_0 _ _ l0_1 a1 true _ ?side1 ?side2 A7.out).mono ?_); (case side1 => exact Cz ((Kd.C_below HR0_1.out HB.out))); (case side2 => exact HC0_1.out); rintro e w14 ⟨rfl, hb⟩; refine ⟨_, rfl, ?_⟩; replace BK394 := Aside0.mk (blk_below (g := gb394) (o := .cells #[.int .i64 a0_0, .slice A0_1 l0_1.length c0_1] 42 (0, 0)) (Bz BK394) hb); replace BK395 := Aside0.mk (blk_below (g := gb395) (o := .cells #[.int .i64 0, .slice none 0 0] 42 (0, 0)) (Bz BK395) hb); replace HB := Aside0.mk (below_step (by exact Lz2 HB GE394 GE395) hb); (try clear hb); (try clear hb2); (try clear hk); (try clear hi); have hcz15_0 : w14.cell? ⟨gb394, 0, none⟩ = some (.int .i64 a0_0) := (blk_cell BK394.out 0).trans rfl; have hcz15_1 : w14.cell? ⟨gb394, 1, none⟩ = some (.slice A0_1 l0_1.length c0_1) := (blk_cell BK394.out 1).trans rfl; have hfz15_0 := blk_frozen BK394.out 0; have hfz15_1 := blk_frozen BK394.out 1) | (go_at_call 74; (with_reducible refine (impl_isVertex.calls k a0_0 _ _ l0_1 a2 true _ ?side1 ?side2 A9.out).mono ?_); (case side1 => exact Cz ((Kd.C_below HR0_1.out HB.out))); (case side2 => exact HC0_1.out); rintro e w16 ⟨rfl, hb⟩; replace BK394 := Aside0.mk (blk_below (g := gb394) (o := .cells #[.int .i64 a0_0, .slice A0_1 l0_1.length c0_1] 42 (0, 0)) (Bz BK394) hb); replace BK395 := Aside0.mk (blk_below (g := gb395) (o := .cells #[.int .i64 0, .slice none 0 0] 42 (0, 0)) (Bz BK395) hb); replace HB := Aside0.mk (below_step (by exact Lz2 HB GE394 GE395) hb); (try clear hb); (try clear hb2); (try clear hk); (try clear hi)))
     go_meet
     case rel => exact ⟨_, (true), eqA, H', ⟨by first | omega | exact Nat.le_refl _⟩, ⟨by exact Bz BK394⟩, ⟨by exact Bz BK395⟩, ⟨by exact Lz2 HB GE394 GE395⟩⟩
    rw [if_neg c11] at H
    have c11b0 : (a1 == a2) = false := beq_eq_false_iff_ne.mpr c11
    have c11b1 : (a1 != a2) = true := bne_iff_ne.mpr c11
    (first | rw [c11b0] | (simp only [i64_w, i32_w]; rw [c11b0]) | skip)
    have H' := Aside0.mk H
    clear H
    have hnb17 := NB394_395.out
    have hnc17 := NB395_394.out
    have hcz18_0 : w6.cell? ⟨gb394, 0, none⟩ = some (.int .i64 a0_0) := (blk_cell BK394.out 0).trans rfl
    have hcz18_1 : w6.cell? ⟨gb394, 1, none⟩ = some (.slice A0_1 l0_1.length c0_1) := (blk_cell BK394.out 1).trans rfl
    have hfz18_0 := blk_frozen BK394.out 0
    have hfz18_1 := blk_frozen BK394.out 1
    go_wp2_with (first | ((with_reducible refine gate_callee (f := 74) rfl ?_); refine goesM_ (some 11) rfl rfl Try.func74 (by kernel_rfl) rfl #[.agg #[.int .i64 a0_0, .slice A0_1 l0_1.length c0_1], .int .i64 a1] rfl ?_; (with_reducible refine (impl_isVertex.calls k a0_0 _ _ l0_1 a1 true _ ?side1 ?side2 A7.out).mono ?_); (case side1 => exact Cz ((Kd.C_below HR0_1.out HB.out))); (case side2 => exact HC0_1.out); rintro e w19 ⟨rfl, hb⟩; refine ⟨_, rfl, ?_⟩; replace BK394 := Aside0.mk (blk_below (g := gb394) (o := .cells #[.int .i64 a0_0, .slice A0_1 l0_1.length c0_1] 42 (0, 0)) (Bz BK394) hb); replace BK395 := Aside0.mk (blk_below (g := gb395) (o := .cells #[.int .i64 0, .slice none 0 0] 42 (0, 0)) (Bz BK395) hb); replace HB := Aside0.mk (below_step (by exact Lz2 HB GE394 GE395) hb); (try clear hb); (try clear hb2); (try clear hk); (try clear hi); have hcz20_0 : w19.cell? ⟨gb394, 0, none⟩ = some (.int .i64 a0_0) := (blk_cell BK394.out 0).trans rfl; have hcz20_1 : w19.cell? ⟨gb394, 1, none⟩ = some (.slice A0_1 l0_1.length c0_1) := (blk_cell BK394.out 1).trans rfl; have hfz20_0 := blk_frozen BK394.out 0; have hfz20_1 := blk_frozen BK394.out 1) | (go_at_call 74; (with_reducible refine (impl_isVertex.calls k a0_0 _ _ l0_1 a2 true _ ?side1 ?side2 A9.out).mono ?_); (case side1 => exact Cz ((Kd.C_below HR0_1.out HB.out))); (case side2 => exact HC0_1.out); rintro e w21 ⟨rfl, hb⟩; replace BK394 := Aside0.mk (blk_below (g := gb394) (o := .cells #[.int .i64 a0_0, .slice A0_1 l0_1.length c0_1] 42 (0, 0)) (Bz BK394) hb); replace BK395 := Aside0.mk (blk_below (g := gb395) (o := .cells #[.int .i64 0, .slice none 0 0] 42 (0, 0)) (Bz BK395) hb); replace HB := Aside0.mk (below_step (by exact Lz2 HB GE394 GE395) hb); (try clear hb); (try clear hb2); (try clear hk); (try clear hi); have hcz22_0 : w21.cell? ⟨gb394, 0, none⟩ = some (.int .i64 a0_0) := (blk_cell BK394.out 0).trans rfl; have hcz22_1 : w21.cell? ⟨gb394, 1, none⟩ = some (.slice A0_1 l0_1.length c0_1) := (blk_cell BK394.out 1).trans rfl; have hfz22_0 := blk_frozen BK394.out 0; have hfz22_1 := blk_frozen BK394.out 1))
    go_meet
    case rel => exact ⟨_, (((l0_1.length : Int) == 12)), eqA, H', ⟨by first | omega | exact Nat.le_refl _⟩, ⟨by exact Bz BK394⟩, ⟨by exact Bz BK395⟩, ⟨by exact Lz2 HB GE394 GE395⟩⟩
   replace c10 := Bool.eq_false_iff.mpr c10
   subst c10
   have H1 : (impl_AddEdge.j0 k a1 a2 true a0_0 l0_1) = some (r1, r2, r3) := by rw [if_neg (show ¬ (false = true) by decide)] at H; exact H
   clear H
   have H := H1
   clear H1
   have H' := Aside0.mk H
   clear H
   have hnb23 := NB394_395.out
   have hnc23 := NB395_394.out
   have hcz24_0 : w6.cell? ⟨gb394, 0, none⟩ = some (.int .i64 a0_0) := (blk_cell BK394.out 0).trans rfl
   have hcz24_1 : w6.cell? ⟨gb394, 1, none⟩ = some (.slice A0_1 l0_1.length c0_1) := (blk_cell BK394.out 1).trans rfl
   have hfz24_0 := blk_frozen BK394.out 0
   have hfz24_1 := blk_frozen BK394.out 1
   go_wp2_with (first | ((with_reducible refine gate_callee (f := 74) rfl ?_); refine goesM_ (some 11) rfl rfl Try.func74 (by kernel_rfl) rfl #[.agg #[.int .i64 a0_0, .slice A0_1 l0_1.length c0_1], .int .i64 a1] rfl ?_; (with_reducible refine (impl_isVertex.calls k a0_0 _ _ l0_1 a1 true _ ?side1 ?side2 A7.out).mono ?_); (case side1 => exact Cz ((Kd.C_below HR0_1.out HB.out))); (case side2 => exact HC0_1.out); rintro e w25 ⟨rfl, hb⟩; refine ⟨_, rfl, ?_⟩; replace BK394 := Aside0.mk (blk_below (g := gb394) (o := .cells #[.int .i64 a0_0, .slice A0_1 l0_1.length c0_1] 42 (0, 0)) (Bz BK394) hb); replace BK395 := Aside0.mk (blk_below (g := gb395) (o := .cells #[.int .i64 0, .slice none 0 0] 42 (0, 0)) (Bz BK395) hb); replace HB := Aside0.mk (below_step (by exact Lz2 HB GE394 GE395) hb); (try clear hb); (try clear hb2); (try clear hk); (try clear hi); have hcz26_0 : w25.cell? ⟨gb394, 0, none⟩ = some (.int .i64 a0_0) := (blk_cell BK394.out 0).trans rfl; have hcz26_1 : w25.cell? ⟨gb394, 1, none⟩ = some (.slice A0_1 l0_1.length c0_1) := (blk_cell BK394.out 1).trans rfl; have hfz26_0 := blk_frozen BK394.out 0; have hfz26_1 := blk_frozen BK394.out 1) | (go_at_call 74; (with_reducible refine (impl_isVertex.calls k a0_0 _ _ l0_1 a2 false _ ?side1 ?side2 A9.out).mono ?_); (case side1 => exact Cz ((Kd.C_below HR0_1.out HB.out))); (case side2 => exact HC0_1.out); rintro e w27 ⟨rfl, hb⟩; replace BK394 := Aside0.mk (blk_below (g := gb394) (o := .cells #[.int .i64 a0_0, .slice A0_1 l0_1.length c0_1] 42 (0, 0)) (Bz BK394) hb); replace BK395 := Aside0.mk (blk_below (g := gb395) (o := .cells #[.int .i64 0, .slice none 0 0] 42 (0, 0)) (Bz BK395) hb); replace HB := Aside0.mk (below_step (by exact Lz2 HB GE394 GE395) hb); (try clear hb); (try clear hb2); (try clear hk); (try clear hi)))
   go_meet
   case rel => exact ⟨_, (true), eqA, H', ⟨by first | omega | exact Nat.le_refl _⟩, ⟨by exact Bz BK394⟩, ⟨by exact Bz BK395⟩, ⟨by exact Lz2 HB GE394 GE395⟩⟩
  replace c8 := Bool.eq_false_iff.mpr c8
  subst c8
  have H1 : (impl_AddEdge.j0 k a1 a2 true a0_0 l0_1) = some (r1, r2, r3) := by rw [if_neg (show ¬ (false = true) by decide)] at H; exact H
  clear H
  have H := H1
  clear H1
  have H' := Aside0.mk H
  clear H
  have hnb28 := NB394_395.out
  have hnc28 := NB395_394.out
  have hcz29_0 : w6.cell? ⟨gb394, 0, none⟩ = some (.int .i64 a0_0) := (blk_cell BK394.out 0).trans rfl
  have hcz29_1 : w6.cell? ⟨gb394, 1, none⟩ = some (.slice A0_1 l0_1.length c0_1) := (blk_cell BK394.out 1).trans rfl
  have hfz29_0 := blk_frozen BK394.out 0
  have hfz29_1 := blk_frozen BK394.out 1
  go_wp2_with (first | ((with_reducible refine gate_callee (f := 74) rfl ?_); refine goesM_ (some 11) rfl rfl Try.func74 (by kernel_rfl) rfl #[.agg #[.int .i64 a0_0, .slice A0_1 l0_1.length c0_1], .int .i64 a1] rfl ?_; (with_reducible refine (impl_isVertex.calls k a0_0 _ _ l0_1 a1 false _ ?side1 ?side2 A7.out).mono ?_); (case side1 => exact Cz ((Kd.C_below HR0_1.out HB.out))); (case side2 => exact HC0_1.out); rintro e w30 ⟨rfl, hb⟩; refine ⟨_, rfl, ?_⟩; replace BK394 := Aside0.mk (blk_below (g := gb394) (o := .cells #[.int .i64 a0_0, .slice A0_1 l0_1.length c0_1] 42 (0, 0)) (Bz BK394) hb); replace BK395 := Aside0.mk (blk_below (g := gb395) (o := .cells #[.int .i64 0, .slice none 0 0] 42 (0, 0)) (Bz BK395) hb); replace HB := Aside0.mk (below_step (by exact Lz2 HB GE394 GE395) hb); (try clear hb); (try clear hb2); (try clear hk); (try clear hi)))
  go_meet
  case rel => exact ⟨_, (true), eqA, H', ⟨by first | omega | exact Nat.le_refl _⟩, ⟨by exact Bz BK394⟩, ⟨by exact Bz BK395⟩, ⟨by exact Lz2 HB GE394 GE395⟩⟩
 case rest =>
  clear HC4
  try clear c8
  try clear c10
  try clear c11
  try clear c11b0
  try clear c11b1
  obtain ⟨kq, x29_3, rfl, HA, HJ3, BK394, BK395, HB⟩ := hcut
  cases kq with
  | zero => exact absurd HA.out (by simp [impl_AddEdge.j0])
  | succ kj3 =>
   have H := HA.out
   clear HA
   simp only [impl_AddEdge.j0] at H
   by_cases c31 : x29_3 = true
   ·subst c31
    have H1 : (some (0, ([] : List (S75)), false)) = some (r1, r2, r3) := by rw [if_pos rfl] at H; exact H
    clear H
    have H := H1
    clear H1
    simp only [Option.some.injEq, Prod.mk.injEq] at H
    obtain ⟨rfl, rfl, rfl⟩ := H
    have hnb32 := NB395_394.out
    have hnc32 := NB394_395.out
    have hcz33_0 : wc.cell? ⟨gb395, 0, none⟩ = some (.int .i64 0) := (blk_cell BK395.out 0).trans rfl
    have hcz33_1 : wc.cell? ⟨gb395, 1, none⟩ = some (.slice none 0 0) := (blk_cell BK395.out 1).trans rfl
    have hfz33_0 := blk_frozen BK395.out 0
    have hfz33_1 := blk_frozen BK395.out 1
    go_wp2
    refine bodyPost_ret (results_ct rfl _ _ gb395 42 #[.int .i64 0, .slice none 0 0] (0, 0) _ rfl (by (with_reducible repeat (first | refine blk_drewN ?_ _ | refine blk_drew ?_ | refine blk_alloc ?_ _)); refine blk_put (cs := #[.int .i64 0, .slice none 0 0]) ?_ 1 _ rfl; (with_reducible repeat (first | refine blk_drewN ?_ _ | refine blk_drew ?_ | refine blk_alloc ?_ _)); refine blk_put (cs := #[.int .i64 0, .slice none 0 0]) ?_ 0 _ rfl; exact Bz BK395) Try.underlying42 rfl (by kernel_rfl)) rfl ?_
    exact ⟨_, by first | rfl | (simp [errW_none, errW_some] <;> rfl) | (simp [*, errW_none, errW_some] <;> rfl), by first | exact Kd.R_nil _ _ _ _ _ | exact Kd.N_nil _ _ _ _ _ | exact Kd.V_nil _ _ _ _ _ | exact Kd.Q_nil _ _ _ _ _ | exact Kd.S_nil _ _ _ _ _, by exact Lz2 HB GE394 GE395⟩
   replace c31 := Bool.eq_false_iff.mpr c31
   subst c31
   have H1 : ((impl_copyGraph.f a0_0 l0_1).bind fun bt398 => (if bt398.2.length < 8796093022208 then ((slices_SortFunc_Edge.f (bt398.2 ++ [(⟨mn a1 a2, mx a1 a2⟩ : S75)])).bind fun t406 => (some (bt398.1, t406, true))) else (none))) = some (r1, r2, r3) := by rw [if_neg (show ¬ (false = true) by decide)] at H; exact H
   clear H
   have H := H1
   clear H1
   replace H := Option.bind_eq_some_iff.mp H
   obtain ⟨⟨t398, t399⟩, A340, H⟩ := H
   replace H : (if t399.length < 8796093022208 then ((slices_SortFunc_Edge.f (t399 ++ [(⟨mn a1 a2, mx a1 a2⟩ : S75)])).bind fun t406 => (some (t398, t406, true))) else (none)) = some (r1, r2, r3) := H
   have A34 := Aside0.mk A340
   clear A340
   obtain ⟨ji35, hji35⟩ : ∃ j_ : Int, (mn a1 a2) = j_ := ⟨_, rfl⟩
   replace H : (if t399.length < 8796093022208 then ((slices_SortFunc_Edge.f (t399 ++ [(⟨ji35, mx a1 a2⟩ : S75)])).bind fun t406 => (some (t398, t406, true))) else (none)) = some (r1, r2, r3) := by first | (rw [hji35] at H; exact H) | (simp only [hji35] at H ⊢; exact H)
   (try rw [hji35] at A34)
   have hji35_ : (if a2 < a1 then a2 else a1) = ji35 := hji35
   obtain ⟨ji36, hji36⟩ : ∃ j_ : Int, (mx a1 a2) = j_ := ⟨_, rfl⟩
   replace H : (if t399.length < 8796093022208 then ((slices_SortFunc_Edge.f (t399 ++ [(⟨ji35, ji36⟩ : S75)])).bind fun t406 => (some (t398, t406, true))) else (none)) = some (r1, r2, r3) := by first | (rw [hji36] at H; exact H) | (simp only [hji36] at H ⊢; exact H)
   (try rw [hji36] at A34)
   have hji36_ : (if a1 < a2 then a2 else a1) = ji36 := hji36
   by_cases c37 : t399.length < 8796093022208
   ·rw [if_pos c37] at H
    have LMc37 := Aside0.mk c37
    clear c37
    obtain ⟨y403, hy403⟩ : ∃ y_ : List (S75), y_ = (t399 ++ [(⟨ji35, ji36⟩ : S75)]) := ⟨_, rfl⟩
    replace H : ((slices_SortFunc_Edge.f y403).bind fun t406 => (some (t398, t406, true))) = some (r1, r2, r3) := by first | (rw [hy403]; with_reducible exact H) | (have H2_ := (Option.bind_some _ _).symm.trans H; rw [hy403]; with_reducible exact H2_) | (have H2_ := (Option.bind_some _ _).symm.trans H; with_reducible exact H2_) | with_reducible exact H | (rw [hy403]; exact H) | exact H
    have Ny403 := Aside0.mk hy403
    clear hy403
    replace H := Option.bind_eq_some_iff.mp H
    obtain ⟨t406, A380, H⟩ := H
    replace H : (some (t398, t406, true)) = some (r1, r2, r3) := H
    have A38 := Aside0.mk A380
    clear A380
    simp only [Option.some.injEq, Prod.mk.injEq] at H
    obtain ⟨rfl, rfl, rfl⟩ := H
    have hnb39 := NB394_395.out
    have hnc39 := NB395_394.out
    have hcz40_0 : wc.cell? ⟨gb394, 0, none⟩ = some (.int .i64 a0_0) := (blk_cell BK394.out 0).trans rfl
    have hcz40_1 : wc.cell? ⟨gb394, 1, none⟩ = some (.slice A0_1 l0_1.length c0_1) := (blk_cell BK394.out 1).trans rfl
    have hfz40_0 := blk_frozen BK394.out 0
    have hfz40_1 := blk_frozen BK394.out 1
    go_wp2_with (first | ((with_reducible refine gate_callee (f := 77) rfl ?_); refine goesM_ (some 32) rfl rfl Try.func77 (by kernel_rfl) rfl #[.agg #[.int .i64 a0_0, .slice A0_1 l0_1.length c0_1]] rfl ?_; (with_reducible refine (impl_copyGraph.calls a0_0 _ _ l0_1 t398 t399 _ ?side1 ?side2 A34.out).mono ?_); (case side1 => exact Cz ((Kd.C_below HR0_1.out HB.out))); (case side2 => exact HC0_1.out); rintro e w41 ⟨v400, rfl, ho0, hb⟩; refine ⟨_, rfl, ?_⟩; have HO401 := Aside0.mk (Kd.R_lower ho0 (below_size (by exact Lz2 HB GE394 GE395))); replace BK394 := Aside0.mk (blk_below (g := gb394) (o := .cells #[.int .i64 a0_0, .slice A0_1 l0_1.length c0_1] 42 (0, 0)) (Bz BK394) hb); replace BK395 := Aside0.mk (blk_below (g := gb395) (o := .cells #[.int .i64 0, .slice none 0 0] 42 (0, 0)) (Bz BK395) hb); replace HB := Aside0.mk (below_step (by exact Lz2 HB GE394 GE395) hb); (try clear hb); (try clear ho0)) | ((with_reducible refine gate_dst (N := 8) rfl ?_); (try (refine gate_guard (by rfl) ?_; dsimp only)); refine box_event ?hg (N := 8) ?hd (cs := #[.int .i64 0, .slice none 0 0]) (t := 42) ?hr ?_; (case hd => rfl); (case hg => rfl); (case hr => first | (go_simp; done) | (go_simp; rfl)); intro gb402 hg w42 hbox hb; replace HO401 := Aside0.mk (Kd.R_below (Rz HO401) hb); have BK402 := Aside0.mk (hbox); have GW402 := Aside0.mk ((by rw [hg]; exact (below_size (by exact Lz2 HB GE394 GE395)) : w.heap.size ≤ gb402)); have GE402 := Aside0.mk ((by rw [hg]; exact (below_size (by exact Lz2 HB GE394 GE395)) : w.heap.size ≤ gb402)); replace HB := Aside0.mk (below_step (by exact Lz2 HB GE394 GE395) hb); have NB394_402 := Aside0.mk ((by rw [hg]; exact Nat.ne_of_lt (blk_lt (g := gb394) (o := .cells #[.int .i64 a0_0, .slice A0_1 l0_1.length c0_1] 42 (0, 0)) (Bz BK394)) : gb394 ≠ gb402)); have NB402_394 := Aside0.mk ((by rw [hg]; exact Nat.ne_of_gt (blk_lt (g := gb394) (o := .cells #[.int .i64 a0_0, .slice A0_1 l0_1.length c0_1] 42 (0, 0)) (Bz BK394)) : gb402 ≠ gb394)); replace BK394 := Aside0.mk (blk_below (g := gb394) (o := .cells #[.int .i64 a0_0, .slice A0_1 l0_1.length c0_1] 42 (0, 0)) (Bz BK394) hb); have NB395_402 := Aside0.mk ((by rw [hg]; exact Nat.ne_of_lt (blk_lt (g := gb395) (o := .cells #[.int .i64 0, .slice none 0 0] 42 (0, 0)) (Bz BK395)) : gb395 ≠ gb402)); have NB402_395 := Aside0.mk ((by rw [hg]; exact Nat.ne_of_gt (blk_lt (g := gb395) (o := .cells #[.int .i64 0, .slice none 0 0] 42 (0, 0)) (Bz BK395)) : gb402 ≠ gb395)); replace BK395 := Aside0.mk (blk_below (g := gb395) (o := .cells #[.int .i64 0, .slice none 0 0] 42 (0, 0)) (Bz BK395) hb); clear hb hbox hg; have hnb43 := NB402_394.out; have hnc43 := NB394_402.out; have hnb44 := NB402_395.out; have hnc44 := NB395_402.out; have hcz45_0 : w42.cell? ⟨gb402, 0, none⟩ = some (.int .i64 0) := (blk_cell BK402.out 0).trans rfl; have hcz45_1 : w42.cell? ⟨gb402, 1, none⟩ = some (.slice none 0 0) := (blk_cell BK402.out 1).trans rfl; have hfz45_0 := blk_frozen BK402.out 0; have hfz45_1 := blk_frozen BK402.out 1; obtain ⟨Ao46, co46, eo46⟩ := Kd.R_slice HO401.out; subst eo46) | ((with_reducible refine gate_builtin (b := .append) (xs := #[.tmp 34, .tmp 42]) rfl ?_); (try (refine gate_guard (by rfl) ?_; dsimp only)); at_builtin; refine Kd.R_append k75 (w0 := w) w.heap.size rfl (.tmp 34) (.tmp 42) 40 75 (.agg #[(.int .i64 0), (.int .i64 0)]) 16 rfl Try.underlying40 info75 rfl (by decide) (by omega) (.slice Ao46 t399.length co46) t399 (⟨ji35, ji36⟩ : S75) [.int .i64 ji35, .int .i64 ji36] (fun _ => True) (fun _ => False) rfl (by first | (go_simp; done) | (go_simp; rfl)) ?aP (fun _ hk => hk.elim) ?aF ?aO ?aB ?aS ?aL ?_; (case aP => exact k75_mkM _ _ _ (⟨ji35, ji36⟩ : S75)); (case aB => exact (by exact Lz3 HB GE394 GE395 GE402)); (case aF => exact (fun _ _ => trivial)); (case aO => exact (by (with_reducible repeat (first | apply Kd.R_alloc | apply Kd.R_drewN | apply Kd.R_drew)); exact Kd.R_mono (Kd.R_far (p := ⟨gb402, 1, none⟩) (Kd.R_far (p := ⟨gb402, 0, none⟩) (Kd.R_types HO401.out BK402.out (by decide)) (fun _ hk => hk.2) (.int .i64 t398)) (fun _ hk => hk.2) (.slice Ao46 t399.length co46)) (fun _ hk => trivial))); (case aS => exact (below_size (by exact Lz3 HB GE394 GE395 GE402))); (case aL => have := LMc37.out; omega); intro v404 w47 ho hb hg hat; rw [← Ny403.out] at ho; replace BK394 := Aside0.mk (blk_grown (g := gb394) (o := .cells #[.int .i64 a0_0, .slice A0_1 l0_1.length c0_1] 42 (0, 0)) (by (with_reducible repeat (first | refine blk_drewN ?_ _ | refine blk_drew ?_ | refine blk_alloc ?_ _)); refine blk_far ?_ NB394_402.out _; (with_reducible repeat (first | refine blk_drewN ?_ _ | refine blk_drew ?_ | refine blk_alloc ?_ _)); refine blk_far ?_ NB394_402.out _; exact Bz BK394) hg (Kd.R_ne HO401.out BK394.out (by decide))); replace BK395 := Aside0.mk (blk_grown (g := gb395) (o := .cells #[.int .i64 0, .slice none 0 0] 42 (0, 0)) (by (with_reducible repeat (first | refine blk_drewN ?_ _ | refine blk_drew ?_ | refine blk_alloc ?_ _)); refine blk_far ?_ NB395_402.out _; (with_reducible repeat (first | refine blk_drewN ?_ _ | refine blk_drew ?_ | refine blk_alloc ?_ _)); refine blk_far ?_ NB395_402.out _; exact Bz BK395) hg (Kd.R_ne HO401.out BK395.out (by decide))); replace BK402 := Aside0.mk (blk_grown (g := gb402) (o := .cells #[.int .i64 t398, .slice Ao46 t399.length co46] 42 (0, 0)) (by (with_reducible repeat (first | refine blk_drewN ?_ _ | refine blk_drew ?_ | refine blk_alloc ?_ _)); refine blk_put (cs := #[.int .i64 t398, .slice none 0 0]) ?_ 1 _ rfl; (with_reducible repeat (first | refine blk_drewN ?_ _ | refine blk_drew ?_ | refine blk_alloc ?_ _)); refine blk_put (cs := #[.int .i64 0, .slice none 0 0]) ?_ 0 _ rfl; exact Bz BK402) hg (Kd.R_ne HO401.out BK402.out (by decide))); replace HB := Aside0.mk (hb); have HO405 := Aside0.mk (ho); clear HO401; clear ho hb hg hat; obtain ⟨Ao48, co48, eo48⟩ := Kd.R_slice HO405.out; subst eo48; have hcz49_0 : w47.cell? ⟨gb402, 0, none⟩ = some (.int .i64 t398) := (blk_cell BK402.out 0).trans rfl; have hcz49_1 : w47.cell? ⟨gb402, 1, none⟩ = some (.slice Ao46 t399.length co46) := (blk_cell BK402.out 1).trans rfl; have hfz49_0 := blk_frozen BK402.out 0; have hfz49_1 := blk_frozen BK402.out 1) | ((with_reducible refine gate_store (t := 40) (p := 44) rfl ?_); refine store_event (t := 40) (p := 44) (v := ?vo_w50) (w1 := (w47.setCell ⟨gb402, 1, none⟩ (.slice Ao48 y403.length co48))) ?hg ?ho ?hn ?hr ?_; (case ho => rfl); (case hg => rfl); (case hn => rfl); (case hr => first | (go_simp; done) | (go_simp; rfl)); intro w50 hw; have n0_ : Aside0 (Kd.R k75 75 w50 w.heap.size (fun _ => True) (.slice Ao48 y403.length co48) y403) := ⟨(by rw [hw]; exact (by (with_reducible repeat (first | apply Kd.R_alloc | apply Kd.R_drewN | apply Kd.R_drew)); exact Kd.R_mono (Kd.R_far (p := ⟨gb402, 1, none⟩) (Kd.R_types HO405.out BK402.out (by decide)) (fun _ hk => hk.2) (.slice Ao48 y403.length co48)) (fun _ hk => trivial)))⟩; have n1_ : Aside0 (w50.heap[gb394]? = some (.cells #[.int .i64 a0_0, .slice A0_1 l0_1.length c0_1] 42 (0, 0))) := ⟨(by rw [hw]; exact (by (with_reducible repeat (first | refine blk_drewN ?_ _ | refine blk_drew ?_ | refine blk_alloc ?_ _)); refine blk_far ?_ NB394_402.out _; exact Bz BK394))⟩; have n2_ : Aside0 (w50.heap[gb395]? = some (.cells #[.int .i64 0, .slice none 0 0] 42 (0, 0))) := ⟨(by rw [hw]; exact (by (with_reducible repeat (first | refine blk_drewN ?_ _ | refine blk_drew ?_ | refine blk_alloc ?_ _)); refine blk_far ?_ NB395_402.out _; exact Bz BK395))⟩; have n3_ : Aside0 (w50.heap[gb402]? = some (.cells #[.int .i64 t398, .slice Ao48 y403.length co48] 42 (0, 0))) := ⟨(by rw [hw]; exact (by (with_reducible repeat (first | refine blk_drewN ?_ _ | refine blk_drew ?_ | refine blk_alloc ?_ _)); refine blk_put (cs := #[.int .i64 t398, .slice Ao46 t399.length co46]) ?_ 1 _ rfl; exact Bz BK402))⟩; have n4_ : Aside0 (Below w.heap.size w w50) := ⟨(by rw [hw]; exact (by exact Lz3 HB GE394 GE395 GE402))⟩; clear hw; clear HO405; clear BK394; clear BK395; clear BK402; clear HB; have HO405 := n0_; have BK394 := n1_; have BK395 := n2_; have BK402 := n3_; have HB := n4_; clear n0_ n1_ n2_ n3_ n4_; have hcz51_0 : w50.cell? ⟨gb402, 0, none⟩ = some (.int .i64 t398) := (blk_cell BK402.out 0).trans rfl; have hcz51_1 : w50.cell? ⟨gb402, 1, none⟩ = some (.slice Ao48 y403.length co48) := (blk_cell BK402.out 1).trans rfl; have hfz51_0 := blk_frozen BK402.out 0; have hfz51_1 := blk_frozen BK402.out 1) | ((with_reducible refine gate_callee (f := 81) rfl ?_); refine goesM_ (some 47) rfl rfl Try.func81 (by kernel_rfl) rfl #[.slice Ao48 y403.length co48, .func (.func 82) #[] #[]] rfl ?_; (with_reducible refine (slices_SortFunc_Edge.calls (fun k_ => some k_ = (.slice Ao48 y403.length co48 : Value).ownBlock) (.slice Ao48 y403.length co48) y403 t406 w _ ?side1 ?side2 A38.out).mono ?_); (case side1 => exact Lz3 HB GE394 GE395 GE402); (case side2 => exact Kd.R_tight rfl HO405.out); rintro e w52 ⟨rfl, hy0, hb, hkp⟩; refine ⟨_, rfl, ?_⟩; replace BK394 := Aside0.mk (blk_kept (Bz BK394) hkp (fun hs_ => (fun e_ => (Kd.R_ne HO405.out BK394.out (by decide)) e_) hs_)); replace BK395 := Aside0.mk (blk_kept (Bz BK395) hkp (fun hs_ => (fun e_ => (Kd.R_ne HO405.out BK395.out (by decide)) e_) hs_)); replace BK402 := Aside0.mk (blk_kept (Bz BK402) hkp (fun hs_ => (fun e_ => (Kd.R_ne HO405.out BK402.out (by decide)) e_) hs_)); replace HO405 := Aside0.mk (Kd.R_reok rfl hy0 (fun k_ e_ => HO405.out.1 k_ e_)); replace HB := Aside0.mk (hb); (try clear hb); (try clear hkp); (try clear hy0); have hcz53_0 : w52.cell? ⟨gb402, 0, none⟩ = some (.int .i64 t398) := (blk_cell BK402.out 0).trans rfl; have hcz53_1 : w52.cell? ⟨gb402, 1, none⟩ = some (.slice Ao48 y403.length co48) := (blk_cell BK402.out 1).trans rfl; have hfz53_0 := blk_frozen BK402.out 0; have hfz53_1 := blk_frozen BK402.out 1; have hcz54_0 : w52.cell? ⟨gb395, 0, none⟩ = some (.int .i64 0) := (blk_cell BK395.out 0).trans rfl; have hcz54_1 : w52.cell? ⟨gb395, 1, none⟩ = some (.slice none 0 0) := (blk_cell BK395.out 1).trans rfl; have hfz54_0 := blk_frozen BK395.out 0; have hfz54_1 := blk_frozen BK395.out 1))
    refine bodyPost_ret (results_ct rfl _ _ gb395 42 #[.int .i64 t398, .slice Ao48 y403.length co48] (0, 0) _ rfl (by (with_reducible repeat (first | refine blk_drewN ?_ _ | refine blk_drew ?_ | refine blk_alloc ?_ _)); refine blk_put (cs := #[.int .i64 t398, .slice none 0 0]) ?_ 1 _ rfl; (with_reducible repeat (first | refine blk_drewN ?_ _ | refine blk_drew ?_ | refine blk_alloc ?_ _)); refine blk_put (cs := #[.int .i64 0, .slice none 0 0]) ?_ 0 _ rfl; exact Bz BK395) Try.underlying42 rfl (by kernel_rfl)) rfl ?_
    exact ⟨_, by first | rfl | (simp [errW_none, errW_some] <;> rfl) | (simp only [← hji35, ← hji36]; first | rfl | (simp [errW_none, errW_some] <;> rfl)) | (simp [*, errW_none, errW_some] <;> rfl), by (with_reducible repeat (first | apply Kd.R_alloc | apply Kd.R_drewN | apply Kd.R_drew)); exact Kd.R_mono (Kd.R_far (p := ⟨gb395, 1, none⟩) (Kd.R_far (p := ⟨gb395, 0, none⟩) (Kd.R_types HO405.out BK395.out (by decide)) (fun _ hk => hk.2) (.int .i64 t398)) (fun _ hk => hk.2) (.slice Ao48 y403.length co48)) (fun _ hk => trivial), by exact Lz3 HB GE394 GE395 GE402⟩
   rw [if_neg c37] at H
   exact absurd H (by simp)
end Go.Proofs.Ytchkndeeaoohpaa.P
end
