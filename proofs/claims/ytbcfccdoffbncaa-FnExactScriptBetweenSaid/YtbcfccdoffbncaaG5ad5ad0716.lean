/- Functions of the program as plain Lean functions and that the machine's calls answer as they do, the words of the print that these use, lemmas and plain proofs of laws. Put together by a program of this work that leaves out what nothing uses; Lean checks it. -/
import Derived.Test.YtbcfccdoffbncaaG91cfef8bc8
import Derived.Test.YtbcfccdoffbncaaGf5a3b49cd5
import Derived.Test.YtbcfccdoffbncaaGb6f675d6d4
import Derived.Test.YtbcfccdoffbncaaGaf92878072
section
namespace Go.Proofs.Ytbcfccdoffbncaa.P
open Go.RowKit Go.Proofs.YtbcfccdoffbncaaW.PrintWords Go.Proofs.YtbcfccdoffbncaaW.PrintLast Go.Proofs.YtbcfccdoffbncaaW.PrintMore
attribute [local go_sem] max2_int min2_int max_two min_two max_three min_three max_four min_four
set_option linter.unusedVariables false
set_option linter.unusedSimpArgs false
mutual
def impl_connected.l0 : Nat → Int → List (S67) → Int → Int → Int → Option (Bool)
 | 0, _, _, _, _, _ => none
 | k + 1, x0, x1, x5, x8, x9 => if x9 < x8 then (impl_connected.l1 k x0 x1 x5 x8 x9 x1 (x1.length : Int) 0) else (if 0 ≤ x0 then (some (x5 == (wrap64 ((shl .i64 1 x0) - 1)))) else (none))
def impl_connected.l1 : Nat → Int → List (S67) → Int → Int → Int → List (S67) → Int → Int → Option (Bool)
 | 0, _, _, _, _, _, _, _, _ => none
 | k + 1, x0, x1, x5, x8, x9, x11, x12, x13 => if x13 < x12 then (if 0 ≤ x13 then (if x13 < (x11.length : Int) then (if 0 ≤ ((rd_T67 x11 x13).f0) then (if (Go.bits .and .i64 (shr .i64 x5 ((rd_T67 x11 x13).f0)) 1) = 1 then (if 0 ≤ ((rd_T67 x11 x13).f1) then (impl_connected.l1 k x0 x1 (Go.bits .or .i64 x5 (Go.bits .or .i64 (shl .i64 1 ((rd_T67 x11 x13).f0)) (shl .i64 1 ((rd_T67 x11 x13).f1)))) x8 x9 x11 x12 (wrap64 (x13 + 1))) else (none)) else (if 0 ≤ ((rd_T67 x11 x13).f1) then (if (Go.bits .and .i64 (shr .i64 x5 ((rd_T67 x11 x13).f1)) 1) = 1 then (impl_connected.l1 k x0 x1 (Go.bits .or .i64 x5 (Go.bits .or .i64 (shl .i64 1 ((rd_T67 x11 x13).f0)) (shl .i64 1 ((rd_T67 x11 x13).f1)))) x8 x9 x11 x12 (wrap64 (x13 + 1))) else (impl_connected.l1 k x0 x1 x5 x8 x9 x11 x12 (wrap64 (x13 + 1)))) else (none))) else (none)) else (none)) else (none)) else (impl_connected.l0 k x0 x1 x5 x8 (wrap64 (x9 + 1)))
end
def impl_connected.f (k : Nat) (a0 : Int) (l1 : List (S67)) : Option (Bool) := impl_connected.l0 k a0 l1 1 a0 0
set_option maxHeartbeats 8000000 in
set_option maxRecDepth 100000 in
theorem impl_connected.calls (k : Nat) (a0 : Int) (A1 : Option Addr) (c1 : Nat) (l1 : List (S67)) (r : Bool) (w : World) (hr1 : Kd.C k67 w A1 l1.length l1) (hc1 : l1.length ≤ c1) (h : impl_connected.f k a0 l1 = some r) :
  Calls Try.prog 91 #[.int .i64 a0, .slice A1 l1.length c1] w fun e w' => e = .returned (.bool r) ∧ Below w.heap.size w w' := by
 have hu67 := Try.underlying67
 have HR1 := Aside0.mk hr1
 have HC1 := Aside0.mk hc1
 clear hr1 hc1
 have HB := Aside0.mk (Below.refl w.heap.size w)
 have H : (impl_connected.l0 k a0 l1 1 a0 0) = some r := h
 clear h
 have H' := Aside0.mk H
 clear H
 go_enter Try.func91, Try.ntmps91
 go_wp2
 repeat (go_quiet (fail); try go_wp2)
 go_loopg [5, 9] k (fun kq v5 v9 w' => ∃ (x5_1 : Int) (x9_1 : Int), v5 = .int .i64 x5_1 ∧ v9 = .int .i64 x9_1 ∧ Aside0 (impl_connected.l0 kq a0 l1 x5_1 a0 x9_1 = some r) ∧ Aside0 (kq ≤ k) ∧ Aside0 (Below w.heap.size w w'))
 case atStart => exact ⟨(1), (0), (by first | rfl | (simp; done) | (simp [*]; done)), (by first | rfl | (simp; done) | (simp [*]; done)), H', ⟨Nat.le_refl _⟩, ⟨by exact Lz HB⟩⟩
 case round =>
  clear H'
  try clear c1
  obtain ⟨x5_1, x9_1, rfl, rfl, HA, HK1, HB⟩ := hrel
  cases gk with
  | zero => exact absurd HA.out (by simp [impl_connected.l0])
  | succ k1 =>
   have H := HA.out
   clear HA
   simp only [impl_connected.l0] at H
   by_cases c3 : x9_1 < a0
   ·rw [if_pos c3] at H
    have c3b0 : decide (x9_1 < a0) = true := decide_eq_true c3
    clear c3
    have H' := Aside0.mk H
    clear H
    go_wp2
    repeat (go_quiet (fail); try go_wp2)
    go_loopg [5, 13] k1 (fun kq v5 v13 w' => ∃ (x5_2 : Int) (x13_2 : Int), v5 = .int .i64 x5_2 ∧ v13 = .int .i64 x13_2 ∧ Aside0 (impl_connected.l1 kq a0 l1 x5_2 a0 x9_1 l1 (l1.length : Int) x13_2 = some r) ∧ Aside0 (kq ≤ k1) ∧ Aside0 (Below w.heap.size w w'))
    case atStart => exact ⟨(x5_1), (0), (by first | rfl | (simp; done) | (simp [*]; done)), (by first | rfl | (simp; done) | (simp [*]; done)), H', ⟨Nat.le_refl _⟩, ⟨by exact Lz HB⟩⟩
    case round =>
     clear H'
     try clear c1
     try clear c3
     try clear c3b0
     obtain ⟨x5_2, x13_2, rfl, rfl, HA, HK2, HB⟩ := hrel
     cases gk with
     | zero => exact absurd HA.out (by simp [impl_connected.l1])
     | succ k2 =>
      have H := HA.out
      clear HA
      simp only [impl_connected.l1] at H
      by_cases c4 : x13_2 < (l1.length : Int)
      ·rw [if_pos c4] at H
       have c4b0 : decide (x13_2 < (l1.length : Int)) = true := decide_eq_true c4
       clear c4
       by_cases c5 : 0 ≤ x13_2
       ·rw [if_pos c5] at H
        have c5b0 : decide (0 ≤ x13_2) = true := decide_eq_true c5
        clear c5
        by_cases c6 : x13_2 < (l1.length : Int)
        ·rw [if_pos c6] at H
         have c6b0 : decide (x13_2 < (l1.length : Int)) = true := decide_eq_true c6
         clear c6
         by_cases c7 : 0 ≤ ((rd_T67 l1 x13_2).f0)
         ·rw [if_pos c7] at H
          have c7b0 := eq_true c7
          have c7b1 : decide (0 ≤ ((rd_T67 l1 x13_2).f0)) = true := decide_eq_true c7
          clear c7
          obtain ⟨ji8, hji8⟩ : ∃ j_ : Int, (shr .i64 x5_2 ((rd_T67 l1 x13_2).f0)) = j_ := ⟨_, rfl⟩
          replace H : (if (Go.bits .and .i64 (ji8) 1) = 1 then (if 0 ≤ ((rd_T67 l1 x13_2).f1) then (impl_connected.l1 k2 a0 l1 (Go.bits .or .i64 x5_2 (Go.bits .or .i64 (shl .i64 1 ((rd_T67 l1 x13_2).f0)) (shl .i64 1 ((rd_T67 l1 x13_2).f1)))) a0 x9_1 l1 (l1.length : Int) (wrap64 (x13_2 + 1))) else (none)) else (if 0 ≤ ((rd_T67 l1 x13_2).f1) then (if (Go.bits .and .i64 (shr .i64 x5_2 ((rd_T67 l1 x13_2).f1)) 1) = 1 then (impl_connected.l1 k2 a0 l1 (Go.bits .or .i64 x5_2 (Go.bits .or .i64 (shl .i64 1 ((rd_T67 l1 x13_2).f0)) (shl .i64 1 ((rd_T67 l1 x13_2).f1)))) a0 x9_1 l1 (l1.length : Int) (wrap64 (x13_2 + 1))) else (impl_connected.l1 k2 a0 l1 x5_2 a0 x9_1 l1 (l1.length : Int) (wrap64 (x13_2 + 1)))) else (none))) = some r := by first | (rw [hji8] at H; exact H) | (simp only [hji8] at H ⊢; exact H)
          have hji8_ : (x5_2 / 2 ^ min ((rd_T67 l1 x13_2).f0).toNat 64) = ji8 := hji8
          have hji8z : ((rd_T67 l1 x13_2).f0) ≤ 64 → (x5_2 / 2 ^ ((rd_T67 l1 x13_2).f0).toNat) = ji8 := shr_small hji8
          by_cases c9 : (Go.bits .and .i64 (ji8) 1) = 1
          ·rw [if_pos c9] at H
           have c9b0 : ((Go.bits .and .i64 (ji8) 1) == 1) = true := beq_iff_eq.mpr c9
           have c9b1 : ((Go.bits .and .i64 (ji8) 1) != 1) = false := bne_eq_false_iff_eq.mpr c9
           clear c9
           have c10b0 := eq_true (of_decide_eq_true (by first | (with_reducible assumption) | assumption) : 0 ≤ ((rd_T67 l1 x13_2).f0))
           obtain ⟨ji11, hji11⟩ : ∃ j_ : Int, (shl .i64 1 ((rd_T67 l1 x13_2).f0)) = j_ := ⟨_, rfl⟩
           replace H : (if 0 ≤ ((rd_T67 l1 x13_2).f1) then (impl_connected.l1 k2 a0 l1 (Go.bits .or .i64 x5_2 (Go.bits .or .i64 (ji11) (shl .i64 1 ((rd_T67 l1 x13_2).f1)))) a0 x9_1 l1 (l1.length : Int) (wrap64 (x13_2 + 1))) else (none)) = some r := by first | (rw [hji11] at H; exact H) | (simp only [hji11] at H ⊢; exact H)
           have hji11_ : (IntKind.i64.wrap (1 * 2 ^ min ((rd_T67 l1 x13_2).f0).toNat 64)) = ji11 := hji11
           have hji11z : ((rd_T67 l1 x13_2).f0) ≤ 64 → (IntKind.i64.wrap (1 * 2 ^ ((rd_T67 l1 x13_2).f0).toNat)) = ji11 := shl_small hji11
           have hji11u : (IntKind.i64.wrap (2 ^ min ((rd_T67 l1 x13_2).f0).toNat 64)) = ji11 := by have h_ := hji11_; rw [Int.one_mul] at h_; exact h_
           have hji11v : ((rd_T67 l1 x13_2).f0) ≤ 64 → (IntKind.i64.wrap (2 ^ ((rd_T67 l1 x13_2).f0).toNat)) = ji11 := fun hle_ => by have h_ := hji11z hle_; rw [Int.one_mul] at h_; exact h_
           have hji11y : (wrap64 (1 * 2 ^ min ((rd_T67 l1 x13_2).f0).toNat 64)) = ji11 := (i64_w _).symm.trans hji11_
           have hji11x : ((rd_T67 l1 x13_2).f0) ≤ 64 → (wrap64 (1 * 2 ^ ((rd_T67 l1 x13_2).f0).toNat)) = ji11 := fun h_ => (i64_w _).symm.trans (hji11z h_)
           by_cases c12 : 0 ≤ ((rd_T67 l1 x13_2).f1)
           ·rw [if_pos c12] at H
            have c12b0 := eq_true c12
            have c12b1 : decide (0 ≤ ((rd_T67 l1 x13_2).f1)) = true := decide_eq_true c12
            clear c12
            obtain ⟨ji13, hji13⟩ : ∃ j_ : Int, (shl .i64 1 ((rd_T67 l1 x13_2).f1)) = j_ := ⟨_, rfl⟩
            replace H : (impl_connected.l1 k2 a0 l1 (Go.bits .or .i64 x5_2 (Go.bits .or .i64 (ji11) (ji13))) a0 x9_1 l1 (l1.length : Int) (wrap64 (x13_2 + 1))) = some r := by first | (rw [hji13] at H; exact H) | (simp only [hji13] at H ⊢; exact H)
            have hji13_ : (IntKind.i64.wrap (1 * 2 ^ min ((rd_T67 l1 x13_2).f1).toNat 64)) = ji13 := hji13
            have hji13z : ((rd_T67 l1 x13_2).f1) ≤ 64 → (IntKind.i64.wrap (1 * 2 ^ ((rd_T67 l1 x13_2).f1).toNat)) = ji13 := shl_small hji13
            have hji13u : (IntKind.i64.wrap (2 ^ min ((rd_T67 l1 x13_2).f1).toNat 64)) = ji13 := by have h_ := hji13_; rw [Int.one_mul] at h_; exact h_
            have hji13v : ((rd_T67 l1 x13_2).f1) ≤ 64 → (IntKind.i64.wrap (2 ^ ((rd_T67 l1 x13_2).f1).toNat)) = ji13 := fun hle_ => by have h_ := hji13z hle_; rw [Int.one_mul] at h_; exact h_
            have hji13y : (wrap64 (1 * 2 ^ min ((rd_T67 l1 x13_2).f1).toNat 64)) = ji13 := (i64_w _).symm.trans hji13_
            have hji13x : ((rd_T67 l1 x13_2).f1) ≤ 64 → (wrap64 (1 * 2 ^ ((rd_T67 l1 x13_2).f1).toNat)) = ji13 := fun h_ => (i64_w _).symm.trans (hji13z h_)
            have H' := Aside0.mk H
            clear H
            have p280 : 0 ≤ (x13_2 : Int) := of_decide_eq_true (by first | (with_reducible assumption) | assumption)
            have q280 : x13_2 < (l1.length : Int) := of_decide_eq_true (by first | (with_reducible assumption) | assumption)
            obtain ⟨ad280, e280, hx280_0, hx280_1⟩ := at_T67 HR1.out x13_2 p280 q280
            cases e280
            replace hx280_0 := (HB.out.cell (World.block_lt_of_cell? w _ hx280_0)).trans hx280_0
            replace hx280_1 := (HB.out.cell (World.block_lt_of_cell? w _ hx280_1)).trans hx280_1
            replace p280 := eq_true p280
            replace q280 := eq_true q280
            go_wp2_with (first | ((with_reducible refine gate_dst (N := 7) rfl ?_); refine box_event ?hg (N := 7) ?hd (cs := #[.int .i64 0, .int .i64 0]) (t := 67) ?hr ?_; (case hd => rfl); (case hg => rfl); (case hr => first | (go_simp; done) | (go_simp; rfl)); intro gb281 hg w14 hbox hb; have BK281 := Aside0.mk (hbox); have GW281 := Aside0.mk ((by rw [hg]; exact (below_size (Lz HB)) : w.heap.size ≤ gb281)); have GE281 := Aside0.mk ((by rw [hg]; exact (below_size (Lz HB)) : w.heap.size ≤ gb281)); replace HB := Aside0.mk (below_step (Lz HB) hb); clear hb hbox hg; have hcz15_0 : w14.cell? ⟨gb281, 0, none⟩ = some (.int .i64 0) := (blk_cell BK281.out 0).trans rfl; have hcz15_1 : w14.cell? ⟨gb281, 1, none⟩ = some (.int .i64 0) := (blk_cell BK281.out 1).trans rfl; have hfz15_0 := blk_frozen BK281.out 0; have hfz15_1 := blk_frozen BK281.out 1))
            repeat (go_quiet (first | ((with_reducible refine gate_dst (N := 7) rfl ?_); refine box_event ?hg (N := 7) ?hd (cs := #[.int .i64 0, .int .i64 0]) (t := 67) ?hr ?_; (case hd => rfl); (case hg => rfl); (case hr => first | (go_simp; done) | (go_simp; rfl)); intro gb281 hg w14 hbox hb; have BK281 := Aside0.mk (hbox); have GW281 := Aside0.mk ((by rw [hg]; exact (below_size (Lz HB)) : w.heap.size ≤ gb281)); have GE281 := Aside0.mk ((by rw [hg]; exact (below_size (Lz HB)) : w.heap.size ≤ gb281)); replace HB := Aside0.mk (below_step (Lz HB) hb); clear hb hbox hg; have hcz15_0 : w14.cell? ⟨gb281, 0, none⟩ = some (.int .i64 0) := (blk_cell BK281.out 0).trans rfl; have hcz15_1 : w14.cell? ⟨gb281, 1, none⟩ = some (.int .i64 0) := (blk_cell BK281.out 1).trans rfl; have hfz15_0 := blk_frozen BK281.out 0; have hfz15_1 := blk_frozen BK281.out 1)); try go_wp2_with (first | ((with_reducible refine gate_dst (N := 7) rfl ?_); refine box_event ?hg (N := 7) ?hd (cs := #[.int .i64 0, .int .i64 0]) (t := 67) ?hr ?_; (case hd => rfl); (case hg => rfl); (case hr => first | (go_simp; done) | (go_simp; rfl)); intro gb281 hg w14 hbox hb; have BK281 := Aside0.mk (hbox); have GW281 := Aside0.mk ((by rw [hg]; exact (below_size (Lz HB)) : w.heap.size ≤ gb281)); have GE281 := Aside0.mk ((by rw [hg]; exact (below_size (Lz HB)) : w.heap.size ≤ gb281)); replace HB := Aside0.mk (below_step (Lz HB) hb); clear hb hbox hg; have hcz15_0 : w14.cell? ⟨gb281, 0, none⟩ = some (.int .i64 0) := (blk_cell BK281.out 0).trans rfl; have hcz15_1 : w14.cell? ⟨gb281, 1, none⟩ = some (.int .i64 0) := (blk_cell BK281.out 1).trans rfl; have hfz15_0 := blk_frozen BK281.out 0; have hfz15_1 := blk_frozen BK281.out 1)))
            go_roundg k2
            case measure => have := HK1.out; have := HK2.out; omega
            case rel => exact ⟨(Go.bits .or .i64 x5_2 (Go.bits .or .i64 (ji11) (ji13))), (wrap64 (x13_2 + 1)), (by first | rfl | (simp; done) | (simp only [← hji11, ← hji13] <;> (first | rfl | simp)) | (simp [*]; done)), (by first | rfl | (simp; done) | (simp [*]; done)), H', ⟨by have := HK1.out; have := HK2.out; omega⟩, ⟨by exact Lz1 HB GE281⟩⟩
           rw [if_neg c12] at H
           exact absurd H (by simp)
          rw [if_neg c9] at H
          have c9b0 : ((Go.bits .and .i64 (ji8) 1) == 1) = false := beq_eq_false_iff_ne.mpr c9
          have c9b1 : ((Go.bits .and .i64 (ji8) 1) != 1) = true := bne_iff_ne.mpr c9
          by_cases c16 : 0 ≤ ((rd_T67 l1 x13_2).f1)
          ·rw [if_pos c16] at H
           have c16b0 := eq_true c16
           have c16b1 : decide (0 ≤ ((rd_T67 l1 x13_2).f1)) = true := decide_eq_true c16
           clear c16
           obtain ⟨ji17, hji17⟩ : ∃ j_ : Int, (shr .i64 x5_2 ((rd_T67 l1 x13_2).f1)) = j_ := ⟨_, rfl⟩
           replace H : (if (Go.bits .and .i64 (ji17) 1) = 1 then (impl_connected.l1 k2 a0 l1 (Go.bits .or .i64 x5_2 (Go.bits .or .i64 (shl .i64 1 ((rd_T67 l1 x13_2).f0)) (shl .i64 1 ((rd_T67 l1 x13_2).f1)))) a0 x9_1 l1 (l1.length : Int) (wrap64 (x13_2 + 1))) else (impl_connected.l1 k2 a0 l1 x5_2 a0 x9_1 l1 (l1.length : Int) (wrap64 (x13_2 + 1)))) = some r := by first | (rw [hji17] at H; exact H) | (simp only [hji17] at H ⊢; exact H)
           have hji17_ : (x5_2 / 2 ^ min ((rd_T67 l1 x13_2).f1).toNat 64) = ji17 := hji17
           have hji17z : ((rd_T67 l1 x13_2).f1) ≤ 64 → (x5_2 / 2 ^ ((rd_T67 l1 x13_2).f1).toNat) = ji17 := shr_small hji17
           by_cases c18 : (Go.bits .and .i64 (ji17) 1) = 1
           ·rw [if_pos c18] at H
            have c18b0 : ((Go.bits .and .i64 (ji17) 1) == 1) = true := beq_iff_eq.mpr c18
            have c18b1 : ((Go.bits .and .i64 (ji17) 1) != 1) = false := bne_eq_false_iff_eq.mpr c18
            clear c18
            have c19b0 := eq_true (of_decide_eq_true (by first | (with_reducible assumption) | assumption) : 0 ≤ ((rd_T67 l1 x13_2).f0))
            obtain ⟨ji20, hji20⟩ : ∃ j_ : Int, (shl .i64 1 ((rd_T67 l1 x13_2).f0)) = j_ := ⟨_, rfl⟩
            replace H : (impl_connected.l1 k2 a0 l1 (Go.bits .or .i64 x5_2 (Go.bits .or .i64 (ji20) (shl .i64 1 ((rd_T67 l1 x13_2).f1)))) a0 x9_1 l1 (l1.length : Int) (wrap64 (x13_2 + 1))) = some r := by first | (rw [hji20] at H; exact H) | (simp only [hji20] at H ⊢; exact H)
            have hji20_ : (IntKind.i64.wrap (1 * 2 ^ min ((rd_T67 l1 x13_2).f0).toNat 64)) = ji20 := hji20
            have hji20z : ((rd_T67 l1 x13_2).f0) ≤ 64 → (IntKind.i64.wrap (1 * 2 ^ ((rd_T67 l1 x13_2).f0).toNat)) = ji20 := shl_small hji20
            have hji20u : (IntKind.i64.wrap (2 ^ min ((rd_T67 l1 x13_2).f0).toNat 64)) = ji20 := by have h_ := hji20_; rw [Int.one_mul] at h_; exact h_
            have hji20v : ((rd_T67 l1 x13_2).f0) ≤ 64 → (IntKind.i64.wrap (2 ^ ((rd_T67 l1 x13_2).f0).toNat)) = ji20 := fun hle_ => by have h_ := hji20z hle_; rw [Int.one_mul] at h_; exact h_
            have hji20y : (wrap64 (1 * 2 ^ min ((rd_T67 l1 x13_2).f0).toNat 64)) = ji20 := (i64_w _).symm.trans hji20_
            have hji20x : ((rd_T67 l1 x13_2).f0) ≤ 64 → (wrap64 (1 * 2 ^ ((rd_T67 l1 x13_2).f0).toNat)) = ji20 := fun h_ => (i64_w _).symm.trans (hji20z h_)
            have c21b0 := eq_true (of_decide_eq_true (by first | (with_reducible assumption) | assumption) : 0 ≤ ((rd_T67 l1 x13_2).f1))
            obtain ⟨ji22, hji22⟩ : ∃ j_ : Int, (shl .i64 1 ((rd_T67 l1 x13_2).f1)) = j_ := ⟨_, rfl⟩
            replace H : (impl_connected.l1 k2 a0 l1 (Go.bits .or .i64 x5_2 (Go.bits .or .i64 (ji20) (ji22))) a0 x9_1 l1 (l1.length : Int) (wrap64 (x13_2 + 1))) = some r := by first | (rw [hji22] at H; exact H) | (simp only [hji22] at H ⊢; exact H)
            have hji22_ : (IntKind.i64.wrap (1 * 2 ^ min ((rd_T67 l1 x13_2).f1).toNat 64)) = ji22 := hji22
            have hji22z : ((rd_T67 l1 x13_2).f1) ≤ 64 → (IntKind.i64.wrap (1 * 2 ^ ((rd_T67 l1 x13_2).f1).toNat)) = ji22 := shl_small hji22
            have hji22u : (IntKind.i64.wrap (2 ^ min ((rd_T67 l1 x13_2).f1).toNat 64)) = ji22 := by have h_ := hji22_; rw [Int.one_mul] at h_; exact h_
            have hji22v : ((rd_T67 l1 x13_2).f1) ≤ 64 → (IntKind.i64.wrap (2 ^ ((rd_T67 l1 x13_2).f1).toNat)) = ji22 := fun hle_ => by have h_ := hji22z hle_; rw [Int.one_mul] at h_; exact h_
            have hji22y : (wrap64 (1 * 2 ^ min ((rd_T67 l1 x13_2).f1).toNat 64)) = ji22 := (i64_w _).symm.trans hji22_
            have hji22x : ((rd_T67 l1 x13_2).f1) ≤ 64 → (wrap64 (1 * 2 ^ ((rd_T67 l1 x13_2).f1).toNat)) = ji22 := fun h_ => (i64_w _).symm.trans (hji22z h_)
            have H' := Aside0.mk H
            clear H
            have p280 : 0 ≤ (x13_2 : Int) := of_decide_eq_true (by first | (with_reducible assumption) | assumption)
            have q280 : x13_2 < (l1.length : Int) := of_decide_eq_true (by first | (with_reducible assumption) | assumption)
            obtain ⟨ad280, e280, hx280_0, hx280_1⟩ := at_T67 HR1.out x13_2 p280 q280
            cases e280
            replace hx280_0 := (HB.out.cell (World.block_lt_of_cell? w _ hx280_0)).trans hx280_0
            replace hx280_1 := (HB.out.cell (World.block_lt_of_cell? w _ hx280_1)).trans hx280_1
            replace p280 := eq_true p280
            replace q280 := eq_true q280
            go_wp2_with (first | ((with_reducible refine gate_dst (N := 7) rfl ?_); refine box_event ?hg (N := 7) ?hd (cs := #[.int .i64 0, .int .i64 0]) (t := 67) ?hr ?_; (case hd => rfl); (case hg => rfl); (case hr => first | (go_simp; done) | (go_simp; rfl)); intro gb281 hg w23 hbox hb; have BK281 := Aside0.mk (hbox); have GW281 := Aside0.mk ((by rw [hg]; exact (below_size (Lz HB)) : w.heap.size ≤ gb281)); have GE281 := Aside0.mk ((by rw [hg]; exact (below_size (Lz HB)) : w.heap.size ≤ gb281)); replace HB := Aside0.mk (below_step (Lz HB) hb); clear hb hbox hg; have hcz24_0 : w23.cell? ⟨gb281, 0, none⟩ = some (.int .i64 0) := (blk_cell BK281.out 0).trans rfl; have hcz24_1 : w23.cell? ⟨gb281, 1, none⟩ = some (.int .i64 0) := (blk_cell BK281.out 1).trans rfl; have hfz24_0 := blk_frozen BK281.out 0; have hfz24_1 := blk_frozen BK281.out 1))
            repeat (go_quiet (first | ((with_reducible refine gate_dst (N := 7) rfl ?_); refine box_event ?hg (N := 7) ?hd (cs := #[.int .i64 0, .int .i64 0]) (t := 67) ?hr ?_; (case hd => rfl); (case hg => rfl); (case hr => first | (go_simp; done) | (go_simp; rfl)); intro gb281 hg w23 hbox hb; have BK281 := Aside0.mk (hbox); have GW281 := Aside0.mk ((by rw [hg]; exact (below_size (Lz HB)) : w.heap.size ≤ gb281)); have GE281 := Aside0.mk ((by rw [hg]; exact (below_size (Lz HB)) : w.heap.size ≤ gb281)); replace HB := Aside0.mk (below_step (Lz HB) hb); clear hb hbox hg; have hcz24_0 : w23.cell? ⟨gb281, 0, none⟩ = some (.int .i64 0) := (blk_cell BK281.out 0).trans rfl; have hcz24_1 : w23.cell? ⟨gb281, 1, none⟩ = some (.int .i64 0) := (blk_cell BK281.out 1).trans rfl; have hfz24_0 := blk_frozen BK281.out 0; have hfz24_1 := blk_frozen BK281.out 1)); try go_wp2_with (first | ((with_reducible refine gate_dst (N := 7) rfl ?_); refine box_event ?hg (N := 7) ?hd (cs := #[.int .i64 0, .int .i64 0]) (t := 67) ?hr ?_; (case hd => rfl); (case hg => rfl); (case hr => first | (go_simp; done) | (go_simp; rfl)); intro gb281 hg w23 hbox hb; have BK281 := Aside0.mk (hbox); have GW281 := Aside0.mk ((by rw [hg]; exact (below_size (Lz HB)) : w.heap.size ≤ gb281)); have GE281 := Aside0.mk ((by rw [hg]; exact (below_size (Lz HB)) : w.heap.size ≤ gb281)); replace HB := Aside0.mk (below_step (Lz HB) hb); clear hb hbox hg; have hcz24_0 : w23.cell? ⟨gb281, 0, none⟩ = some (.int .i64 0) := (blk_cell BK281.out 0).trans rfl; have hcz24_1 : w23.cell? ⟨gb281, 1, none⟩ = some (.int .i64 0) := (blk_cell BK281.out 1).trans rfl; have hfz24_0 := blk_frozen BK281.out 0; have hfz24_1 := blk_frozen BK281.out 1)))
            go_roundg k2
            case measure => have := HK1.out; have := HK2.out; omega
            case rel => exact ⟨(Go.bits .or .i64 x5_2 (Go.bits .or .i64 (ji20) (ji22))), (wrap64 (x13_2 + 1)), (by first | rfl | (simp; done) | (simp only [← hji20, ← hji22] <;> (first | rfl | simp)) | (simp [*]; done)), (by first | rfl | (simp; done) | (simp [*]; done)), H', ⟨by have := HK1.out; have := HK2.out; omega⟩, ⟨by exact Lz1 HB GE281⟩⟩
           rw [if_neg c18] at H
           have c18b0 : ((Go.bits .and .i64 (ji17) 1) == 1) = false := beq_eq_false_iff_ne.mpr c18
           have c18b1 : ((Go.bits .and .i64 (ji17) 1) != 1) = true := bne_iff_ne.mpr c18
           have H' := Aside0.mk H
           clear H
           have p280 : 0 ≤ (x13_2 : Int) := of_decide_eq_true (by first | (with_reducible assumption) | assumption)
           have q280 : x13_2 < (l1.length : Int) := of_decide_eq_true (by first | (with_reducible assumption) | assumption)
           obtain ⟨ad280, e280, hx280_0, hx280_1⟩ := at_T67 HR1.out x13_2 p280 q280
           cases e280
           replace hx280_0 := (HB.out.cell (World.block_lt_of_cell? w _ hx280_0)).trans hx280_0
           replace hx280_1 := (HB.out.cell (World.block_lt_of_cell? w _ hx280_1)).trans hx280_1
           replace p280 := eq_true p280
           replace q280 := eq_true q280
           go_wp2_with (first | ((with_reducible refine gate_dst (N := 7) rfl ?_); refine box_event ?hg (N := 7) ?hd (cs := #[.int .i64 0, .int .i64 0]) (t := 67) ?hr ?_; (case hd => rfl); (case hg => rfl); (case hr => first | (go_simp; done) | (go_simp; rfl)); intro gb281 hg w25 hbox hb; have BK281 := Aside0.mk (hbox); have GW281 := Aside0.mk ((by rw [hg]; exact (below_size (Lz HB)) : w.heap.size ≤ gb281)); have GE281 := Aside0.mk ((by rw [hg]; exact (below_size (Lz HB)) : w.heap.size ≤ gb281)); replace HB := Aside0.mk (below_step (Lz HB) hb); clear hb hbox hg; have hcz26_0 : w25.cell? ⟨gb281, 0, none⟩ = some (.int .i64 0) := (blk_cell BK281.out 0).trans rfl; have hcz26_1 : w25.cell? ⟨gb281, 1, none⟩ = some (.int .i64 0) := (blk_cell BK281.out 1).trans rfl; have hfz26_0 := blk_frozen BK281.out 0; have hfz26_1 := blk_frozen BK281.out 1))
           repeat (go_quiet (first | ((with_reducible refine gate_dst (N := 7) rfl ?_); refine box_event ?hg (N := 7) ?hd (cs := #[.int .i64 0, .int .i64 0]) (t := 67) ?hr ?_; (case hd => rfl); (case hg => rfl); (case hr => first | (go_simp; done) | (go_simp; rfl)); intro gb281 hg w25 hbox hb; have BK281 := Aside0.mk (hbox); have GW281 := Aside0.mk ((by rw [hg]; exact (below_size (Lz HB)) : w.heap.size ≤ gb281)); have GE281 := Aside0.mk ((by rw [hg]; exact (below_size (Lz HB)) : w.heap.size ≤ gb281)); replace HB := Aside0.mk (below_step (Lz HB) hb); clear hb hbox hg; have hcz26_0 : w25.cell? ⟨gb281, 0, none⟩ = some (.int .i64 0) := (blk_cell BK281.out 0).trans rfl; have hcz26_1 : w25.cell? ⟨gb281, 1, none⟩ = some (.int .i64 0) := (blk_cell BK281.out 1).trans rfl; have hfz26_0 := blk_frozen BK281.out 0; have hfz26_1 := blk_frozen BK281.out 1)); try go_wp2_with (first | ((with_reducible refine gate_dst (N := 7) rfl ?_); refine box_event ?hg (N := 7) ?hd (cs := #[.int .i64 0, .int .i64 0]) (t := 67) ?hr ?_; (case hd => rfl); (case hg => rfl); (case hr => first | (go_simp; done) | (go_simp; rfl)); intro gb281 hg w25 hbox hb; have BK281 := Aside0.mk (hbox); have GW281 := Aside0.mk ((by rw [hg]; exact (below_size (Lz HB)) : w.heap.size ≤ gb281)); have GE281 := Aside0.mk ((by rw [hg]; exact (below_size (Lz HB)) : w.heap.size ≤ gb281)); replace HB := Aside0.mk (below_step (Lz HB) hb); clear hb hbox hg; have hcz26_0 : w25.cell? ⟨gb281, 0, none⟩ = some (.int .i64 0) := (blk_cell BK281.out 0).trans rfl; have hcz26_1 : w25.cell? ⟨gb281, 1, none⟩ = some (.int .i64 0) := (blk_cell BK281.out 1).trans rfl; have hfz26_0 := blk_frozen BK281.out 0; have hfz26_1 := blk_frozen BK281.out 1)))
           go_roundg k2
           case measure => have := HK1.out; have := HK2.out; omega
           case rel => exact ⟨(x5_2), (wrap64 (x13_2 + 1)), (by first | rfl | (simp; done) | (simp [*]; done)), (by first | rfl | (simp; done) | (simp [*]; done)), H', ⟨by have := HK1.out; have := HK2.out; omega⟩, ⟨by exact Lz1 HB GE281⟩⟩
          rw [if_neg c16] at H
          exact absurd H (by simp)
         rw [if_neg c7] at H
         exact absurd H (by simp)
        rw [if_neg c6] at H
        exact absurd H (by simp)
       rw [if_neg c5] at H
       exact absurd H (by simp)
      rw [if_neg c4] at H
      have c4b0 : decide (x13_2 < (l1.length : Int)) = false := decide_eq_false c4
      clear c4
      have H' := Aside0.mk H
      clear H
      go_wp2
      repeat (go_quiet (fail); try go_wp2)
      go_roundg k2
      case measure => have := HK1.out; have := HK2.out; omega
      case rel => exact ⟨(x5_2), (wrap64 (x9_1 + 1)), (by first | rfl | (simp; done) | (simp [*]; done)), (by first | rfl | (simp; done) | (simp [*]; done)), H', ⟨by have := HK1.out; have := HK2.out; omega⟩, ⟨by exact Lz HB⟩⟩
   rw [if_neg c3] at H
   have c3b0 : decide (x9_1 < a0) = false := decide_eq_false c3
   clear c3
   by_cases c27 : 0 ≤ a0
   ·rw [if_pos c27] at H
    have c27b0 := eq_true c27
    have c27b1 : decide (0 ≤ a0) = true := decide_eq_true c27
    clear c27
    obtain ⟨ji28, hji28⟩ : ∃ j_ : Int, (shl .i64 1 a0) = j_ := ⟨_, rfl⟩
    replace H : (some (x5_1 == (wrap64 ((ji28) - 1)))) = some r := by first | (rw [hji28] at H; exact H) | (simp only [hji28] at H ⊢; exact H)
    have hji28_ : (IntKind.i64.wrap (1 * 2 ^ min a0.toNat 64)) = ji28 := hji28
    have hji28z : a0 ≤ 64 → (IntKind.i64.wrap (1 * 2 ^ a0.toNat)) = ji28 := shl_small hji28
    have hji28u : (IntKind.i64.wrap (2 ^ min a0.toNat 64)) = ji28 := by have h_ := hji28_; rw [Int.one_mul] at h_; exact h_
    have hji28v : a0 ≤ 64 → (IntKind.i64.wrap (2 ^ a0.toNat)) = ji28 := fun hle_ => by have h_ := hji28z hle_; rw [Int.one_mul] at h_; exact h_
    have hji28y : (wrap64 (1 * 2 ^ min a0.toNat 64)) = ji28 := (i64_w _).symm.trans hji28_
    have hji28x : a0 ≤ 64 → (wrap64 (1 * 2 ^ a0.toNat)) = ji28 := fun h_ => (i64_w _).symm.trans (hji28z h_)
    obtain rfl := Option.some.inj H
    go_wp2
    repeat (go_quiet (fail); try go_wp2)
    go_ret
    exact ⟨by first | rfl | (simp [errW_none, errW_some] <;> rfl) | (simp only [← hji28]; first | rfl | (simp [errW_none, errW_some] <;> rfl)) | (simp [*, errW_none, errW_some] <;> rfl), by exact Lz HB⟩
   rw [if_neg c27] at H
   exact absurd H (by simp)
end Go.Proofs.Ytbcfccdoffbncaa.P
end
section
namespace Go.Proofs.Ytbcfccdoffbncaa.P
open Go.RowKit Go.Proofs.YtbcfccdoffbncaaW.PrintWords Go.Proofs.YtbcfccdoffbncaaW.PrintLast Go.Proofs.YtbcfccdoffbncaaW.PrintMore
attribute [local go_sem] max2_int min2_int max_two min_two max_three min_three max_four min_four
set_option linter.unusedVariables false
set_option linter.unusedSimpArgs false
def impl_GraphOk.f (k : Nat) (a0_0 : Int) (l0_1 : List (S67)) : Option (Bool) := (impl_EdgesOk.f k a0_0 l0_1).bind fun t283 => (if t283 = true then ((slices_IsSortedFunc_Edge.f k l0_1).bind fun t284 => (if t284 = true then ((impl_connected.f k a0_0 l0_1).bind fun t285 => (some t285)) else (some false))) else (some false))
set_option maxHeartbeats 8000000 in
set_option maxRecDepth 100000 in
theorem impl_GraphOk.calls (k : Nat) (a0_0 : Int) (A0_1 : Option Addr) (c0_1 : Nat) (l0_1 : List (S67)) (r : Bool) (w : World) (hr0_1 : Kd.C k67 w A0_1 l0_1.length l0_1) (hc0_1 : l0_1.length ≤ c0_1) (h : impl_GraphOk.f k a0_0 l0_1 = some r) :
  Calls Try.prog 50 #[.agg #[.int .i64 a0_0, .slice A0_1 l0_1.length c0_1]] w fun e w' => e = .returned (.bool r) ∧ Below w.heap.size w w' := by
 have hu31 := Try.underlying31
 have HR0_1 := Aside0.mk hr0_1
 have HC0_1 := Aside0.mk hc0_1
 clear hr0_1 hc0_1
 have HB := Aside0.mk (Below.refl w.heap.size w)
 have H : ((impl_EdgesOk.f k a0_0 l0_1).bind fun t283 => (if t283 = true then ((slices_IsSortedFunc_Edge.f k l0_1).bind fun t284 => (if t284 = true then ((impl_connected.f k a0_0 l0_1).bind fun t285 => (some t285)) else (some false))) else (some false))) = some r := h
 clear h
 replace H := Option.bind_eq_some_iff.mp H
 obtain ⟨t283, A20, H⟩ := H
 replace H : (if t283 = true then ((slices_IsSortedFunc_Edge.f k l0_1).bind fun t284 => (if t284 = true then ((impl_connected.f k a0_0 l0_1).bind fun t285 => (some t285)) else (some false))) else (some false)) = some r := H
 have A2 := Aside0.mk A20
 clear A20
 by_cases c3 : t283 = true
 ·subst c3
  have H1 : ((slices_IsSortedFunc_Edge.f k l0_1).bind fun t284 => (if t284 = true then ((impl_connected.f k a0_0 l0_1).bind fun t285 => (some t285)) else (some false))) = some r := by rw [if_pos rfl] at H; exact H
  clear H
  have H := H1
  clear H1
  replace H := Option.bind_eq_some_iff.mp H
  obtain ⟨t284, A40, H⟩ := H
  replace H : (if t284 = true then ((impl_connected.f k a0_0 l0_1).bind fun t285 => (some t285)) else (some false)) = some r := H
  have A4 := Aside0.mk A40
  clear A40
  by_cases c5 : t284 = true
  ·subst c5
   have H1 : ((impl_connected.f k a0_0 l0_1).bind fun t285 => (some t285)) = some r := by rw [if_pos rfl] at H; exact H
   clear H
   have H := H1
   clear H1
   replace H := Option.bind_eq_some_iff.mp H
   obtain ⟨t285, A60, H⟩ := H
   replace H : (some t285) = some r := H
   have A6 := Aside0.mk A60
   clear A60
   obtain rfl := Option.some.inj H
   go_enter Try.func50, Try.ntmps50
   go_wp2_with (first | ((with_reducible refine gate_dst (N := 1) rfl ?_); refine box_event ?hg (N := 1) ?hd (cs := #[.int .i64 a0_0, .slice A0_1 l0_1.length c0_1]) (t := 31) ?hr ?_; (case hd => rfl); (case hg => rfl); (case hr => first | (go_simp; done) | (go_simp; rfl)); intro gb282 hg w7 hbox hb; have BK282 := Aside0.mk (hbox); have GW282 := Aside0.mk ((by rw [hg]; exact (below_size (Lz HB)) : w.heap.size ≤ gb282)); have GE282 := Aside0.mk ((by rw [hg]; exact (below_size (Lz HB)) : w.heap.size ≤ gb282)); replace HB := Aside0.mk (below_step (Lz HB) hb); clear hb hbox hg; have hcz8_0 : w7.cell? ⟨gb282, 0, none⟩ = some (.int .i64 a0_0) := (blk_cell BK282.out 0).trans rfl; have hcz8_1 : w7.cell? ⟨gb282, 1, none⟩ = some (.slice A0_1 l0_1.length c0_1) := (blk_cell BK282.out 1).trans rfl; have hfz8_0 := blk_frozen BK282.out 0; have hfz8_1 := blk_frozen BK282.out 1) | ((with_reducible refine gate_callee (f := 89) rfl ?_); refine goesM_ (some 4) rfl rfl Try.func89 (by kernel_rfl) rfl #[.agg #[.int .i64 a0_0, .slice A0_1 l0_1.length c0_1]] rfl ?_; (with_reducible refine (impl_EdgesOk.calls k a0_0 _ _ l0_1 true _ ?side1 ?side2 A2.out).mono ?_); (case side1 => exact Cz ((Kd.C_below HR0_1.out HB.out))); (case side2 => exact HC0_1.out); rintro e w9 ⟨rfl, hb⟩; refine ⟨_, rfl, ?_⟩; replace BK282 := Aside0.mk (blk_below (g := gb282) (o := .cells #[.int .i64 a0_0, .slice A0_1 l0_1.length c0_1] 31 (0, 0)) (Bz BK282) hb); replace HB := Aside0.mk (below_step (by exact Lz1 HB GE282) hb); (try clear hb); (try clear hb2); (try clear hk); (try clear hi); have hcz10_0 : w9.cell? ⟨gb282, 0, none⟩ = some (.int .i64 a0_0) := (blk_cell BK282.out 0).trans rfl; have hcz10_1 : w9.cell? ⟨gb282, 1, none⟩ = some (.slice A0_1 l0_1.length c0_1) := (blk_cell BK282.out 1).trans rfl; have hfz10_0 := blk_frozen BK282.out 0; have hfz10_1 := blk_frozen BK282.out 1) | (go_at_call 90; (with_reducible refine (slices_IsSortedFunc_Edge.calls k _ _ l0_1 true _ ?side1 ?side2 A4.out).mono ?_); (case side1 => exact Cz ((Kd.C_below HR0_1.out HB.out))); (case side2 => exact HC0_1.out); rintro e w11 ⟨rfl, hb⟩; replace BK282 := Aside0.mk (blk_below (g := gb282) (o := .cells #[.int .i64 a0_0, .slice A0_1 l0_1.length c0_1] 31 (0, 0)) (Bz BK282) hb); replace HB := Aside0.mk (below_step (by exact Lz1 HB GE282) hb); (try clear hb); (try clear hb2); (try clear hk); (try clear hi); have hcz12_0 : w11.cell? ⟨gb282, 0, none⟩ = some (.int .i64 a0_0) := (blk_cell BK282.out 0).trans rfl; have hcz12_1 : w11.cell? ⟨gb282, 1, none⟩ = some (.slice A0_1 l0_1.length c0_1) := (blk_cell BK282.out 1).trans rfl; have hfz12_0 := blk_frozen BK282.out 0; have hfz12_1 := blk_frozen BK282.out 1) | (go_at_call 91; (with_reducible refine (impl_connected.calls k a0_0 _ _ l0_1 t285 _ ?side1 ?side2 A6.out).mono ?_); (case side1 => exact Cz ((Kd.C_below HR0_1.out HB.out))); (case side2 => exact HC0_1.out); rintro e w13 ⟨rfl, hb⟩; replace BK282 := Aside0.mk (blk_below (g := gb282) (o := .cells #[.int .i64 a0_0, .slice A0_1 l0_1.length c0_1] 31 (0, 0)) (Bz BK282) hb); replace HB := Aside0.mk (below_step (by exact Lz1 HB GE282) hb); (try clear hb); (try clear hb2); (try clear hk); (try clear hi)))
   go_ret
   exact ⟨by first | rfl | (simp [errW_none, errW_some] <;> rfl) | (simp [*, errW_none, errW_some] <;> rfl), by exact Lz1 HB GE282⟩
  replace c5 := Bool.eq_false_iff.mpr c5
  subst c5
  have H1 : (some false) = some r := by rw [if_neg (show ¬ (false = true) by decide)] at H; exact H
  clear H
  have H := H1
  clear H1
  obtain rfl := Option.some.inj H
  go_enter Try.func50, Try.ntmps50
  go_wp2_with (first | ((with_reducible refine gate_dst (N := 1) rfl ?_); refine box_event ?hg (N := 1) ?hd (cs := #[.int .i64 a0_0, .slice A0_1 l0_1.length c0_1]) (t := 31) ?hr ?_; (case hd => rfl); (case hg => rfl); (case hr => first | (go_simp; done) | (go_simp; rfl)); intro gb282 hg w14 hbox hb; have BK282 := Aside0.mk (hbox); have GW282 := Aside0.mk ((by rw [hg]; exact (below_size (Lz HB)) : w.heap.size ≤ gb282)); have GE282 := Aside0.mk ((by rw [hg]; exact (below_size (Lz HB)) : w.heap.size ≤ gb282)); replace HB := Aside0.mk (below_step (Lz HB) hb); clear hb hbox hg; have hcz15_0 : w14.cell? ⟨gb282, 0, none⟩ = some (.int .i64 a0_0) := (blk_cell BK282.out 0).trans rfl; have hcz15_1 : w14.cell? ⟨gb282, 1, none⟩ = some (.slice A0_1 l0_1.length c0_1) := (blk_cell BK282.out 1).trans rfl; have hfz15_0 := blk_frozen BK282.out 0; have hfz15_1 := blk_frozen BK282.out 1) | ((with_reducible refine gate_callee (f := 89) rfl ?_); refine goesM_ (some 4) rfl rfl Try.func89 (by kernel_rfl) rfl #[.agg #[.int .i64 a0_0, .slice A0_1 l0_1.length c0_1]] rfl ?_; (with_reducible refine (impl_EdgesOk.calls k a0_0 _ _ l0_1 true _ ?side1 ?side2 A2.out).mono ?_); (case side1 => exact Cz ((Kd.C_below HR0_1.out HB.out))); (case side2 => exact HC0_1.out); rintro e w16 ⟨rfl, hb⟩; refine ⟨_, rfl, ?_⟩; replace BK282 := Aside0.mk (blk_below (g := gb282) (o := .cells #[.int .i64 a0_0, .slice A0_1 l0_1.length c0_1] 31 (0, 0)) (Bz BK282) hb); replace HB := Aside0.mk (below_step (by exact Lz1 HB GE282) hb); (try clear hb); (try clear hb2); (try clear hk); (try clear hi); have hcz17_0 : w16.cell? ⟨gb282, 0, none⟩ = some (.int .i64 a0_0) := (blk_cell BK282.out 0).trans rfl; have hcz17_1 : w16.cell? ⟨gb282, 1, none⟩ = some (.slice A0_1 l0_1.length c0_1) := (blk_cell BK282.out 1).trans rfl; have hfz17_0 := blk_frozen BK282.out 0; have hfz17_1 := blk_frozen BK282.out 1) | (go_at_call 90; (with_reducible refine (slices_IsSortedFunc_Edge.calls k _ _ l0_1 false _ ?side1 ?side2 A4.out).mono ?_); (case side1 => exact Cz ((Kd.C_below HR0_1.out HB.out))); (case side2 => exact HC0_1.out); rintro e w18 ⟨rfl, hb⟩; replace BK282 := Aside0.mk (blk_below (g := gb282) (o := .cells #[.int .i64 a0_0, .slice A0_1 l0_1.length c0_1] 31 (0, 0)) (Bz BK282) hb); replace HB := Aside0.mk (below_step (by exact Lz1 HB GE282) hb); (try clear hb); (try clear hb2); (try clear hk); (try clear hi)))
  go_ret
  exact ⟨by first | rfl | (simp [errW_none, errW_some] <;> rfl) | (simp [*, errW_none, errW_some] <;> rfl), by exact Lz1 HB GE282⟩
 replace c3 := Bool.eq_false_iff.mpr c3
 subst c3
 have H1 : (some false) = some r := by rw [if_neg (show ¬ (false = true) by decide)] at H; exact H
 clear H
 have H := H1
 clear H1
 obtain rfl := Option.some.inj H
 go_enter Try.func50, Try.ntmps50
 go_wp2_with (first | ((with_reducible refine gate_dst (N := 1) rfl ?_); refine box_event ?hg (N := 1) ?hd (cs := #[.int .i64 a0_0, .slice A0_1 l0_1.length c0_1]) (t := 31) ?hr ?_; (case hd => rfl); (case hg => rfl); (case hr => first | (go_simp; done) | (go_simp; rfl)); intro gb282 hg w19 hbox hb; have BK282 := Aside0.mk (hbox); have GW282 := Aside0.mk ((by rw [hg]; exact (below_size (Lz HB)) : w.heap.size ≤ gb282)); have GE282 := Aside0.mk ((by rw [hg]; exact (below_size (Lz HB)) : w.heap.size ≤ gb282)); replace HB := Aside0.mk (below_step (Lz HB) hb); clear hb hbox hg; have hcz20_0 : w19.cell? ⟨gb282, 0, none⟩ = some (.int .i64 a0_0) := (blk_cell BK282.out 0).trans rfl; have hcz20_1 : w19.cell? ⟨gb282, 1, none⟩ = some (.slice A0_1 l0_1.length c0_1) := (blk_cell BK282.out 1).trans rfl; have hfz20_0 := blk_frozen BK282.out 0; have hfz20_1 := blk_frozen BK282.out 1) | ((with_reducible refine gate_callee (f := 89) rfl ?_); refine goesM_ (some 4) rfl rfl Try.func89 (by kernel_rfl) rfl #[.agg #[.int .i64 a0_0, .slice A0_1 l0_1.length c0_1]] rfl ?_; (with_reducible refine (impl_EdgesOk.calls k a0_0 _ _ l0_1 false _ ?side1 ?side2 A2.out).mono ?_); (case side1 => exact Cz ((Kd.C_below HR0_1.out HB.out))); (case side2 => exact HC0_1.out); rintro e w21 ⟨rfl, hb⟩; refine ⟨_, rfl, ?_⟩; replace BK282 := Aside0.mk (blk_below (g := gb282) (o := .cells #[.int .i64 a0_0, .slice A0_1 l0_1.length c0_1] 31 (0, 0)) (Bz BK282) hb); replace HB := Aside0.mk (below_step (by exact Lz1 HB GE282) hb); (try clear hb); (try clear hb2); (try clear hk); (try clear hi)))
 go_ret
 exact ⟨by first | rfl | (simp [errW_none, errW_some] <;> rfl) | (simp [*, errW_none, errW_some] <;> rfl), by exact Lz1 HB GE282⟩
end Go.Proofs.Ytbcfccdoffbncaa.P
end
section
namespace Go.Proofs.Ytbcfccdoffbncaa.P
open Go.RowKit Go.Proofs.YtbcfccdoffbncaaW.PrintWords Go.Proofs.YtbcfccdoffbncaaW.PrintLast Go.Proofs.YtbcfccdoffbncaaW.PrintMore
attribute [local go_sem] max2_int min2_int max_two min_two max_three min_three max_four min_four
set_option linter.unusedVariables false
set_option linter.unusedSimpArgs false
def impl_allWithin.l0 : Nat → Int → Int → List Int → Int → Int → Option (Bool)
 | 0, _, _, _, _, _ => none
 | k + 1, x1, x2, x9, x10, x11 => if x11 < x10 then (if 0 ≤ x11 then (if x11 < (x9.length : Int) then ((impl_within.f (rd x9 x11) x1 x2).bind fun t287 => (if t287 = true then (impl_allWithin.l0 k x1 x2 x9 x10 (wrap64 (x11 + 1))) else (some false))) else (none)) else (none)) else (some true)
def impl_allWithin.f (k : Nat) (l0 : List Int) (a1 : Int) (a2 : Int) : Option (Bool) := impl_allWithin.l0 k a1 a2 l0 (l0.length : Int) 0
set_option maxHeartbeats 8000000 in
set_option maxRecDepth 100000 in
theorem impl_allWithin.calls (k : Nat) (A0 : Option Addr) (c0 : Nat) (l0 : List Int) (a1 : Int) (a2 : Int) (r : Bool) (w : World) (hr0 : Kd.C (Kd.int .i64) w A0 l0.length l0) (hc0 : l0.length ≤ c0) (h : impl_allWithin.f k l0 a1 a2 = some r) :
  Calls Try.prog 80 #[.slice A0 l0.length c0, .int .i64 a1, .int .i64 a2] w fun e w' => e = .returned (.bool r) ∧ Drawn0 w w' := by
 have HR0 := Aside0.mk hr0
 have HC0 := Aside0.mk hc0
 clear hr0 hc0
 have H : (impl_allWithin.l0 k a1 a2 l0 (l0.length : Int) 0) = some r := h
 clear h
 have H' := Aside0.mk H
 clear H
 go_enter Try.func80, Try.ntmps80
 go_wp2
 go_loopg [11] k (fun kq v11 w' => ∃ (x11_1 : Int), v11 = .int .i64 x11_1 ∧ Aside0 (impl_allWithin.l0 kq a1 a2 l0 (l0.length : Int) x11_1 = some r) ∧ Aside0 (kq ≤ k) ∧ Drawn0 w w')
 case atStart => exact ⟨(0), (by first | rfl | (simp; done) | (simp [*]; done)), H', ⟨Nat.le_refl _⟩, by repeat (first | exact Drawn0.refl _ | apply Drawn0.step)⟩
 case round =>
  clear H'
  obtain ⟨x11_1, rfl, HA, HK1, ⟨m1, rfl⟩⟩ := hrel
  cases gk with
  | zero => exact absurd HA.out (by simp [impl_allWithin.l0])
  | succ k1 =>
   have H := HA.out
   clear HA
   simp only [impl_allWithin.l0] at H
   by_cases c4 : x11_1 < (l0.length : Int)
   ·rw [if_pos c4] at H
    have c4b0 : decide (x11_1 < (l0.length : Int)) = true := decide_eq_true c4
    clear c4
    by_cases c5 : 0 ≤ x11_1
    ·rw [if_pos c5] at H
     have c5b0 : decide (0 ≤ x11_1) = true := decide_eq_true c5
     clear c5
     by_cases c6 : x11_1 < (l0.length : Int)
     ·rw [if_pos c6] at H
      have c6b0 : decide (x11_1 < (l0.length : Int)) = true := decide_eq_true c6
      clear c6
      replace H := Option.bind_eq_some_iff.mp H
      obtain ⟨t287, A70, H⟩ := H
      replace H : (if t287 = true then (impl_allWithin.l0 k1 a1 a2 l0 (l0.length : Int) (wrap64 (x11_1 + 1))) else (some false)) = some r := H
      have A7 := Aside0.mk A70
      clear A70
      by_cases c8 : t287 = true
      ·subst c8
       have H1 : (impl_allWithin.l0 k1 a1 a2 l0 (l0.length : Int) (wrap64 (x11_1 + 1))) = some r := by rw [if_pos rfl] at H; exact H
       clear H
       have H := H1
       clear H1
       have H' := Aside0.mk H
       clear H
       have p286 : 0 ≤ (x11_1 : Int) := of_decide_eq_true (by first | (with_reducible assumption) | assumption)
       have q286 : x11_1 < (l0.length : Int) := of_decide_eq_true (by first | (with_reducible assumption) | assumption)
       obtain ⟨ad286, e286, hx286_0⟩ := Kd.at_int HR0.out x11_1 p286 q286
       cases e286
       replace p286 := eq_true p286
       replace q286 := eq_true q286
       go_wp2_with (first | ((with_reducible refine gate_callee (f := 81) rfl ?_); refine goesM_ (some 18) rfl rfl Try.func81 (by kernel_rfl) rfl #[.int .i64 (rd l0 x11_1), .int .i64 a1, .int .i64 a2] rfl ?_; (with_reducible refine (impl_within.calls (rd l0 x11_1) a1 a2 true _ A7.out).mono ?_); rintro e w' ⟨rfl, ⟨nd, rfl⟩⟩; refine ⟨_, rfl, ?_⟩))
       go_roundg k1
       case measure => have := HK1.out; omega
       case rel => exact ⟨(wrap64 (x11_1 + 1)), (by first | rfl | (simp; done) | (simp [*]; done)), H', ⟨by have := HK1.out; omega⟩, by repeat (first | exact Drawn0.refl _ | apply Drawn0.step)⟩
      replace c8 := Bool.eq_false_iff.mpr c8
      subst c8
      have H1 : (some false) = some r := by rw [if_neg (show ¬ (false = true) by decide)] at H; exact H
      clear H
      have H := H1
      clear H1
      obtain rfl := Option.some.inj H
      have p286 : 0 ≤ (x11_1 : Int) := of_decide_eq_true (by first | (with_reducible assumption) | assumption)
      have q286 : x11_1 < (l0.length : Int) := of_decide_eq_true (by first | (with_reducible assumption) | assumption)
      obtain ⟨ad286, e286, hx286_0⟩ := Kd.at_int HR0.out x11_1 p286 q286
      cases e286
      replace p286 := eq_true p286
      replace q286 := eq_true q286
      go_wp2_with (first | ((with_reducible refine gate_callee (f := 81) rfl ?_); refine goesM_ (some 18) rfl rfl Try.func81 (by kernel_rfl) rfl #[.int .i64 (rd l0 x11_1), .int .i64 a1, .int .i64 a2] rfl ?_; (with_reducible refine (impl_within.calls (rd l0 x11_1) a1 a2 false _ A7.out).mono ?_); rintro e w' ⟨rfl, ⟨nd, rfl⟩⟩; refine ⟨_, rfl, ?_⟩))
      go_ret
      exact ⟨by first | rfl | (simp; done) | (simp [*]; done), by repeat (first | exact Drawn0.refl _ | apply Drawn0.step)⟩
     rw [if_neg c6] at H
     exact absurd H (by simp)
    rw [if_neg c5] at H
    exact absurd H (by simp)
   rw [if_neg c4] at H
   have c4b0 : decide (x11_1 < (l0.length : Int)) = false := decide_eq_false c4
   clear c4
   obtain rfl := Option.some.inj H
   go_wp2
   go_ret
   exact ⟨by first | rfl | (simp; done) | (simp [*]; done), by repeat (first | exact Drawn0.refl _ | apply Drawn0.step)⟩
end Go.Proofs.Ytbcfccdoffbncaa.P
end
section
namespace Go.Proofs.Ytbcfccdoffbncaa.P
open Go.RowKit Go.Proofs.YtbcfccdoffbncaaW.PrintWords Go.Proofs.YtbcfccdoffbncaaW.PrintLast Go.Proofs.YtbcfccdoffbncaaW.PrintMore
attribute [local go_sem] max2_int min2_int max_two min_two max_three min_three max_four min_four
set_option linter.unusedVariables false
set_option linter.unusedSimpArgs false
def impl_DivisorOk.f (k : Nat) (a0_0 : Int) (l0_1 : List (S67)) (l1 : List Int) : Option (Bool) := (impl_GraphOk.f k a0_0 l0_1).bind fun t289 => (if t289 = true then (if (l1.length : Int) = a0_0 then ((impl_allWithin.f k l1 (-60) 60).bind fun t290 => (some t290)) else (some false)) else (some false))
set_option maxHeartbeats 8000000 in
set_option maxRecDepth 100000 in
theorem impl_DivisorOk.calls (k : Nat) (a0_0 : Int) (A0_1 : Option Addr) (c0_1 : Nat) (l0_1 : List (S67)) (A1 : Option Addr) (c1 : Nat) (l1 : List Int) (r : Bool) (w : World) (hr0_1 : Kd.C k67 w A0_1 l0_1.length l0_1) (hc0_1 : l0_1.length ≤ c0_1) (hr1 : Kd.C (Kd.int .i64) w A1 l1.length l1) (hc1 : l1.length ≤ c1) (h : impl_DivisorOk.f k a0_0 l0_1 l1 = some r) :
  Calls Try.prog 71 #[.agg #[.int .i64 a0_0, .slice A0_1 l0_1.length c0_1], .slice A1 l1.length c1] w fun e w' => e = .returned (.bool r) ∧ Below w.heap.size w w' := by
 have hu31 := Try.underlying31
 have HR0_1 := Aside0.mk hr0_1
 have HC0_1 := Aside0.mk hc0_1
 clear hr0_1 hc0_1
 have HR1 := Aside0.mk hr1
 have HC1 := Aside0.mk hc1
 clear hr1 hc1
 have HB := Aside0.mk (Below.refl w.heap.size w)
 have H : ((impl_GraphOk.f k a0_0 l0_1).bind fun t289 => (if t289 = true then (if (l1.length : Int) = a0_0 then ((impl_allWithin.f k l1 (-60) 60).bind fun t290 => (some t290)) else (some false)) else (some false))) = some r := h
 clear h
 replace H := Option.bind_eq_some_iff.mp H
 obtain ⟨t289, A30, H⟩ := H
 replace H : (if t289 = true then (if (l1.length : Int) = a0_0 then ((impl_allWithin.f k l1 (-60) 60).bind fun t290 => (some t290)) else (some false)) else (some false)) = some r := H
 have A3 := Aside0.mk A30
 clear A30
 by_cases c4 : t289 = true
 ·subst c4
  have H1 : (if (l1.length : Int) = a0_0 then ((impl_allWithin.f k l1 (-60) 60).bind fun t290 => (some t290)) else (some false)) = some r := by rw [if_pos rfl] at H; exact H
  clear H
  have H := H1
  clear H1
  by_cases c5 : (l1.length : Int) = a0_0
  ·rw [if_pos c5] at H
   have c5b0 : ((l1.length : Int) == a0_0) = true := beq_iff_eq.mpr c5
   have c5b1 : ((l1.length : Int) != a0_0) = false := bne_eq_false_iff_eq.mpr c5
   clear c5
   replace H := Option.bind_eq_some_iff.mp H
   obtain ⟨t290, A60, H⟩ := H
   replace H : (some t290) = some r := H
   have A6 := Aside0.mk A60
   clear A60
   obtain rfl := Option.some.inj H
   go_enter Try.func71, Try.ntmps71
   go_wp2_with (first | ((with_reducible refine gate_dst (N := 2) rfl ?_); (try (refine gate_guard (by rfl) ?_; dsimp only)); refine box_event ?hg (N := 2) ?hd (cs := #[.int .i64 a0_0, .slice A0_1 l0_1.length c0_1]) (t := 31) ?hr ?_; (case hd => rfl); (case hg => rfl); (case hr => first | (go_simp; done) | (go_simp; rfl)); intro gb288 hg w7 hbox hb; have BK288 := Aside0.mk (hbox); have GW288 := Aside0.mk ((by rw [hg]; exact (below_size (Lz HB)) : w.heap.size ≤ gb288)); have GE288 := Aside0.mk ((by rw [hg]; exact (below_size (Lz HB)) : w.heap.size ≤ gb288)); replace HB := Aside0.mk (below_step (Lz HB) hb); clear hb hbox hg; have hcz8_0 : w7.cell? ⟨gb288, 0, none⟩ = some (.int .i64 a0_0) := (blk_cell BK288.out 0).trans rfl; have hcz8_1 : w7.cell? ⟨gb288, 1, none⟩ = some (.slice A0_1 l0_1.length c0_1) := (blk_cell BK288.out 1).trans rfl; have hfz8_0 := blk_frozen BK288.out 0; have hfz8_1 := blk_frozen BK288.out 1) | ((with_reducible refine gate_callee (f := 50) rfl ?_); refine goesM_ (some 6) rfl rfl Try.func50 (by kernel_rfl) rfl #[.agg #[.int .i64 a0_0, .slice A0_1 l0_1.length c0_1]] rfl ?_; (with_reducible refine (impl_GraphOk.calls k a0_0 _ _ l0_1 true _ ?side1 ?side2 A3.out).mono ?_); (case side1 => exact Cz ((Kd.C_below HR0_1.out HB.out))); (case side2 => exact HC0_1.out); rintro e w9 ⟨rfl, hb⟩; refine ⟨_, rfl, ?_⟩; replace BK288 := Aside0.mk (blk_below (g := gb288) (o := .cells #[.int .i64 a0_0, .slice A0_1 l0_1.length c0_1] 31 (0, 0)) (Bz BK288) hb); replace HB := Aside0.mk (below_step (by exact Lz1 HB GE288) hb); (try clear hb); (try clear hb2); (try clear hk); (try clear hi); have hcz10_0 : w9.cell? ⟨gb288, 0, none⟩ = some (.int .i64 a0_0) := (blk_cell BK288.out 0).trans rfl; have hcz10_1 : w9.cell? ⟨gb288, 1, none⟩ = some (.slice A0_1 l0_1.length c0_1) := (blk_cell BK288.out 1).trans rfl; have hfz10_0 := blk_frozen BK288.out 0; have hfz10_1 := blk_frozen BK288.out 1) | (go_at_call 80; (with_reducible refine (impl_allWithin.calls k _ _ l1 (-60) 60 t290 _ ?side1 ?side2 A6.out).mono ?_); (case side1 => exact Cz ((Kd.C_below HR1.out HB.out))); (case side2 => exact HC1.out); rintro e w' ⟨rfl, ⟨nd, rfl⟩⟩))
   go_ret
   exact ⟨by first | rfl | (simp [errW_none, errW_some] <;> rfl) | (simp [*, errW_none, errW_some] <;> rfl), by exact Lz1 HB GE288⟩
  rw [if_neg c5] at H
  have c5b0 : ((l1.length : Int) == a0_0) = false := beq_eq_false_iff_ne.mpr c5
  have c5b1 : ((l1.length : Int) != a0_0) = true := bne_iff_ne.mpr c5
  obtain rfl := Option.some.inj H
  go_enter Try.func71, Try.ntmps71
  go_wp2_with (first | ((with_reducible refine gate_dst (N := 2) rfl ?_); (try (refine gate_guard (by rfl) ?_; dsimp only)); refine box_event ?hg (N := 2) ?hd (cs := #[.int .i64 a0_0, .slice A0_1 l0_1.length c0_1]) (t := 31) ?hr ?_; (case hd => rfl); (case hg => rfl); (case hr => first | (go_simp; done) | (go_simp; rfl)); intro gb288 hg w11 hbox hb; have BK288 := Aside0.mk (hbox); have GW288 := Aside0.mk ((by rw [hg]; exact (below_size (Lz HB)) : w.heap.size ≤ gb288)); have GE288 := Aside0.mk ((by rw [hg]; exact (below_size (Lz HB)) : w.heap.size ≤ gb288)); replace HB := Aside0.mk (below_step (Lz HB) hb); clear hb hbox hg; have hcz12_0 : w11.cell? ⟨gb288, 0, none⟩ = some (.int .i64 a0_0) := (blk_cell BK288.out 0).trans rfl; have hcz12_1 : w11.cell? ⟨gb288, 1, none⟩ = some (.slice A0_1 l0_1.length c0_1) := (blk_cell BK288.out 1).trans rfl; have hfz12_0 := blk_frozen BK288.out 0; have hfz12_1 := blk_frozen BK288.out 1) | ((with_reducible refine gate_callee (f := 50) rfl ?_); refine goesM_ (some 6) rfl rfl Try.func50 (by kernel_rfl) rfl #[.agg #[.int .i64 a0_0, .slice A0_1 l0_1.length c0_1]] rfl ?_; (with_reducible refine (impl_GraphOk.calls k a0_0 _ _ l0_1 true _ ?side1 ?side2 A3.out).mono ?_); (case side1 => exact Cz ((Kd.C_below HR0_1.out HB.out))); (case side2 => exact HC0_1.out); rintro e w13 ⟨rfl, hb⟩; refine ⟨_, rfl, ?_⟩; replace BK288 := Aside0.mk (blk_below (g := gb288) (o := .cells #[.int .i64 a0_0, .slice A0_1 l0_1.length c0_1] 31 (0, 0)) (Bz BK288) hb); replace HB := Aside0.mk (below_step (by exact Lz1 HB GE288) hb); (try clear hb); (try clear hb2); (try clear hk); (try clear hi); have hcz14_0 : w13.cell? ⟨gb288, 0, none⟩ = some (.int .i64 a0_0) := (blk_cell BK288.out 0).trans rfl; have hcz14_1 : w13.cell? ⟨gb288, 1, none⟩ = some (.slice A0_1 l0_1.length c0_1) := (blk_cell BK288.out 1).trans rfl; have hfz14_0 := blk_frozen BK288.out 0; have hfz14_1 := blk_frozen BK288.out 1))
  go_ret
  exact ⟨by first | rfl | (simp [errW_none, errW_some] <;> rfl) | (simp [*, errW_none, errW_some] <;> rfl), by exact Lz1 HB GE288⟩
 replace c4 := Bool.eq_false_iff.mpr c4
 subst c4
 have H1 : (some false) = some r := by rw [if_neg (show ¬ (false = true) by decide)] at H; exact H
 clear H
 have H := H1
 clear H1
 obtain rfl := Option.some.inj H
 go_enter Try.func71, Try.ntmps71
 go_wp2_with (first | ((with_reducible refine gate_dst (N := 2) rfl ?_); (try (refine gate_guard (by rfl) ?_; dsimp only)); refine box_event ?hg (N := 2) ?hd (cs := #[.int .i64 a0_0, .slice A0_1 l0_1.length c0_1]) (t := 31) ?hr ?_; (case hd => rfl); (case hg => rfl); (case hr => first | (go_simp; done) | (go_simp; rfl)); intro gb288 hg w15 hbox hb; have BK288 := Aside0.mk (hbox); have GW288 := Aside0.mk ((by rw [hg]; exact (below_size (Lz HB)) : w.heap.size ≤ gb288)); have GE288 := Aside0.mk ((by rw [hg]; exact (below_size (Lz HB)) : w.heap.size ≤ gb288)); replace HB := Aside0.mk (below_step (Lz HB) hb); clear hb hbox hg; have hcz16_0 : w15.cell? ⟨gb288, 0, none⟩ = some (.int .i64 a0_0) := (blk_cell BK288.out 0).trans rfl; have hcz16_1 : w15.cell? ⟨gb288, 1, none⟩ = some (.slice A0_1 l0_1.length c0_1) := (blk_cell BK288.out 1).trans rfl; have hfz16_0 := blk_frozen BK288.out 0; have hfz16_1 := blk_frozen BK288.out 1) | ((with_reducible refine gate_callee (f := 50) rfl ?_); refine goesM_ (some 6) rfl rfl Try.func50 (by kernel_rfl) rfl #[.agg #[.int .i64 a0_0, .slice A0_1 l0_1.length c0_1]] rfl ?_; (with_reducible refine (impl_GraphOk.calls k a0_0 _ _ l0_1 false _ ?side1 ?side2 A3.out).mono ?_); (case side1 => exact Cz ((Kd.C_below HR0_1.out HB.out))); (case side2 => exact HC0_1.out); rintro e w17 ⟨rfl, hb⟩; refine ⟨_, rfl, ?_⟩; replace BK288 := Aside0.mk (blk_below (g := gb288) (o := .cells #[.int .i64 a0_0, .slice A0_1 l0_1.length c0_1] 31 (0, 0)) (Bz BK288) hb); replace HB := Aside0.mk (below_step (by exact Lz1 HB GE288) hb); (try clear hb); (try clear hb2); (try clear hk); (try clear hi)))
 go_ret
 exact ⟨by first | rfl | (simp [errW_none, errW_some] <;> rfl) | (simp [*, errW_none, errW_some] <;> rfl), by exact Lz1 HB GE288⟩
end Go.Proofs.Ytbcfccdoffbncaa.P
end
section
namespace Go.Proofs.Ytbcfccdoffbncaa.P
open Go.RowKit Go.Proofs.YtbcfccdoffbncaaW.PrintWords Go.Proofs.YtbcfccdoffbncaaW.PrintLast Go.Proofs.YtbcfccdoffbncaaW.PrintMore
attribute [local go_sem] max2_int min2_int max_two min_two max_three min_three max_four min_four
set_option linter.unusedVariables false
set_option linter.unusedSimpArgs false
def slices_Min_int_int.l0 : Nat → Int → List Int → Int → Option (Int)
 | 0, _, _, _ => none
 | k + 1, x3, x0, x4 => if x4 < (x0.length : Int) then (if 0 ≤ x4 then (slices_Min_int_int.l0 k (mn x3 (rd x0 x4)) x0 (wrap64 (x4 + 1))) else (none)) else (some x3)
def slices_Min_int_int.f (k : Nat) (l0 : List Int) : Option (Int) := if (l0.length : Int) < 1 then (none) else (slices_Min_int_int.l0 k (rd l0 0) l0 1)
set_option maxHeartbeats 8000000 in
set_option maxRecDepth 100000 in
theorem slices_Min_int_int.calls (k : Nat) (A0 : Option Addr) (c0 : Nat) (l0 : List Int) (r : Int) (w : World) (hr0 : Kd.C (Kd.int .i64) w A0 l0.length l0) (hc0 : l0.length ≤ c0) (h : slices_Min_int_int.f k l0 = some r) :
  Calls Try.prog 102 #[.slice A0 l0.length c0] w fun e w' => e = .returned (.int .i64 r) ∧ Drawn0 w w' := by
 have HR0 := Aside0.mk hr0
 have HC0 := Aside0.mk hc0
 clear hr0 hc0
 have H : (if (l0.length : Int) < 1 then (none) else (slices_Min_int_int.l0 k (rd l0 0) l0 1)) = some r := h
 clear h
 by_cases c2 : (l0.length : Int) < 1
 ·rw [if_pos c2] at H
  exact absurd H (by simp)
 rw [if_neg c2] at H
 have c2b0 : decide ((l0.length : Int) < 1) = false := decide_eq_false c2
 have c2b1 : decide (l0.length < 1) = false := decide_eq_false (by omega)
 have c3b0 : decide (0 < (l0.length : Int)) = true := decide_eq_true (by omega)
 have H' := Aside0.mk H
 clear H
 have q226 : 0 < (l0.length : Int) := by omega
 have p226 : 0 ≤ (0 : Int) := by omega
 obtain ⟨ad226, e226, hx226_0⟩ := Kd.at_int HR0.out 0 p226 q226
 cases e226
 have qi226 : (0 < l0.length) = True := eq_true (by omega)
 clear c2
 (try rw [show ((0 : Int)).toNat = 0 from rfl] at hx226_0)
 (try rw [Addr.add_zero'] at hx226_0)
 replace p226 := eq_true p226
 replace q226 := eq_true q226
 go_enter Try.func102, Try.ntmps102
 go_wp2
 repeat (go_quiet (fail); try go_wp2)
 go_loopg [3, 4] k (fun kq v3 v4 w' => ∃ (x3_1 : Int) (x4_1 : Int), v3 = .int .i64 x3_1 ∧ v4 = .int .i64 x4_1 ∧ Aside0 (slices_Min_int_int.l0 kq x3_1 l0 x4_1 = some r) ∧ Aside0 (kq ≤ k) ∧ Drawn0 w w')
 case atStart => exact ⟨(rd l0 0), (1), (by first | rfl | (simp; done) | (simp [*]; done)), (by first | rfl | (simp; done) | (simp [*]; done)), H', ⟨Nat.le_refl _⟩, by repeat (first | exact Drawn0.refl _ | apply Drawn0.step)⟩
 case round =>
  clear H'
  try clear c2b0
  try clear c2b1
  try clear c3b0
  try clear p226
  try clear q226
  obtain ⟨x3_1, x4_1, rfl, rfl, HA, HK1, ⟨m1, rfl⟩⟩ := hrel
  cases gk with
  | zero => exact absurd HA.out (by simp [slices_Min_int_int.l0])
  | succ k1 =>
   have H := HA.out
   clear HA
   simp only [slices_Min_int_int.l0] at H
   by_cases c4 : x4_1 < (l0.length : Int)
   ·rw [if_pos c4] at H
    have c4b0 : decide (x4_1 < (l0.length : Int)) = true := decide_eq_true c4
    clear c4
    by_cases c5 : 0 ≤ x4_1
    ·rw [if_pos c5] at H
     have c5b0 : decide (0 ≤ x4_1) = true := decide_eq_true c5
     clear c5
     obtain ⟨ji6, hji6⟩ : ∃ j_ : Int, (mn x3_1 (rd l0 x4_1)) = j_ := ⟨_, rfl⟩
     replace H : (slices_Min_int_int.l0 k1 ji6 l0 (wrap64 (x4_1 + 1))) = some r := by first | (rw [hji6] at H; exact H) | (simp only [hji6] at H ⊢; exact H)
     have hji6_ : (if (rd l0 x4_1) < x3_1 then (rd l0 x4_1) else x3_1) = ji6 := hji6
     have H' := Aside0.mk H
     clear H
     have p735 : 0 ≤ (x4_1 : Int) := of_decide_eq_true (by first | (with_reducible assumption) | assumption)
     have q735 : x4_1 < (l0.length : Int) := of_decide_eq_true (by first | (with_reducible assumption) | assumption)
     obtain ⟨ad735, e735, hx735_0⟩ := Kd.at_int HR0.out x4_1 p735 q735
     cases e735
     replace p735 := eq_true p735
     replace q735 := eq_true q735
     go_wp2
     repeat (go_quiet (fail); try go_wp2)
     go_roundg k1
     case measure => have := HK1.out; omega
     case rel => exact ⟨ji6, (wrap64 (x4_1 + 1)), (by first | rfl | (simp; done) | (simp only [← hji6] <;> (first | rfl | simp)) | (simp [*]; done)), (by first | rfl | (simp; done) | (simp [*]; done)), H', ⟨by have := HK1.out; omega⟩, by repeat (first | exact Drawn0.refl _ | apply Drawn0.step)⟩
    rw [if_neg c5] at H
    exact absurd H (by simp)
   rw [if_neg c4] at H
   have c4b0 : decide (x4_1 < (l0.length : Int)) = false := decide_eq_false c4
   clear c4
   obtain rfl := Option.some.inj H
   go_wp2
   repeat (go_quiet (fail); try go_wp2)
   go_ret
   exact ⟨by first | rfl | (simp; done) | (simp [*]; done), by repeat (first | exact Drawn0.refl _ | apply Drawn0.step)⟩
end Go.Proofs.Ytbcfccdoffbncaa.P
end
section
namespace Go.Proofs.Ytbcfccdoffbncaa.P
open Go.RowKit Go.Proofs.YtbcfccdoffbncaaW.PrintWords Go.Proofs.YtbcfccdoffbncaaW.PrintLast Go.Proofs.YtbcfccdoffbncaaW.PrintMore
attribute [local go_sem] max2_int min2_int max_two min_two max_three min_three max_four min_four
set_option linter.unusedVariables false
set_option linter.unusedSimpArgs false
def impl_fromZero.l0 : Nat → List Int → Int → Int → Int → Option (List Int)
 | 0, _, _, _, _ => none
 | k + 1, x3, x4, x11, x12 => if x12 < x11 then (if 0 ≤ x12 then (if x12 < (x3.length : Int) then (impl_fromZero.l0 k (x3.set (x12 : Int).toNat (wrap64 ((rd x3 x12) - x4))) x4 x11 (wrap64 (x12 + 1))) else (none)) else (none)) else (some x3)
def impl_fromZero.f (k : Nat) (l0 : List Int) : Option (List Int) := (impl_copyInts.f l0).bind fun t359 => ((slices_Min_int_int.f k l0).bind fun t362 => (impl_fromZero.l0 k t359 t362 (t359.length : Int) 0))
set_option maxHeartbeats 8000000 in
set_option maxRecDepth 100000 in
theorem impl_fromZero.calls (k : Nat) (A0 : Option Addr) (c0 : Nat) (l0 : List Int) (r : List Int) (w : World) (hr0 : Kd.C (Kd.int .i64) w A0 l0.length l0) (hc0 : l0.length ≤ c0) (h : impl_fromZero.f k l0 = some r) :
  Calls Try.prog 61 #[.slice A0 l0.length c0] w fun e w' => ∃ v0_ : Value, e = .returned (v0_) ∧ Kd.R (Kd.int .i64) 3 w' w.heap.size (fun _ => True) v0_ r ∧ Below w.heap.size w w' := by
 have HR0 := Aside0.mk hr0
 have HC0 := Aside0.mk hc0
 clear hr0 hc0
 have HB := Aside0.mk (Below.refl w.heap.size w)
 have H : ((impl_copyInts.f l0).bind fun t359 => ((slices_Min_int_int.f k l0).bind fun t362 => (impl_fromZero.l0 k t359 t362 (t359.length : Int) 0))) = some r := h
 clear h
 replace H := Option.bind_eq_some_iff.mp H
 obtain ⟨t359, A20, H⟩ := H
 replace H : ((slices_Min_int_int.f k l0).bind fun t362 => (impl_fromZero.l0 k t359 t362 (t359.length : Int) 0)) = some r := H
 have A2 := Aside0.mk A20
 clear A20
 replace H := Option.bind_eq_some_iff.mp H
 obtain ⟨t362, A30, H⟩ := H
 replace H : (impl_fromZero.l0 k t359 t362 (t359.length : Int) 0) = some r := H
 have A3 := Aside0.mk A30
 clear A30
 have H' := Aside0.mk H
 clear H
 go_enter Try.func61, Try.ntmps61
 go_wp2_with (first | ((with_reducible refine gate_callee (f := 79) rfl ?_); refine goesM_ (some 7) rfl rfl Try.func79 (by kernel_rfl) rfl #[.slice A0 l0.length c0] rfl ?_; (with_reducible refine (impl_copyInts.calls _ _ l0 t359 _ ?side1 ?side2 A2.out).mono ?_); (case side1 => exact Cz (HR0.out)); (case side2 => exact HC0.out); rintro e w4 ⟨v360, rfl, ho0, hb⟩; refine ⟨_, rfl, ?_⟩; have HO361 := Aside0.mk (Kd.R_lower ho0 (below_size (Lz HB))); replace HB := Aside0.mk (below_step (Lz HB) hb); (try clear hb); (try clear ho0)) | ((with_reducible refine gate_callee (f := 102) rfl ?_); refine goesM_ (some 9) rfl rfl Try.func102 (by kernel_rfl) rfl #[.slice A0 l0.length c0] rfl ?_; (with_reducible refine (slices_Min_int_int.calls k _ _ l0 t362 _ ?side1 ?side2 A3.out).mono ?_); (case side1 => exact Cz ((Kd.C_below HR0.out HB.out))); (case side2 => exact HC0.out); rintro e w' ⟨rfl, ⟨nd, rfl⟩⟩; refine ⟨_, rfl, ?_⟩; obtain ⟨Ao5, co5, eo5⟩ := Kd.R_slice HO361.out; subst eo5))
 go_loopg [12] k (fun kq v12 w' => ∃ (x3_1 : List Int) (x12_1 : Int), v12 = .int .i64 x12_1 ∧ Aside0 (impl_fromZero.l0 kq x3_1 t362 (t359.length : Int) x12_1 = some r) ∧ Aside0 (kq ≤ k) ∧ Aside0 (Kd.R (Kd.int .i64) 3 w' w.heap.size (fun _ => True) (.slice Ao5 t359.length co5) x3_1) ∧ Aside0 (Below w.heap.size w w'))
 case atStart => exact ⟨(t359), (0), (by first | rfl | (simp; done) | (simp [*]; done)), H', ⟨Nat.le_refl _⟩, ⟨by exact Rz HO361⟩, ⟨by exact Lz HB⟩⟩
 case round =>
  clear H'
  obtain ⟨x3_1, x12_1, rfl, HA, HK1, HO_3, HB⟩ := hrel
  have hl3_1 := (Kd.R_reads' HO_3.out).1
  rw [hl3_1] at HO_3
  (try simp only [hl3_1])
  cases gk with
  | zero => exact absurd HA.out (by simp [impl_fromZero.l0])
  | succ k1 =>
   have H := HA.out
   clear HA
   simp only [impl_fromZero.l0] at H
   by_cases c6 : x12_1 < (t359.length : Int)
   ·rw [if_pos c6] at H
    have c6b0 : decide (x12_1 < (t359.length : Int)) = true := decide_eq_true c6
    (try simp only [hl3_1] at c6b0)
    clear c6
    by_cases c7 : 0 ≤ x12_1
    ·rw [if_pos c7] at H
     have c7b0 : decide (0 ≤ x12_1) = true := decide_eq_true c7
     clear c7
     by_cases c8 : x12_1 < (x3_1.length : Int)
     ·rw [if_pos c8] at H
      have c8b0 : decide (x12_1 < (x3_1.length : Int)) = true := decide_eq_true c8
      (try simp only [hl3_1] at c8b0)
      clear c8
      obtain ⟨y364, hy364⟩ : ∃ y_ : List Int, y_ = (x3_1.set (x12_1 : Int).toNat (wrap64 ((rd x3_1 x12_1) - t362))) := ⟨_, rfl⟩
      replace H : (impl_fromZero.l0 k1 y364 t362 (t359.length : Int) (wrap64 (x12_1 + 1))) = some r := by first | (rw [hy364]; with_reducible exact H) | (have H2_ := (Option.bind_some _ _).symm.trans H; rw [hy364]; with_reducible exact H2_) | (have H2_ := (Option.bind_some _ _).symm.trans H; with_reducible exact H2_) | with_reducible exact H | (rw [hy364]; exact H) | exact H
      have Ny364 := Aside0.mk hy364
      clear hy364
      have H' := Aside0.mk H
      clear H
      have p363 : 0 ≤ (x12_1 : Int) := of_decide_eq_true (by first | (with_reducible assumption) | assumption)
      have q363 : x12_1 < (x3_1.length : Int) := of_decide_eq_true (by first | (with_reducible assumption) | assumption)
      obtain ⟨ad363, e363, hx363_0⟩ := Kd.at_int (Kd.R_reads' HO_3.out).2.2 x12_1 p363 q363
      cases e363
      replace p363 := eq_true p363
      replace q363 := eq_true q363
      have p9 : 0 ≤ (x12_1 : Int) := of_decide_eq_true (by first | (with_reducible assumption) | assumption)
      have q9 : (x12_1 : Int) < ((x3_1.length : Int) : Int) := of_decide_eq_true (by first | (with_reducible assumption) | assumption)
      obtain ⟨go9, co9, eo9, gb9, gl9, cl9, HG9⟩ := Kd.R_form HO_3.out (by omega)
      (first | cases eo9 | (injection eo9 with ea_ en_ ec_; (first | subst ea_ | (injection ea_ with ea_; subst ea_)); subst ec_; clear en_))
      have GB9 := Aside0.mk gb9
      have GG9 := Aside0.mk HG9
      clear gb9 gl9 HG9
      (first | simp only [add_plain] at hx363_0 | skip)
      obtain ⟨hx9_0, hf9_0⟩ := Kd.R_celln 0 HO_3.out (x12_1 : Int) p9 q9
      replace p9 := eq_true p9
      replace q9 := eq_true q9
      have HP10 := Kd.R_putg HO_3.out (x12_1 : Int) (wrap64 ((rd x3_1 x12_1) - t362))
      go_wp2_with (first | ((with_reducible refine gate_store (t := 3) (p := 21) rfl ?_); refine store_event (t := 3) (p := 21) (v := ?vo_w11) (w1 := (wr.setCell ⟨go9, (x12_1 : Int).toNat, none⟩ (.int .i64 (wrap64 ((rd x3_1 x12_1) - t362))))) ?hg ?ho ?hn ?hr ?_; (case ho => rfl); (case hg => rfl); (case hn => rfl); (case hr => first | (go_simp; done) | (go_simp; rfl)); intro w11 hw; have hg : wr.grownBy w11 (some go9) := (by rw [hw]; exact HP10.2); have hp_ : Kd.R (Kd.int .i64) 3 w11 w.heap.size (fun _ => True) (.slice (some ⟨go9, 0, none⟩) x3_1.length co5) y364 := (by rw [hw, Ny364.out]; exact HP10.1); clear HP10; replace HO_3 := Aside0.mk (hp_); replace HB := Aside0.mk ((by rw [hw]; exact below_set (HB.out) GB9.out : Below w.heap.size w w11)); clear hg hw hp_))
      (try simp only [← hl3_1])
      go_roundg k1
      case measure => have := HK1.out; omega
      case rel => exact ⟨(y364), (wrap64 (x12_1 + 1)), (by first | rfl | (simp; done) | (simp [*]; done)), H', ⟨by have := HK1.out; omega⟩, ⟨by (try simp only [hl3_1]); exact Rz HO_3⟩, ⟨by exact Lz HB⟩⟩
     rw [if_neg c8] at H
     exact absurd H (by simp)
    rw [if_neg c7] at H
    exact absurd H (by simp)
   rw [if_neg c6] at H
   have c6b0 : decide (x12_1 < (t359.length : Int)) = false := decide_eq_false c6
   (try simp only [hl3_1] at c6b0)
   clear c6
   obtain rfl := Option.some.inj H
   go_wp2
   go_ret
   exact ⟨_, by first | rfl | (simp [errW_none, errW_some] <;> rfl) | (simp [*, errW_none, errW_some] <;> rfl), by exact Rz HO_3, by exact Lz HB⟩
end Go.Proofs.Ytbcfccdoffbncaa.P
end
section
namespace Go.Proofs.Ytbcfccdoffbncaa.P
open Go.RowKit Go.Proofs.YtbcfccdoffbncaaW.PrintWords Go.Proofs.YtbcfccdoffbncaaW.PrintLast Go.Proofs.YtbcfccdoffbncaaW.PrintMore
attribute [local go_sem] max2_int min2_int max_two min_two max_three min_three max_four min_four
set_option linter.unusedVariables false
set_option linter.unusedSimpArgs false
def laws_eqIntS.l0 : Nat → List Int → List Int → Int → Option (Bool)
 | 0, _, _, _ => none
 | k + 1, x0, x1, x5 => if x5 < (x0.length : Int) then (if 0 ≤ x5 then (if x5 < (x1.length : Int) then (if (rd x0 x5) = (rd x1 x5) then (laws_eqIntS.l0 k x0 x1 (wrap64 (x5 + 1))) else (some false)) else (none)) else (none)) else (some true)
def laws_eqIntS.f (k : Nat) (l0 : List Int) (l1 : List Int) : Option (Bool) := if (l0.length : Int) = (l1.length : Int) then (laws_eqIntS.l0 k l0 l1 0) else (some false)
set_option maxHeartbeats 8000000 in
set_option maxRecDepth 100000 in
theorem laws_eqIntS.calls (k : Nat) (A0 : Option Addr) (c0 : Nat) (l0 : List Int) (A1 : Option Addr) (c1 : Nat) (l1 : List Int) (r : Bool) (w : World) (hr0 : Kd.C (Kd.int .i64) w A0 l0.length l0) (hc0 : l0.length ≤ c0) (hr1 : Kd.C (Kd.int .i64) w A1 l1.length l1) (hc1 : l1.length ≤ c1) (h : laws_eqIntS.f k l0 l1 = some r) :
  Calls Try.prog 15 #[.slice A0 l0.length c0, .slice A1 l1.length c1] w fun e w' => e = .returned (.bool r) ∧ Drawn0 w w' := by
 have HR0 := Aside0.mk hr0
 have HC0 := Aside0.mk hc0
 clear hr0 hc0
 have HR1 := Aside0.mk hr1
 have HC1 := Aside0.mk hc1
 clear hr1 hc1
 have H : (if (l0.length : Int) = (l1.length : Int) then (laws_eqIntS.l0 k l0 l1 0) else (some false)) = some r := h
 clear h
 by_cases c3 : (l0.length : Int) = (l1.length : Int)
 ·rw [if_pos c3] at H
  have c3b0 : ((l0.length : Int) == (l1.length : Int)) = true := beq_iff_eq.mpr c3
  have c3b1 : ((l0.length : Int) != (l1.length : Int)) = false := bne_eq_false_iff_eq.mpr c3
  have c3b2 : (l0.length == l1.length) = true := by first | simpa using c3 | (simp at c3 ⊢; omega)
  clear c3
  have H' := Aside0.mk H
  clear H
  go_enter Try.func15, Try.ntmps15
  go_wp2
  repeat (go_quiet (fail); try go_wp2)
  go_loopg [5] k (fun kq v5 w' => ∃ (x5_1 : Int), v5 = .int .i64 x5_1 ∧ Aside0 (laws_eqIntS.l0 kq l0 l1 x5_1 = some r) ∧ Aside0 (kq ≤ k) ∧ Drawn0 w w')
  case atStart => exact ⟨(0), (by first | rfl | (simp; done) | (simp [*]; done)), H', ⟨Nat.le_refl _⟩, by repeat (first | exact Drawn0.refl _ | apply Drawn0.step)⟩
  case round =>
   clear H'
   try clear c1
   try clear c3
   try clear c3b0
   try clear c3b1
   try clear c3b2
   obtain ⟨x5_1, rfl, HA, HK1, ⟨m1, rfl⟩⟩ := hrel
   cases gk with
   | zero => exact absurd HA.out (by simp [laws_eqIntS.l0])
   | succ k1 =>
    have H := HA.out
    clear HA
    simp only [laws_eqIntS.l0] at H
    by_cases c4 : x5_1 < (l0.length : Int)
    ·rw [if_pos c4] at H
     have c4b0 : decide (x5_1 < (l0.length : Int)) = true := decide_eq_true c4
     clear c4
     by_cases c5 : 0 ≤ x5_1
     ·rw [if_pos c5] at H
      have c5b0 : decide (0 ≤ x5_1) = true := decide_eq_true c5
      clear c5
      by_cases c6 : x5_1 < (l1.length : Int)
      ·rw [if_pos c6] at H
       have c6b0 : decide (x5_1 < (l1.length : Int)) = true := decide_eq_true c6
       clear c6
       by_cases c7 : (rd l0 x5_1) = (rd l1 x5_1)
       ·rw [if_pos c7] at H
        have c7b0 : ((rd l0 x5_1) == (rd l1 x5_1)) = true := beq_iff_eq.mpr c7
        have c7b1 : ((rd l0 x5_1) != (rd l1 x5_1)) = false := bne_eq_false_iff_eq.mpr c7
        clear c7
        have H' := Aside0.mk H
        clear H
        have p376 : 0 ≤ (x5_1 : Int) := of_decide_eq_true (by first | (with_reducible assumption) | assumption)
        have q376 : x5_1 < (l0.length : Int) := of_decide_eq_true (by first | (with_reducible assumption) | assumption)
        obtain ⟨ad376, e376, hx376_0⟩ := Kd.at_int HR0.out x5_1 p376 q376
        cases e376
        replace p376 := eq_true p376
        replace q376 := eq_true q376
        have p377 : 0 ≤ (x5_1 : Int) := of_decide_eq_true (by first | (with_reducible assumption) | assumption)
        have q377 : x5_1 < (l1.length : Int) := of_decide_eq_true (by first | (with_reducible assumption) | assumption)
        obtain ⟨ad377, e377, hx377_0⟩ := Kd.at_int HR1.out x5_1 p377 q377
        cases e377
        replace p377 := eq_true p377
        replace q377 := eq_true q377
        go_wp2
        repeat (go_quiet (fail); try go_wp2)
        go_roundg k1
        case measure => have := HK1.out; omega
        case rel => exact ⟨(wrap64 (x5_1 + 1)), (by first | rfl | (simp; done) | (simp [*]; done)), H', ⟨by have := HK1.out; omega⟩, by repeat (first | exact Drawn0.refl _ | apply Drawn0.step)⟩
       rw [if_neg c7] at H
       have c7b0 : ((rd l0 x5_1) == (rd l1 x5_1)) = false := beq_eq_false_iff_ne.mpr c7
       have c7b1 : ((rd l0 x5_1) != (rd l1 x5_1)) = true := bne_iff_ne.mpr c7
       obtain rfl := Option.some.inj H
       have p376 : 0 ≤ (x5_1 : Int) := of_decide_eq_true (by first | (with_reducible assumption) | assumption)
       have q376 : x5_1 < (l0.length : Int) := of_decide_eq_true (by first | (with_reducible assumption) | assumption)
       obtain ⟨ad376, e376, hx376_0⟩ := Kd.at_int HR0.out x5_1 p376 q376
       cases e376
       replace p376 := eq_true p376
       replace q376 := eq_true q376
       have p377 : 0 ≤ (x5_1 : Int) := of_decide_eq_true (by first | (with_reducible assumption) | assumption)
       have q377 : x5_1 < (l1.length : Int) := of_decide_eq_true (by first | (with_reducible assumption) | assumption)
       obtain ⟨ad377, e377, hx377_0⟩ := Kd.at_int HR1.out x5_1 p377 q377
       cases e377
       replace p377 := eq_true p377
       replace q377 := eq_true q377
       go_wp2
       repeat (go_quiet (fail); try go_wp2)
       go_ret
       exact ⟨by first | rfl | (simp; done) | (simp [*]; done), by repeat (first | exact Drawn0.refl _ | apply Drawn0.step)⟩
      rw [if_neg c6] at H
      exact absurd H (by simp)
     rw [if_neg c5] at H
     exact absurd H (by simp)
    rw [if_neg c4] at H
    have c4b0 : decide (x5_1 < (l0.length : Int)) = false := decide_eq_false c4
    clear c4
    obtain rfl := Option.some.inj H
    go_wp2
    repeat (go_quiet (fail); try go_wp2)
    go_ret
    exact ⟨by first | rfl | (simp; done) | (simp [*]; done), by repeat (first | exact Drawn0.refl _ | apply Drawn0.step)⟩
 rw [if_neg c3] at H
 have c3b0 : ((l0.length : Int) == (l1.length : Int)) = false := beq_eq_false_iff_ne.mpr c3
 have c3b1 : ((l0.length : Int) != (l1.length : Int)) = true := bne_iff_ne.mpr c3
 have c3b2 : (l0.length == l1.length) = false := by first | simpa using c3 | (simp at c3 ⊢; omega)
 obtain rfl := Option.some.inj H
 go_enter Try.func15, Try.ntmps15
 go_wp2
 repeat (go_quiet (fail); try go_wp2)
 go_ret
 exact ⟨by first | rfl | (simp; done) | (simp [*]; done), by repeat (first | exact Drawn0.refl _ | apply Drawn0.step)⟩
end Go.Proofs.Ytbcfccdoffbncaa.P
end
section
namespace Go.Proofs.Ytbcfccdoffbncaa.P
open Go.RowKit Go.Proofs.YtbcfccdoffbncaaW.PrintWords Go.Proofs.YtbcfccdoffbncaaW.PrintLast Go.Proofs.YtbcfccdoffbncaaW.PrintMore
attribute [local go_sem] max2_int min2_int max_two min_two max_three min_three max_four min_four
set_option linter.unusedVariables false
set_option linter.unusedSimpArgs false
def laws_eqEdge.f (a0_0 : Int) (a0_1 : Int) (a1_0 : Int) (a1_1 : Int) : Option (Bool) := if a0_0 = a1_0 then (if a0_1 = a1_1 then (some true) else (some false)) else (some false)
set_option maxHeartbeats 8000000 in
set_option maxRecDepth 100000 in
theorem laws_eqEdge.calls (a0_0 : Int) (a0_1 : Int) (a1_0 : Int) (a1_1 : Int) (r : Bool) (w : World) (h : laws_eqEdge.f a0_0 a0_1 a1_0 a1_1 = some r) :
  Calls Try.prog 103 #[.agg #[.int .i64 a0_0, .int .i64 a0_1], .agg #[.int .i64 a1_0, .int .i64 a1_1]] w fun e w' => e = .returned (.bool r) ∧ Below w.heap.size w w' := by
 have hu67 := Try.underlying67
 have HB := Aside0.mk (Below.refl w.heap.size w)
 have H : (if a0_0 = a1_0 then (if a0_1 = a1_1 then (some true) else (some false)) else (some false)) = some r := h
 clear h
 by_cases c3 : a0_0 = a1_0
 ·rw [if_pos c3] at H
  have c3b0 : (a0_0 == a1_0) = true := beq_iff_eq.mpr c3
  have c3b1 : (a0_0 != a1_0) = false := bne_eq_false_iff_eq.mpr c3
  clear c3
  by_cases c4 : a0_1 = a1_1
  ·rw [if_pos c4] at H
   have c4b0 : (a0_1 == a1_1) = true := beq_iff_eq.mpr c4
   have c4b1 : (a0_1 != a1_1) = false := bne_eq_false_iff_eq.mpr c4
   clear c4
   obtain rfl := Option.some.inj H
   go_enter Try.func103, Try.ntmps103
   go_wp2_with (first | ((with_reducible refine gate_dst (N := 2) rfl ?_); refine box_event ?hg (N := 2) ?hd (cs := #[.int .i64 a0_0, .int .i64 a0_1]) (t := 67) ?hr ?_; (case hd => rfl); (case hg => rfl); (case hr => first | (go_simp; done) | (go_simp; rfl)); intro gb378 hg w5 hbox hb; have BK378 := Aside0.mk (hbox); have GW378 := Aside0.mk ((by rw [hg]; exact (below_size (Lz HB)) : w.heap.size ≤ gb378)); have GE378 := Aside0.mk ((by rw [hg]; exact (below_size (Lz HB)) : w.heap.size ≤ gb378)); replace HB := Aside0.mk (below_step (Lz HB) hb); clear hb hbox hg) | ((with_reducible refine gate_dst (N := 3) rfl ?_); refine box_event ?hg (N := 3) ?hd (cs := #[.int .i64 a1_0, .int .i64 a1_1]) (t := 67) ?hr ?_; (case hd => rfl); (case hg => rfl); (case hr => first | (go_simp; done) | (go_simp; rfl)); intro gb379 hg w6 hbox hb; have BK379 := Aside0.mk (hbox); have GW379 := Aside0.mk ((by rw [hg]; exact (below_size (by exact Lz1 HB GE378)) : w.heap.size ≤ gb379)); have GE379 := Aside0.mk ((by rw [hg]; exact (below_size (by exact Lz1 HB GE378)) : w.heap.size ≤ gb379)); replace HB := Aside0.mk (below_step (by exact Lz1 HB GE378) hb); have NB378_379 := Aside0.mk ((by rw [hg]; exact Nat.ne_of_lt (blk_lt (g := gb378) (o := .cells #[.int .i64 a0_0, .int .i64 a0_1] 67 (0, 0)) (Bz BK378)) : gb378 ≠ gb379)); have NB379_378 := Aside0.mk ((by rw [hg]; exact Nat.ne_of_gt (blk_lt (g := gb378) (o := .cells #[.int .i64 a0_0, .int .i64 a0_1] 67 (0, 0)) (Bz BK378)) : gb379 ≠ gb378)); replace BK378 := Aside0.mk (blk_below (g := gb378) (o := .cells #[.int .i64 a0_0, .int .i64 a0_1] 67 (0, 0)) (Bz BK378) hb); clear hb hbox hg; have hnb7 := NB378_379.out; have hnc7 := NB379_378.out; have hcz8_0 : w6.cell? ⟨gb378, 0, none⟩ = some (.int .i64 a0_0) := (blk_cell BK378.out 0).trans rfl; have hcz8_1 : w6.cell? ⟨gb378, 1, none⟩ = some (.int .i64 a0_1) := (blk_cell BK378.out 1).trans rfl; have hfz8_0 := blk_frozen BK378.out 0; have hfz8_1 := blk_frozen BK378.out 1; have hcz9_0 : w6.cell? ⟨gb379, 0, none⟩ = some (.int .i64 a1_0) := (blk_cell BK379.out 0).trans rfl; have hcz9_1 : w6.cell? ⟨gb379, 1, none⟩ = some (.int .i64 a1_1) := (blk_cell BK379.out 1).trans rfl; have hfz9_0 := blk_frozen BK379.out 0; have hfz9_1 := blk_frozen BK379.out 1))
   go_ret
   exact ⟨by first | rfl | (simp [errW_none, errW_some] <;> rfl) | (simp [*, errW_none, errW_some] <;> rfl), by exact Lz2 HB GE378 GE379⟩
  rw [if_neg c4] at H
  have c4b0 : (a0_1 == a1_1) = false := beq_eq_false_iff_ne.mpr c4
  have c4b1 : (a0_1 != a1_1) = true := bne_iff_ne.mpr c4
  obtain rfl := Option.some.inj H
  go_enter Try.func103, Try.ntmps103
  go_wp2_with (first | ((with_reducible refine gate_dst (N := 2) rfl ?_); refine box_event ?hg (N := 2) ?hd (cs := #[.int .i64 a0_0, .int .i64 a0_1]) (t := 67) ?hr ?_; (case hd => rfl); (case hg => rfl); (case hr => first | (go_simp; done) | (go_simp; rfl)); intro gb378 hg w10 hbox hb; have BK378 := Aside0.mk (hbox); have GW378 := Aside0.mk ((by rw [hg]; exact (below_size (Lz HB)) : w.heap.size ≤ gb378)); have GE378 := Aside0.mk ((by rw [hg]; exact (below_size (Lz HB)) : w.heap.size ≤ gb378)); replace HB := Aside0.mk (below_step (Lz HB) hb); clear hb hbox hg) | ((with_reducible refine gate_dst (N := 3) rfl ?_); refine box_event ?hg (N := 3) ?hd (cs := #[.int .i64 a1_0, .int .i64 a1_1]) (t := 67) ?hr ?_; (case hd => rfl); (case hg => rfl); (case hr => first | (go_simp; done) | (go_simp; rfl)); intro gb379 hg w11 hbox hb; have BK379 := Aside0.mk (hbox); have GW379 := Aside0.mk ((by rw [hg]; exact (below_size (by exact Lz1 HB GE378)) : w.heap.size ≤ gb379)); have GE379 := Aside0.mk ((by rw [hg]; exact (below_size (by exact Lz1 HB GE378)) : w.heap.size ≤ gb379)); replace HB := Aside0.mk (below_step (by exact Lz1 HB GE378) hb); have NB378_379 := Aside0.mk ((by rw [hg]; exact Nat.ne_of_lt (blk_lt (g := gb378) (o := .cells #[.int .i64 a0_0, .int .i64 a0_1] 67 (0, 0)) (Bz BK378)) : gb378 ≠ gb379)); have NB379_378 := Aside0.mk ((by rw [hg]; exact Nat.ne_of_gt (blk_lt (g := gb378) (o := .cells #[.int .i64 a0_0, .int .i64 a0_1] 67 (0, 0)) (Bz BK378)) : gb379 ≠ gb378)); replace BK378 := Aside0.mk (blk_below (g := gb378) (o := .cells #[.int .i64 a0_0, .int .i64 a0_1] 67 (0, 0)) (Bz BK378) hb); clear hb hbox hg; have hnb12 := NB378_379.out; have hnc12 := NB379_378.out; have hcz13_0 : w11.cell? ⟨gb378, 0, none⟩ = some (.int .i64 a0_0) := (blk_cell BK378.out 0).trans rfl; have hcz13_1 : w11.cell? ⟨gb378, 1, none⟩ = some (.int .i64 a0_1) := (blk_cell BK378.out 1).trans rfl; have hfz13_0 := blk_frozen BK378.out 0; have hfz13_1 := blk_frozen BK378.out 1; have hcz14_0 : w11.cell? ⟨gb379, 0, none⟩ = some (.int .i64 a1_0) := (blk_cell BK379.out 0).trans rfl; have hcz14_1 : w11.cell? ⟨gb379, 1, none⟩ = some (.int .i64 a1_1) := (blk_cell BK379.out 1).trans rfl; have hfz14_0 := blk_frozen BK379.out 0; have hfz14_1 := blk_frozen BK379.out 1))
  go_ret
  exact ⟨by first | rfl | (simp [errW_none, errW_some] <;> rfl) | (simp [*, errW_none, errW_some] <;> rfl), by exact Lz2 HB GE378 GE379⟩
 rw [if_neg c3] at H
 have c3b0 : (a0_0 == a1_0) = false := beq_eq_false_iff_ne.mpr c3
 have c3b1 : (a0_0 != a1_0) = true := bne_iff_ne.mpr c3
 obtain rfl := Option.some.inj H
 go_enter Try.func103, Try.ntmps103
 go_wp2_with (first | ((with_reducible refine gate_dst (N := 2) rfl ?_); refine box_event ?hg (N := 2) ?hd (cs := #[.int .i64 a0_0, .int .i64 a0_1]) (t := 67) ?hr ?_; (case hd => rfl); (case hg => rfl); (case hr => first | (go_simp; done) | (go_simp; rfl)); intro gb378 hg w15 hbox hb; have BK378 := Aside0.mk (hbox); have GW378 := Aside0.mk ((by rw [hg]; exact (below_size (Lz HB)) : w.heap.size ≤ gb378)); have GE378 := Aside0.mk ((by rw [hg]; exact (below_size (Lz HB)) : w.heap.size ≤ gb378)); replace HB := Aside0.mk (below_step (Lz HB) hb); clear hb hbox hg) | ((with_reducible refine gate_dst (N := 3) rfl ?_); refine box_event ?hg (N := 3) ?hd (cs := #[.int .i64 a1_0, .int .i64 a1_1]) (t := 67) ?hr ?_; (case hd => rfl); (case hg => rfl); (case hr => first | (go_simp; done) | (go_simp; rfl)); intro gb379 hg w16 hbox hb; have BK379 := Aside0.mk (hbox); have GW379 := Aside0.mk ((by rw [hg]; exact (below_size (by exact Lz1 HB GE378)) : w.heap.size ≤ gb379)); have GE379 := Aside0.mk ((by rw [hg]; exact (below_size (by exact Lz1 HB GE378)) : w.heap.size ≤ gb379)); replace HB := Aside0.mk (below_step (by exact Lz1 HB GE378) hb); have NB378_379 := Aside0.mk ((by rw [hg]; exact Nat.ne_of_lt (blk_lt (g := gb378) (o := .cells #[.int .i64 a0_0, .int .i64 a0_1] 67 (0, 0)) (Bz BK378)) : gb378 ≠ gb379)); have NB379_378 := Aside0.mk ((by rw [hg]; exact Nat.ne_of_gt (blk_lt (g := gb378) (o := .cells #[.int .i64 a0_0, .int .i64 a0_1] 67 (0, 0)) (Bz BK378)) : gb379 ≠ gb378)); replace BK378 := Aside0.mk (blk_below (g := gb378) (o := .cells #[.int .i64 a0_0, .int .i64 a0_1] 67 (0, 0)) (Bz BK378) hb); clear hb hbox hg; have hnb17 := NB378_379.out; have hnc17 := NB379_378.out; have hcz18_0 : w16.cell? ⟨gb378, 0, none⟩ = some (.int .i64 a0_0) := (blk_cell BK378.out 0).trans rfl; have hcz18_1 : w16.cell? ⟨gb378, 1, none⟩ = some (.int .i64 a0_1) := (blk_cell BK378.out 1).trans rfl; have hfz18_0 := blk_frozen BK378.out 0; have hfz18_1 := blk_frozen BK378.out 1; have hcz19_0 : w16.cell? ⟨gb379, 0, none⟩ = some (.int .i64 a1_0) := (blk_cell BK379.out 0).trans rfl; have hcz19_1 : w16.cell? ⟨gb379, 1, none⟩ = some (.int .i64 a1_1) := (blk_cell BK379.out 1).trans rfl; have hfz19_0 := blk_frozen BK379.out 0; have hfz19_1 := blk_frozen BK379.out 1))
 go_ret
 exact ⟨by first | rfl | (simp [errW_none, errW_some] <;> rfl) | (simp [*, errW_none, errW_some] <;> rfl), by exact Lz2 HB GE378 GE379⟩
end Go.Proofs.Ytbcfccdoffbncaa.P
end
section
namespace Go.Proofs.Ytbcfccdoffbncaa.P
open Go.RowKit Go.Proofs.YtbcfccdoffbncaaW.PrintWords Go.Proofs.YtbcfccdoffbncaaW.PrintLast Go.Proofs.YtbcfccdoffbncaaW.PrintMore
attribute [local go_sem] max2_int min2_int max_two min_two max_three min_three max_four min_four
set_option linter.unusedVariables false
set_option linter.unusedSimpArgs false
def laws_eqEdgeS.l0 : Nat → List (S67) → List (S67) → Int → Option (Bool)
 | 0, _, _, _ => none
 | k + 1, x0, x1, x5 => if x5 < (x0.length : Int) then (if 0 ≤ x5 then (if x5 < (x1.length : Int) then ((laws_eqEdge.f ((rd_T67 x0 x5).f0) ((rd_T67 x0 x5).f1) ((rd_T67 x1 x5).f0) ((rd_T67 x1 x5).f1)).bind fun t382 => (if t382 = true then (laws_eqEdgeS.l0 k x0 x1 (wrap64 (x5 + 1))) else (some false))) else (none)) else (none)) else (some true)
def laws_eqEdgeS.f (k : Nat) (l0 : List (S67)) (l1 : List (S67)) : Option (Bool) := if (l0.length : Int) = (l1.length : Int) then (laws_eqEdgeS.l0 k l0 l1 0) else (some false)
def laws_eqEdgeS.T6 : Bool × List (List Nat × List Nat) := (true, [([], []), ([], []), ([0, 1], [0, 1]), ([2], [2]), ([], []), ([], []), ([4, 5], [4, 5]), ([6], [6]), ([3, 7], [3, 7]), ([8], [8])])
def laws_eqEdgeS.B6 : List Nat := [0, 0, 3, 7, 0, 0, 48, 112, 255, 511]
theorem laws_eqEdgeS.tab6 : rtab .any (opsOf Try.f62 6) = laws_eqEdgeS.T6 := by kernel_rfl
theorem laws_eqEdgeS.bits6 : waitsOk laws_eqEdgeS.T6.2 laws_eqEdgeS.B6 = true := by kernel_rfl
set_option maxHeartbeats 8000000 in
set_option maxRecDepth 100000 in
theorem laws_eqEdgeS.calls (k : Nat) (A0 : Option Addr) (c0 : Nat) (l0 : List (S67)) (A1 : Option Addr) (c1 : Nat) (l1 : List (S67)) (r : Bool) (w : World) (hr0 : Kd.C k67 w A0 l0.length l0) (hc0 : l0.length ≤ c0) (hr1 : Kd.C k67 w A1 l1.length l1) (hc1 : l1.length ≤ c1) (h : laws_eqEdgeS.f k l0 l1 = some r) :
  Calls Try.prog 62 #[.slice A0 l0.length c0, .slice A1 l1.length c1] w fun e w' => e = .returned (.bool r) ∧ Below w.heap.size w w' := by
 have hu67 := Try.underlying67
 have HR0 := Aside0.mk hr0
 have HC0 := Aside0.mk hc0
 clear hr0 hc0
 have HR1 := Aside0.mk hr1
 have HC1 := Aside0.mk hc1
 clear hr1 hc1
 have HB := Aside0.mk (Below.refl w.heap.size w)
 have H : (if (l0.length : Int) = (l1.length : Int) then (laws_eqEdgeS.l0 k l0 l1 0) else (some false)) = some r := h
 clear h
 by_cases c3 : (l0.length : Int) = (l1.length : Int)
 ·rw [if_pos c3] at H
  have c3b0 : ((l0.length : Int) == (l1.length : Int)) = true := beq_iff_eq.mpr c3
  have c3b1 : ((l0.length : Int) != (l1.length : Int)) = false := bne_eq_false_iff_eq.mpr c3
  have c3b2 : (l0.length == l1.length) = true := by first | simpa using c3 | (simp at c3 ⊢; omega)
  clear c3
  have H' := Aside0.mk H
  clear H
  go_enter Try.func62, Try.ntmps62
  go_wp2
  go_loopg [5] k (fun kq v5 w' => ∃ (x5_1 : Int), v5 = .int .i64 x5_1 ∧ Aside0 (laws_eqEdgeS.l0 kq l0 l1 x5_1 = some r) ∧ Aside0 (kq ≤ k) ∧ Aside0 (Below w.heap.size w w'))
  case atStart => exact ⟨(0), (by first | rfl | (simp; done) | (simp [*]; done)), H', ⟨Nat.le_refl _⟩, ⟨by exact Lz HB⟩⟩
  case round =>
   clear H'
   try clear c1
   try clear c3
   try clear c3b0
   try clear c3b1
   try clear c3b2
   obtain ⟨x5_1, rfl, HA, HK1, HB⟩ := hrel
   cases gk with
   | zero => exact absurd HA.out (by simp [laws_eqEdgeS.l0])
   | succ k1 =>
    have H := HA.out
    clear HA
    simp only [laws_eqEdgeS.l0] at H
    by_cases c4 : x5_1 < (l0.length : Int)
    ·rw [if_pos c4] at H
     have c4b0 : decide (x5_1 < (l0.length : Int)) = true := decide_eq_true c4
     clear c4
     by_cases c5 : 0 ≤ x5_1
     ·rw [if_pos c5] at H
      have c5b0 : decide (0 ≤ x5_1) = true := decide_eq_true c5
      clear c5
      by_cases c6 : x5_1 < (l1.length : Int)
      ·rw [if_pos c6] at H
       have c6b0 : decide (x5_1 < (l1.length : Int)) = true := decide_eq_true c6
       clear c6
       replace H := Option.bind_eq_some_iff.mp H
       obtain ⟨t382, A70, H⟩ := H
       replace H : (if t382 = true then (laws_eqEdgeS.l0 k1 l0 l1 (wrap64 (x5_1 + 1))) else (some false)) = some r := H
       have A7 := Aside0.mk A70
       clear A70
       by_cases c8 : t382 = true
       ·subst c8
        have H1 : (laws_eqEdgeS.l0 k1 l0 l1 (wrap64 (x5_1 + 1))) = some r := by rw [if_pos rfl] at H; exact H
        clear H
        have H := H1
        clear H1
        have H' := Aside0.mk H
        clear H
        try go_wp2
        replace HB := Aside0.mk (below_drew1 HB.out)
        have p380 : 0 ≤ (x5_1 : Int) := of_decide_eq_true (by first | (with_reducible assumption) | assumption)
        have q380 : x5_1 < (l0.length : Int) := of_decide_eq_true (by first | (with_reducible assumption) | assumption)
        obtain ⟨ad380, e380, hx380_0, hx380_1⟩ := at_T67 HR0.out x5_1 p380 q380
        have hw380_1 := hx380_1
        have hw380_0 := hx380_0
        cases e380
        replace hx380_0 := (HB.out.cell (World.block_lt_of_cell? w _ hx380_0)).trans hx380_0
        replace hx380_1 := (HB.out.cell (World.block_lt_of_cell? w _ hx380_1)).trans hx380_1
        replace p380 := eq_true p380
        replace q380 := eq_true q380
        have p381 : 0 ≤ (x5_1 : Int) := of_decide_eq_true (by first | (with_reducible assumption) | assumption)
        have q381 : x5_1 < (l1.length : Int) := of_decide_eq_true (by first | (with_reducible assumption) | assumption)
        obtain ⟨ad381, e381, hx381_0, hx381_1⟩ := at_T67 HR1.out x5_1 p381 q381
        have hw381_1 := hx381_1
        have hw381_0 := hx381_0
        cases e381
        replace hx381_0 := (HB.out.cell (World.block_lt_of_cell? w _ hx381_0)).trans hx381_0
        replace hx381_1 := (HB.out.cell (World.block_lt_of_cell? w _ hx381_1)).trans hx381_1
        replace p381 := eq_true p381
        replace q381 := eq_true q381
        refine start_ (n := 10) (S := fun w' => w'.cell? (ad380.add ((x5_1).toNat * 2)) = some (.int .i64 ((rd_T67 l0 x5_1).f0)) ∧ w'.cell? ⟨(ad380.add ((x5_1).toNat * 2)).block, (ad380.add ((x5_1).toNat * 2)).off + 1, none⟩ = some (.int .i64 ((rd_T67 l0 x5_1).f1)) ∧ w'.cell? (ad381.add ((x5_1).toNat * 2)) = some (.int .i64 ((rd_T67 l1 x5_1).f0)) ∧ w'.cell? ⟨(ad381.add ((x5_1).toNat * 2)).block, (ad381.add ((x5_1).toNat * 2)).off + 1, none⟩ = some (.int .i64 ((rd_T67 l1 x5_1).f1))) (ds := []) #[false, false, false, false, false, false, false, false, false, false] (by kernel_rfl) rfl rfl ⟨((HB.out.cell (World.block_lt_of_cell? w _ hw380_0)).trans hw380_0), ((HB.out.cell (World.block_lt_of_cell? w _ hw380_1)).trans hw380_1), ((HB.out.cell (World.block_lt_of_cell? w _ hw381_0)).trans hw381_0), ((HB.out.cell (World.block_lt_of_cell? w _ hw381_1)).trans hw381_1)⟩ (fun hHeld => ?_); refine with_tabW laws_eqEdgeS.tab6 laws_eqEdgeS.bits6 (fun HT_ HW_ => ?_)
        generalize wr.drew = w9 at HB hx380_0 hx380_1 hx381_0 hx381_1 hHeld ⊢
        refine pureT_ 0 17 HT_ ?_
        refine pureT_ 1 18 HT_ ?_
        refine pureT_ 2 19 HT_ ?_
        refine pureT_ 4 21 HT_ ?_
        refine pureT_ 5 22 HT_ ?_
        refine pureT_ 6 23 HT_ ?_
        refine takeT_ 3 20 HT_ HW_ hHeld rfl (by rintro w' ⟨s0, s1, s2, s3⟩; go_simp; with_reducible rfl) ?_
        refine takeT_ 7 24 HT_ HW_ hHeld rfl (by rintro w' ⟨s0, s1, s2, s3⟩; go_simp; with_reducible rfl) ?_
        refine one_ (i := 8) (N := some 25) #[true, true, true, true, true, true, true, true, true, false] rfl rfl (one_of HT_.out (by kernel_rfl)) (by decide) (fun K hK => ?_)
        refine goes_ Try.func103 (by kernel_rfl) rfl #[.agg #[.int .i64 ((rd_T67 l0 x5_1).f0), .int .i64 ((rd_T67 l0 x5_1).f1)], .agg #[.int .i64 ((rd_T67 l1 x5_1).f0), .int .i64 ((rd_T67 l1 x5_1).f1)]] (by rfl) rfl rfl (by (try simp only [List.map_toArray, List.map_cons, List.map_nil]); first | done | rfl | (simp only [List.length_drop, List.length_take]; rfl)) ?_
        with_reducible refine (laws_eqEdge.calls ((rd_T67 l0 x5_1).f0) ((rd_T67 l0 x5_1).f1) ((rd_T67 l1 x5_1).f0) ((rd_T67 l1 x5_1).f1) true _ A7.out).mono ?_
        rintro e w10 ⟨rfl, hb⟩
        refine ⟨_, rfl, ?_⟩
        replace HB := Aside0.mk (below_step (Lz HB) hb)
        (try clear hb)
        (try clear hb2)
        (try clear hk)
        (try clear hi)
        refine hK.out _ _ ⟨((HB.out.cell (World.block_lt_of_cell? w _ hw380_0)).trans hw380_0), ((HB.out.cell (World.block_lt_of_cell? w _ hw380_1)).trans hw380_1), ((HB.out.cell (World.block_lt_of_cell? w _ hw381_0)).trans hw381_0), ((HB.out.cell (World.block_lt_of_cell? w _ hw381_1)).trans hw381_1)⟩ (fun hHeld => ?_)
        clear hK K
        refine norm_ (a' := ?_) ?_ ?_
        rotate_left
        ·show Act.put _ (some 25) _ = _
         simp only [Act.put, List.setIfInBounds_toArray, List.set_cons_zero, List.set_cons_succ, i64_w, i32_w]
         rfl
        refine pureT_ 9 26 HT_ ?_
        refine done_ (done_of HT_.out (by kernel_rfl)) ?_
        try go_wp2
        go_roundg k1
        case measure => have := HK1.out; omega
        case rel => exact ⟨(wrap64 (x5_1 + 1)), (by first | rfl | (simp; done) | (simp [*]; done)), H', ⟨by have := HK1.out; omega⟩, ⟨by exact Lz HB⟩⟩
       replace c8 := Bool.eq_false_iff.mpr c8
       subst c8
       have H1 : (some false) = some r := by rw [if_neg (show ¬ (false = true) by decide)] at H; exact H
       clear H
       have H := H1
       clear H1
       obtain rfl := Option.some.inj H
       try go_wp2
       replace HB := Aside0.mk (below_drew1 HB.out)
       have p380 : 0 ≤ (x5_1 : Int) := of_decide_eq_true (by first | (with_reducible assumption) | assumption)
       have q380 : x5_1 < (l0.length : Int) := of_decide_eq_true (by first | (with_reducible assumption) | assumption)
       obtain ⟨ad380, e380, hx380_0, hx380_1⟩ := at_T67 HR0.out x5_1 p380 q380
       have hw380_1 := hx380_1
       have hw380_0 := hx380_0
       cases e380
       replace hx380_0 := (HB.out.cell (World.block_lt_of_cell? w _ hx380_0)).trans hx380_0
       replace hx380_1 := (HB.out.cell (World.block_lt_of_cell? w _ hx380_1)).trans hx380_1
       replace p380 := eq_true p380
       replace q380 := eq_true q380
       have p381 : 0 ≤ (x5_1 : Int) := of_decide_eq_true (by first | (with_reducible assumption) | assumption)
       have q381 : x5_1 < (l1.length : Int) := of_decide_eq_true (by first | (with_reducible assumption) | assumption)
       obtain ⟨ad381, e381, hx381_0, hx381_1⟩ := at_T67 HR1.out x5_1 p381 q381
       have hw381_1 := hx381_1
       have hw381_0 := hx381_0
       cases e381
       replace hx381_0 := (HB.out.cell (World.block_lt_of_cell? w _ hx381_0)).trans hx381_0
       replace hx381_1 := (HB.out.cell (World.block_lt_of_cell? w _ hx381_1)).trans hx381_1
       replace p381 := eq_true p381
       replace q381 := eq_true q381
       refine start_ (n := 10) (S := fun w' => w'.cell? (ad380.add ((x5_1).toNat * 2)) = some (.int .i64 ((rd_T67 l0 x5_1).f0)) ∧ w'.cell? ⟨(ad380.add ((x5_1).toNat * 2)).block, (ad380.add ((x5_1).toNat * 2)).off + 1, none⟩ = some (.int .i64 ((rd_T67 l0 x5_1).f1)) ∧ w'.cell? (ad381.add ((x5_1).toNat * 2)) = some (.int .i64 ((rd_T67 l1 x5_1).f0)) ∧ w'.cell? ⟨(ad381.add ((x5_1).toNat * 2)).block, (ad381.add ((x5_1).toNat * 2)).off + 1, none⟩ = some (.int .i64 ((rd_T67 l1 x5_1).f1))) (ds := []) #[false, false, false, false, false, false, false, false, false, false] (by kernel_rfl) rfl rfl ⟨((HB.out.cell (World.block_lt_of_cell? w _ hw380_0)).trans hw380_0), ((HB.out.cell (World.block_lt_of_cell? w _ hw380_1)).trans hw380_1), ((HB.out.cell (World.block_lt_of_cell? w _ hw381_0)).trans hw381_0), ((HB.out.cell (World.block_lt_of_cell? w _ hw381_1)).trans hw381_1)⟩ (fun hHeld => ?_); refine with_tabW laws_eqEdgeS.tab6 laws_eqEdgeS.bits6 (fun HT_ HW_ => ?_)
       generalize wr.drew = w11 at HB hx380_0 hx380_1 hx381_0 hx381_1 hHeld ⊢
       refine pureT_ 0 17 HT_ ?_
       refine pureT_ 1 18 HT_ ?_
       refine pureT_ 2 19 HT_ ?_
       refine pureT_ 4 21 HT_ ?_
       refine pureT_ 5 22 HT_ ?_
       refine pureT_ 6 23 HT_ ?_
       refine takeT_ 3 20 HT_ HW_ hHeld rfl (by rintro w' ⟨s0, s1, s2, s3⟩; go_simp; with_reducible rfl) ?_
       refine takeT_ 7 24 HT_ HW_ hHeld rfl (by rintro w' ⟨s0, s1, s2, s3⟩; go_simp; with_reducible rfl) ?_
       refine one_ (i := 8) (N := some 25) #[true, true, true, true, true, true, true, true, true, false] rfl rfl (one_of HT_.out (by kernel_rfl)) (by decide) (fun K hK => ?_)
       refine goes_ Try.func103 (by kernel_rfl) rfl #[.agg #[.int .i64 ((rd_T67 l0 x5_1).f0), .int .i64 ((rd_T67 l0 x5_1).f1)], .agg #[.int .i64 ((rd_T67 l1 x5_1).f0), .int .i64 ((rd_T67 l1 x5_1).f1)]] (by rfl) rfl rfl (by (try simp only [List.map_toArray, List.map_cons, List.map_nil]); first | done | rfl | (simp only [List.length_drop, List.length_take]; rfl)) ?_
       with_reducible refine (laws_eqEdge.calls ((rd_T67 l0 x5_1).f0) ((rd_T67 l0 x5_1).f1) ((rd_T67 l1 x5_1).f0) ((rd_T67 l1 x5_1).f1) false _ A7.out).mono ?_
       rintro e w12 ⟨rfl, hb⟩
       refine ⟨_, rfl, ?_⟩
       replace HB := Aside0.mk (below_step (Lz HB) hb)
       (try clear hb)
       (try clear hb2)
       (try clear hk)
       (try clear hi)
       refine hK.out _ _ ⟨((HB.out.cell (World.block_lt_of_cell? w _ hw380_0)).trans hw380_0), ((HB.out.cell (World.block_lt_of_cell? w _ hw380_1)).trans hw380_1), ((HB.out.cell (World.block_lt_of_cell? w _ hw381_0)).trans hw381_0), ((HB.out.cell (World.block_lt_of_cell? w _ hw381_1)).trans hw381_1)⟩ (fun hHeld => ?_)
       clear hK K
       refine norm_ (a' := ?_) ?_ ?_
       rotate_left
       ·show Act.put _ (some 25) _ = _
        simp only [Act.put, List.setIfInBounds_toArray, List.set_cons_zero, List.set_cons_succ, i64_w, i32_w]
        rfl
       refine pureT_ 9 26 HT_ ?_
       refine done_ (done_of HT_.out (by kernel_rfl)) ?_
       try go_wp2
       go_ret
       exact ⟨by first | rfl | (simp [errW_none, errW_some] <;> rfl) | (simp [*, errW_none, errW_some] <;> rfl), by exact Lz HB⟩
      rw [if_neg c6] at H
      exact absurd H (by simp)
     rw [if_neg c5] at H
     exact absurd H (by simp)
    rw [if_neg c4] at H
    have c4b0 : decide (x5_1 < (l0.length : Int)) = false := decide_eq_false c4
    clear c4
    obtain rfl := Option.some.inj H
    go_wp2
    go_ret
    exact ⟨by first | rfl | (simp [errW_none, errW_some] <;> rfl) | (simp [*, errW_none, errW_some] <;> rfl), by exact Lz HB⟩
 rw [if_neg c3] at H
 have c3b0 : ((l0.length : Int) == (l1.length : Int)) = false := beq_eq_false_iff_ne.mpr c3
 have c3b1 : ((l0.length : Int) != (l1.length : Int)) = true := bne_iff_ne.mpr c3
 have c3b2 : (l0.length == l1.length) = false := by first | simpa using c3 | (simp at c3 ⊢; omega)
 obtain rfl := Option.some.inj H
 go_enter Try.func62, Try.ntmps62
 go_wp2
 go_ret
 exact ⟨by first | rfl | (simp [errW_none, errW_some] <;> rfl) | (simp [*, errW_none, errW_some] <;> rfl), by exact Lz HB⟩
end Go.Proofs.Ytbcfccdoffbncaa.P
end
section
namespace Go.Proofs.Ytbcfccdoffbncaa.P
open Go.RowKit Go.Proofs.YtbcfccdoffbncaaW.PrintWords Go.Proofs.YtbcfccdoffbncaaW.PrintLast Go.Proofs.YtbcfccdoffbncaaW.PrintMore
attribute [local go_sem] max2_int min2_int max_two min_two max_three min_three max_four min_four
set_option linter.unusedVariables false
set_option linter.unusedSimpArgs false
def laws_eqGraph.f (k : Nat) (a0_0 : Int) (l0_1 : List (S67)) (a1_0 : Int) (l1_1 : List (S67)) : Option (Bool) := if a0_0 = a1_0 then ((laws_eqEdgeS.f k l0_1 l1_1).bind fun t385 => (if t385 = true then (some true) else (some false))) else (some false)
set_option maxHeartbeats 8000000 in
set_option maxRecDepth 100000 in
theorem laws_eqGraph.calls (k : Nat) (a0_0 : Int) (A0_1 : Option Addr) (c0_1 : Nat) (l0_1 : List (S67)) (a1_0 : Int) (A1_1 : Option Addr) (c1_1 : Nat) (l1_1 : List (S67)) (r : Bool) (w : World) (hr0_1 : Kd.C k67 w A0_1 l0_1.length l0_1) (hc0_1 : l0_1.length ≤ c0_1) (hr1_1 : Kd.C k67 w A1_1 l1_1.length l1_1) (hc1_1 : l1_1.length ≤ c1_1) (h : laws_eqGraph.f k a0_0 l0_1 a1_0 l1_1 = some r) :
  Calls Try.prog 16 #[.agg #[.int .i64 a0_0, .slice A0_1 l0_1.length c0_1], .agg #[.int .i64 a1_0, .slice A1_1 l1_1.length c1_1]] w fun e w' => e = .returned (.bool r) ∧ Below w.heap.size w w' := by
 have hu31 := Try.underlying31
 have HR0_1 := Aside0.mk hr0_1
 have HC0_1 := Aside0.mk hc0_1
 clear hr0_1 hc0_1
 have HR1_1 := Aside0.mk hr1_1
 have HC1_1 := Aside0.mk hc1_1
 clear hr1_1 hc1_1
 have HB := Aside0.mk (Below.refl w.heap.size w)
 have H : (if a0_0 = a1_0 then ((laws_eqEdgeS.f k l0_1 l1_1).bind fun t385 => (if t385 = true then (some true) else (some false))) else (some false)) = some r := h
 clear h
 by_cases c3 : a0_0 = a1_0
 ·rw [if_pos c3] at H
  have c3b0 : (a0_0 == a1_0) = true := beq_iff_eq.mpr c3
  have c3b1 : (a0_0 != a1_0) = false := bne_eq_false_iff_eq.mpr c3
  clear c3
  replace H := Option.bind_eq_some_iff.mp H
  obtain ⟨t385, A40, H⟩ := H
  replace H : (if t385 = true then (some true) else (some false)) = some r := H
  have A4 := Aside0.mk A40
  clear A40
  by_cases c5 : t385 = true
  ·subst c5
   have H1 : (some true) = some r := by rw [if_pos rfl] at H; exact H
   clear H
   have H := H1
   clear H1
   obtain rfl := Option.some.inj H
   go_enter Try.func16, Try.ntmps16
   go_wp2_with (first | ((with_reducible refine gate_dst (N := 2) rfl ?_); refine box_event ?hg (N := 2) ?hd (cs := #[.int .i64 a0_0, .slice A0_1 l0_1.length c0_1]) (t := 31) ?hr ?_; (case hd => rfl); (case hg => rfl); (case hr => first | (go_simp; done) | (go_simp; rfl)); intro gb383 hg w6 hbox hb; have BK383 := Aside0.mk (hbox); have GW383 := Aside0.mk ((by rw [hg]; exact (below_size (Lz HB)) : w.heap.size ≤ gb383)); have GE383 := Aside0.mk ((by rw [hg]; exact (below_size (Lz HB)) : w.heap.size ≤ gb383)); replace HB := Aside0.mk (below_step (Lz HB) hb); clear hb hbox hg) | ((with_reducible refine gate_dst (N := 3) rfl ?_); refine box_event ?hg (N := 3) ?hd (cs := #[.int .i64 a1_0, .slice A1_1 l1_1.length c1_1]) (t := 31) ?hr ?_; (case hd => rfl); (case hg => rfl); (case hr => first | (go_simp; done) | (go_simp; rfl)); intro gb384 hg w7 hbox hb; have BK384 := Aside0.mk (hbox); have GW384 := Aside0.mk ((by rw [hg]; exact (below_size (by exact Lz1 HB GE383)) : w.heap.size ≤ gb384)); have GE384 := Aside0.mk ((by rw [hg]; exact (below_size (by exact Lz1 HB GE383)) : w.heap.size ≤ gb384)); replace HB := Aside0.mk (below_step (by exact Lz1 HB GE383) hb); have NB383_384 := Aside0.mk ((by rw [hg]; exact Nat.ne_of_lt (blk_lt (g := gb383) (o := .cells #[.int .i64 a0_0, .slice A0_1 l0_1.length c0_1] 31 (0, 0)) (Bz BK383)) : gb383 ≠ gb384)); have NB384_383 := Aside0.mk ((by rw [hg]; exact Nat.ne_of_gt (blk_lt (g := gb383) (o := .cells #[.int .i64 a0_0, .slice A0_1 l0_1.length c0_1] 31 (0, 0)) (Bz BK383)) : gb384 ≠ gb383)); replace BK383 := Aside0.mk (blk_below (g := gb383) (o := .cells #[.int .i64 a0_0, .slice A0_1 l0_1.length c0_1] 31 (0, 0)) (Bz BK383) hb); clear hb hbox hg; have hnb8 := NB383_384.out; have hnc8 := NB384_383.out; have hcz9_0 : w7.cell? ⟨gb383, 0, none⟩ = some (.int .i64 a0_0) := (blk_cell BK383.out 0).trans rfl; have hcz9_1 : w7.cell? ⟨gb383, 1, none⟩ = some (.slice A0_1 l0_1.length c0_1) := (blk_cell BK383.out 1).trans rfl; have hfz9_0 := blk_frozen BK383.out 0; have hfz9_1 := blk_frozen BK383.out 1; have hcz10_0 : w7.cell? ⟨gb384, 0, none⟩ = some (.int .i64 a1_0) := (blk_cell BK384.out 0).trans rfl; have hcz10_1 : w7.cell? ⟨gb384, 1, none⟩ = some (.slice A1_1 l1_1.length c1_1) := (blk_cell BK384.out 1).trans rfl; have hfz10_0 := blk_frozen BK384.out 0; have hfz10_1 := blk_frozen BK384.out 1) | ((with_reducible refine gate_callee (f := 62) rfl ?_); refine goesM_ (some 14) rfl rfl Try.func62 (by kernel_rfl) rfl #[.slice A0_1 l0_1.length c0_1, .slice A1_1 l1_1.length c1_1] rfl ?_; (with_reducible refine (laws_eqEdgeS.calls k _ _ l0_1 _ _ l1_1 true _ ?side1 ?side2 ?side3 ?side4 A4.out).mono ?_); (case side1 => exact Cz ((Kd.C_below HR0_1.out HB.out))); (case side2 => exact HC0_1.out); (case side3 => exact Cz ((Kd.C_below HR1_1.out HB.out))); (case side4 => exact HC1_1.out); rintro e w11 ⟨rfl, hb⟩; refine ⟨_, rfl, ?_⟩; replace BK383 := Aside0.mk (blk_below (g := gb383) (o := .cells #[.int .i64 a0_0, .slice A0_1 l0_1.length c0_1] 31 (0, 0)) (Bz BK383) hb); replace BK384 := Aside0.mk (blk_below (g := gb384) (o := .cells #[.int .i64 a1_0, .slice A1_1 l1_1.length c1_1] 31 (0, 0)) (Bz BK384) hb); replace HB := Aside0.mk (below_step (by exact Lz2 HB GE383 GE384) hb); (try clear hb); (try clear hb2); (try clear hk); (try clear hi)))
   go_ret
   exact ⟨by first | rfl | (simp [errW_none, errW_some] <;> rfl) | (simp [*, errW_none, errW_some] <;> rfl), by exact Lz2 HB GE383 GE384⟩
  replace c5 := Bool.eq_false_iff.mpr c5
  subst c5
  have H1 : (some false) = some r := by rw [if_neg (show ¬ (false = true) by decide)] at H; exact H
  clear H
  have H := H1
  clear H1
  obtain rfl := Option.some.inj H
  go_enter Try.func16, Try.ntmps16
  go_wp2_with (first | ((with_reducible refine gate_dst (N := 2) rfl ?_); refine box_event ?hg (N := 2) ?hd (cs := #[.int .i64 a0_0, .slice A0_1 l0_1.length c0_1]) (t := 31) ?hr ?_; (case hd => rfl); (case hg => rfl); (case hr => first | (go_simp; done) | (go_simp; rfl)); intro gb383 hg w12 hbox hb; have BK383 := Aside0.mk (hbox); have GW383 := Aside0.mk ((by rw [hg]; exact (below_size (Lz HB)) : w.heap.size ≤ gb383)); have GE383 := Aside0.mk ((by rw [hg]; exact (below_size (Lz HB)) : w.heap.size ≤ gb383)); replace HB := Aside0.mk (below_step (Lz HB) hb); clear hb hbox hg) | ((with_reducible refine gate_dst (N := 3) rfl ?_); refine box_event ?hg (N := 3) ?hd (cs := #[.int .i64 a1_0, .slice A1_1 l1_1.length c1_1]) (t := 31) ?hr ?_; (case hd => rfl); (case hg => rfl); (case hr => first | (go_simp; done) | (go_simp; rfl)); intro gb384 hg w13 hbox hb; have BK384 := Aside0.mk (hbox); have GW384 := Aside0.mk ((by rw [hg]; exact (below_size (by exact Lz1 HB GE383)) : w.heap.size ≤ gb384)); have GE384 := Aside0.mk ((by rw [hg]; exact (below_size (by exact Lz1 HB GE383)) : w.heap.size ≤ gb384)); replace HB := Aside0.mk (below_step (by exact Lz1 HB GE383) hb); have NB383_384 := Aside0.mk ((by rw [hg]; exact Nat.ne_of_lt (blk_lt (g := gb383) (o := .cells #[.int .i64 a0_0, .slice A0_1 l0_1.length c0_1] 31 (0, 0)) (Bz BK383)) : gb383 ≠ gb384)); have NB384_383 := Aside0.mk ((by rw [hg]; exact Nat.ne_of_gt (blk_lt (g := gb383) (o := .cells #[.int .i64 a0_0, .slice A0_1 l0_1.length c0_1] 31 (0, 0)) (Bz BK383)) : gb384 ≠ gb383)); replace BK383 := Aside0.mk (blk_below (g := gb383) (o := .cells #[.int .i64 a0_0, .slice A0_1 l0_1.length c0_1] 31 (0, 0)) (Bz BK383) hb); clear hb hbox hg; have hnb14 := NB383_384.out; have hnc14 := NB384_383.out; have hcz15_0 : w13.cell? ⟨gb383, 0, none⟩ = some (.int .i64 a0_0) := (blk_cell BK383.out 0).trans rfl; have hcz15_1 : w13.cell? ⟨gb383, 1, none⟩ = some (.slice A0_1 l0_1.length c0_1) := (blk_cell BK383.out 1).trans rfl; have hfz15_0 := blk_frozen BK383.out 0; have hfz15_1 := blk_frozen BK383.out 1; have hcz16_0 : w13.cell? ⟨gb384, 0, none⟩ = some (.int .i64 a1_0) := (blk_cell BK384.out 0).trans rfl; have hcz16_1 : w13.cell? ⟨gb384, 1, none⟩ = some (.slice A1_1 l1_1.length c1_1) := (blk_cell BK384.out 1).trans rfl; have hfz16_0 := blk_frozen BK384.out 0; have hfz16_1 := blk_frozen BK384.out 1) | ((with_reducible refine gate_callee (f := 62) rfl ?_); refine goesM_ (some 14) rfl rfl Try.func62 (by kernel_rfl) rfl #[.slice A0_1 l0_1.length c0_1, .slice A1_1 l1_1.length c1_1] rfl ?_; (with_reducible refine (laws_eqEdgeS.calls k _ _ l0_1 _ _ l1_1 false _ ?side1 ?side2 ?side3 ?side4 A4.out).mono ?_); (case side1 => exact Cz ((Kd.C_below HR0_1.out HB.out))); (case side2 => exact HC0_1.out); (case side3 => exact Cz ((Kd.C_below HR1_1.out HB.out))); (case side4 => exact HC1_1.out); rintro e w17 ⟨rfl, hb⟩; refine ⟨_, rfl, ?_⟩; replace BK383 := Aside0.mk (blk_below (g := gb383) (o := .cells #[.int .i64 a0_0, .slice A0_1 l0_1.length c0_1] 31 (0, 0)) (Bz BK383) hb); replace BK384 := Aside0.mk (blk_below (g := gb384) (o := .cells #[.int .i64 a1_0, .slice A1_1 l1_1.length c1_1] 31 (0, 0)) (Bz BK384) hb); replace HB := Aside0.mk (below_step (by exact Lz2 HB GE383 GE384) hb); (try clear hb); (try clear hb2); (try clear hk); (try clear hi)))
  go_ret
  exact ⟨by first | rfl | (simp [errW_none, errW_some] <;> rfl) | (simp [*, errW_none, errW_some] <;> rfl), by exact Lz2 HB GE383 GE384⟩
 rw [if_neg c3] at H
 have c3b0 : (a0_0 == a1_0) = false := beq_eq_false_iff_ne.mpr c3
 have c3b1 : (a0_0 != a1_0) = true := bne_iff_ne.mpr c3
 obtain rfl := Option.some.inj H
 go_enter Try.func16, Try.ntmps16
 go_wp2_with (first | ((with_reducible refine gate_dst (N := 2) rfl ?_); refine box_event ?hg (N := 2) ?hd (cs := #[.int .i64 a0_0, .slice A0_1 l0_1.length c0_1]) (t := 31) ?hr ?_; (case hd => rfl); (case hg => rfl); (case hr => first | (go_simp; done) | (go_simp; rfl)); intro gb383 hg w18 hbox hb; have BK383 := Aside0.mk (hbox); have GW383 := Aside0.mk ((by rw [hg]; exact (below_size (Lz HB)) : w.heap.size ≤ gb383)); have GE383 := Aside0.mk ((by rw [hg]; exact (below_size (Lz HB)) : w.heap.size ≤ gb383)); replace HB := Aside0.mk (below_step (Lz HB) hb); clear hb hbox hg) | ((with_reducible refine gate_dst (N := 3) rfl ?_); refine box_event ?hg (N := 3) ?hd (cs := #[.int .i64 a1_0, .slice A1_1 l1_1.length c1_1]) (t := 31) ?hr ?_; (case hd => rfl); (case hg => rfl); (case hr => first | (go_simp; done) | (go_simp; rfl)); intro gb384 hg w19 hbox hb; have BK384 := Aside0.mk (hbox); have GW384 := Aside0.mk ((by rw [hg]; exact (below_size (by exact Lz1 HB GE383)) : w.heap.size ≤ gb384)); have GE384 := Aside0.mk ((by rw [hg]; exact (below_size (by exact Lz1 HB GE383)) : w.heap.size ≤ gb384)); replace HB := Aside0.mk (below_step (by exact Lz1 HB GE383) hb); have NB383_384 := Aside0.mk ((by rw [hg]; exact Nat.ne_of_lt (blk_lt (g := gb383) (o := .cells #[.int .i64 a0_0, .slice A0_1 l0_1.length c0_1] 31 (0, 0)) (Bz BK383)) : gb383 ≠ gb384)); have NB384_383 := Aside0.mk ((by rw [hg]; exact Nat.ne_of_gt (blk_lt (g := gb383) (o := .cells #[.int .i64 a0_0, .slice A0_1 l0_1.length c0_1] 31 (0, 0)) (Bz BK383)) : gb384 ≠ gb383)); replace BK383 := Aside0.mk (blk_below (g := gb383) (o := .cells #[.int .i64 a0_0, .slice A0_1 l0_1.length c0_1] 31 (0, 0)) (Bz BK383) hb); clear hb hbox hg; have hnb20 := NB383_384.out; have hnc20 := NB384_383.out; have hcz21_0 : w19.cell? ⟨gb383, 0, none⟩ = some (.int .i64 a0_0) := (blk_cell BK383.out 0).trans rfl; have hcz21_1 : w19.cell? ⟨gb383, 1, none⟩ = some (.slice A0_1 l0_1.length c0_1) := (blk_cell BK383.out 1).trans rfl; have hfz21_0 := blk_frozen BK383.out 0; have hfz21_1 := blk_frozen BK383.out 1; have hcz22_0 : w19.cell? ⟨gb384, 0, none⟩ = some (.int .i64 a1_0) := (blk_cell BK384.out 0).trans rfl; have hcz22_1 : w19.cell? ⟨gb384, 1, none⟩ = some (.slice A1_1 l1_1.length c1_1) := (blk_cell BK384.out 1).trans rfl; have hfz22_0 := blk_frozen BK384.out 0; have hfz22_1 := blk_frozen BK384.out 1))
 go_ret
 exact ⟨by first | rfl | (simp [errW_none, errW_some] <;> rfl) | (simp [*, errW_none, errW_some] <;> rfl), by exact Lz2 HB GE383 GE384⟩
end Go.Proofs.Ytbcfccdoffbncaa.P
end
section
namespace Go.Proofs.Ytbcfccdoffbncaa.P
open Go.RowKit Go.Proofs.YtbcfccdoffbncaaW.PrintWords Go.Proofs.YtbcfccdoffbncaaW.PrintLast Go.Proofs.YtbcfccdoffbncaaW.PrintMore
attribute [local go_sem] max2_int min2_int max_two min_two max_three min_three max_four min_four
set_option linter.unusedVariables false
set_option linter.unusedSimpArgs false
def laws_markEdgeS.l0 : Nat → List (S67) → Int → Int → Option (Int × (List (S67)))
 | 0, _, _, _ => none
 | k + 1, x0, x1, x5 => if x5 < (x0.length : Int) then (if 0 ≤ x5 then ((some (x0.set (x5 : Int).toNat (⟨x1, (rd_T67 x0 x5).f1⟩ : S67) : List (S67))).bind fun y386 => (laws_markEdgeS.l0 k (y386.set (x5 : Int).toNat (⟨(rd_T67 y386 x5).f0, wrap64 (x1 + 1)⟩ : S67)) (wrap64 ((wrap64 (x1 + 1)) + 1)) (wrap64 (x5 + 1)))) else (none)) else (some (x1, x0))
def laws_markEdgeS.f (k : Nat) (l0 : List (S67)) (a1 : Int) : Option (Int × (List (S67))) := laws_markEdgeS.l0 k l0 a1 0
set_option maxHeartbeats 8000000 in
set_option maxRecDepth 100000 in
theorem laws_markEdgeS.calls (k : Nat) (P0_ : Nat → Prop) (u9000_ : Value) (l0 : List (S67)) (a1 : Int) (r1 : Int) (r2 : List (S67)) (w0 w : World) (hB : Below w0.heap.size w0 w) (ho0 : Kd.R k67 67 w w0.heap.size P0_ u9000_ l0) (h : laws_markEdgeS.f k l0 a1 = some (r1, r2)) :
  Calls Try.prog 63 #[u9000_, .int .i64 a1] w fun e w' => e = .returned (.int .i64 r1) ∧ Kd.R k67 67 w' w0.heap.size (fun k_ => (P0_ k_ ∨ w.heap.size ≤ k_)) u9000_ r2 ∧ Below w0.heap.size w0 w' ∧ Kept w w' (fun k_ => P0_ k_) := by
 have HO0 := Aside0.mk (show Kd.R k67 67 w w0.heap.size (fun k_ => (P0_ k_ ∨ w.heap.size ≤ k_)) u9000_ l0 from Kd.R_mono ho0 (fun k_ hk => (.inl hk)))
 have HK := Aside0.mk (Kept.refl w (fun k_ => P0_ k_))
 have HW0 := Aside0.mk hB.size
 have HB := Aside0.mk hB
 clear hB
 have H : (laws_markEdgeS.l0 k l0 a1 0) = some (r1, r2) := h
 clear h
 have H' := Aside0.mk H
 clear H
 go_enter Try.func63, Try.ntmps63
 go_wp2
 go_loopg [1, 5] k (fun kq v1 v5 w' => ∃ (x0_1 : List (S67)) (x1_1 : Int) (x5_1 : Int), v1 = .int .i64 x1_1 ∧ v5 = .int .i64 x5_1 ∧ Aside0 (laws_markEdgeS.l0 kq x0_1 x1_1 x5_1 = some (r1, r2)) ∧ Aside0 (kq ≤ k) ∧ Aside0 (Kd.R k67 67 w' w0.heap.size (fun k_ => (P0_ k_ ∨ w.heap.size ≤ k_)) u9000_ x0_1) ∧ Aside0 (Kept w w' (fun k_ => P0_ k_)) ∧ Aside0 (Below w0.heap.size w0 w'))
 case atStart => exact ⟨(l0), (a1), (0), (by first | rfl | (simp; done) | (simp [*]; done)), (by first | rfl | (simp; done) | (simp [*]; done)), H', ⟨Nat.le_refl _⟩, ⟨by exact Rz HO0⟩, ⟨by repeat (first | (with_reducible first | exact HK.out | apply Kept.alloc | apply Kept.drewN | apply Kept.drew) | exact HK.out)⟩, ⟨by exact Lz HB⟩⟩
 case round =>
  clear H'
  obtain ⟨x0_1, x1_1, x5_1, rfl, rfl, HA, HK1, HO_0, HK, HB⟩ := hrel
  cases gk with
  | zero => exact absurd HA.out (by simp [laws_markEdgeS.l0])
  | succ k1 =>
   have H := HA.out
   clear HA
   simp only [laws_markEdgeS.l0] at H
   by_cases c3 : x5_1 < (x0_1.length : Int)
   ·rw [if_pos c3] at H
    have c3b0 : decide (x5_1 < (x0_1.length : Int)) = true := decide_eq_true c3
    clear c3
    by_cases c4 : 0 ≤ x5_1
    ·rw [if_pos c4] at H
     have c4b0 : decide (0 ≤ x5_1) = true := decide_eq_true c4
     clear c4
     obtain ⟨y386, hy386⟩ : ∃ y_ : List (S67), y_ = (x0_1.set (x5_1 : Int).toNat (⟨x1_1, (rd_T67 x0_1 x5_1).f1⟩ : S67)) := ⟨_, rfl⟩
     replace H : (laws_markEdgeS.l0 k1 (y386.set (x5_1 : Int).toNat (⟨(rd_T67 y386 x5_1).f0, wrap64 (x1_1 + 1)⟩ : S67)) (wrap64 ((wrap64 (x1_1 + 1)) + 1)) (wrap64 (x5_1 + 1))) = some (r1, r2) := by first | (rw [hy386]; with_reducible exact H) | (have H2_ := (Option.bind_some _ _).symm.trans H; rw [hy386]; with_reducible exact H2_) | (have H2_ := (Option.bind_some _ _).symm.trans H; with_reducible exact H2_) | with_reducible exact H | (rw [hy386]; exact H) | exact H
     have Ny386 := Aside0.mk hy386
     clear hy386
     obtain ⟨y387, hy387⟩ : ∃ y_ : List (S67), y_ = (y386.set (x5_1 : Int).toNat (⟨(rd_T67 y386 x5_1).f0, wrap64 (x1_1 + 1)⟩ : S67)) := ⟨_, rfl⟩
     replace H : (laws_markEdgeS.l0 k1 y387 (wrap64 ((wrap64 (x1_1 + 1)) + 1)) (wrap64 (x5_1 + 1))) = some (r1, r2) := by first | (rw [hy387]; with_reducible exact H) | (have H2_ := (Option.bind_some _ _).symm.trans H; rw [hy387]; with_reducible exact H2_) | (have H2_ := (Option.bind_some _ _).symm.trans H; with_reducible exact H2_) | with_reducible exact H | (rw [hy387]; exact H) | exact H
     have Ny387 := Aside0.mk hy387
     clear hy387
     have H' := Aside0.mk H
     clear H
     obtain ⟨Ao7, co7, eo7⟩ := Kd.R_slice HO_0.out
     subst eo7
     have p5 : 0 ≤ (x5_1 : Int) := of_decide_eq_true (by first | (with_reducible assumption) | assumption)
     have q5 : (x5_1 : Int) < ((x0_1.length : Int) : Int) := of_decide_eq_true (by first | (with_reducible assumption) | assumption)
     obtain ⟨go5, co5, eo5, gb5, gl5, cl5, HG5⟩ := Kd.R_form HO_0.out (by omega)
     (first | cases eo5 | (injection eo5 with ea_ en_ ec_; (first | subst ea_ | (injection ea_ with ea_; subst ea_)); subst ec_; clear en_))
     have GB5 := Aside0.mk gb5
     have GG5 := Aside0.mk HG5
     clear gb5 gl5 HG5
     have HMgo5 := Aside0.mk (show (P0_ go5 ∨ w.heap.size ≤ go5) from (HO_0.out.1 _ rfl))
     obtain ⟨ce5, hcl5, hM5, hcc5, hfr5⟩ := Kd.R_elem HO_0.out z67 (x5_1 : Int) p5 q5
     obtain rfl := k67_openM hM5
     have hx5_0 : wr.cell? ⟨go5, (x5_1 : Int).toNat * 2, none⟩ = some (.int .i64 ((rd_T67 x0_1 x5_1).f0)) := hcc5 0 _ rfl
     have hx5_1 : wr.cell? ⟨go5, (x5_1 : Int).toNat * 2 + 1, none⟩ = some (.int .i64 ((rd_T67 x0_1 x5_1).f1)) := hcc5 1 _ rfl
     have hf5_0 : wr.frozen? ⟨go5, (x5_1 : Int).toNat * 2, none⟩ = false := hfr5 0
     have hf5_1 : wr.frozen? ⟨go5, (x5_1 : Int).toNat * 2 + 1, none⟩ = false := hfr5 1
     clear hcl5 hcc5 hfr5; (try clear hM5)
     replace p5 := eq_true p5
     replace q5 := eq_true q5
     have HX8 := Aside0.mk (show Kd.R k67 67 wr w0.heap.size (fun k_ => (P0_ k_ ∨ w.heap.size ≤ k_)) (.slice (some ⟨go5, 0, none⟩) x0_1.length co7) x0_1 from (Rz HO_0))
     obtain ⟨ce8, hcl8, hM8, hcc8, hfr8⟩ := Kd.R_elem HX8.out z67 (x5_1 : Int) (of_decide_eq_true (by first | (with_reducible assumption) | assumption)) (by have h_ : (x5_1 : Int) < ((x0_1.length : Int) : Int) := of_decide_eq_true (by first | (with_reducible assumption) | assumption); first | exact h_ | (have e_ := (Kd.R_reads' HO_0.out).1; omega) | simpa using h_)
     obtain rfl := k67_openM hM8
     have HP8 := Kd.R_seg HX8.out (x5_1 : Int) (of_decide_eq_true (by first | (with_reducible assumption) | assumption)) (by have h_ : (x5_1 : Int) < ((x0_1.length : Int) : Int) := of_decide_eq_true (by first | (with_reducible assumption) | assumption); first | exact h_ | (have e_ := (Kd.R_reads' HO_0.out).1; omega) | simpa using h_) (seg := [.int .i64 x1_1]) (j := 0) hcl8 hcc8 (show 1 ≤ 2 from by decide) (x' := (⟨x1_1, (rd_T67 x0_1 x5_1).f1⟩ : S67)) (k67_mkM _ _ _ (⟨x1_1, (rd_T67 x0_1 x5_1).f1⟩ : S67) ) (fun _ hk => hk)
     have hx8_0 := hcc8 0 _ rfl
     (try simp only [show (k67).sz = 2 from rfl, Nat.mul_one, Nat.add_zero] at hx8_0)
     have hf8_0 := hfr8 0
     (try simp only [show (k67).sz = 2 from rfl, Nat.mul_one, Nat.add_zero] at hf8_0)
     clear hcl8 hcc8 hfr8; (try clear hM8)
     go_wp2_with (first | ((with_reducible refine gate_store (t := 3) (p := 16) rfl ?_); refine store_event (t := 3) (p := 16) (v := ?vo_w9) (w1 := (wr.setCell ⟨go5, (x5_1 : Int).toNat * 2, none⟩ (.int .i64 x1_1))) ?hg ?ho ?hn ?hr ?_; (case ho => rfl); (case hg => rfl); (case hn => rfl); (case hr => first | (go_simp; done) | (go_simp; rfl)); intro w9 hw; have hg : wr.grownBy w9 (some go5) := (by rw [hw]; exact HP8.2); have hp_ : Kd.R k67 67 w9 w0.heap.size (fun k_ => (P0_ k_ ∨ w.heap.size ≤ k_)) (.slice (some ⟨go5, 0, none⟩) x0_1.length co7) y386 := (by rw [hw, Ny386.out]; exact HP8.1); clear HP8; replace HB := Aside0.mk ((by rw [hw]; exact below_set (HB.out) GB5.out : Below w0.heap.size w0 w9)); replace HK := Aside0.mk (Kept.of_grown (S := (fun k_ => P0_ k_)) hg (by repeat (first | (with_reducible first | exact HK.out | apply Kept.alloc | apply Kept.drewN | apply Kept.drew) | exact HK.out)) (fun k_ e_ => (HO_0.out.1 k_ e_))); replace HO_0 := Aside0.mk (hp_); clear hg hw hp_; have p6 : 0 ≤ (x5_1 : Int) := of_decide_eq_true (by first | (with_reducible assumption) | assumption); have q6 : (x5_1 : Int) < ((x0_1.length : Int) : Int) := of_decide_eq_true (by first | (with_reducible assumption) | assumption); obtain ⟨ce6, hcl6, hM6, hcc6, hfr6⟩ := Kd.R_elem HO_0.out z67 (x5_1 : Int) p6 q6; obtain rfl := k67_openM hM6; have hx6_0 : w9.cell? ⟨go5, (x5_1 : Int).toNat * 2, none⟩ = some (.int .i64 ((rd_T67 y386 x5_1).f0)) := hcc6 0 _ rfl; have hx6_1 : w9.cell? ⟨go5, (x5_1 : Int).toNat * 2 + 1, none⟩ = some (.int .i64 ((rd_T67 y386 x5_1).f1)) := hcc6 1 _ rfl; have hf6_0 : w9.frozen? ⟨go5, (x5_1 : Int).toNat * 2, none⟩ = false := hfr6 0; have hf6_1 : w9.frozen? ⟨go5, (x5_1 : Int).toNat * 2 + 1, none⟩ = false := hfr6 1; clear hcl6 hcc6 hfr6; (try clear hM6); replace p6 := eq_true p6; replace q6 := eq_true q6; have HX10 := Aside0.mk (show Kd.R k67 67 w9 w0.heap.size (fun k_ => (P0_ k_ ∨ w.heap.size ≤ k_)) (.slice (some ⟨go5, 0, none⟩) x0_1.length co7) y386 from (Rz HO_0)); obtain ⟨ce10, hcl10, hM10, hcc10, hfr10⟩ := Kd.R_elem HX10.out z67 (x5_1 : Int) (of_decide_eq_true (by first | (with_reducible assumption) | assumption)) (by have h_ : (x5_1 : Int) < ((x0_1.length : Int) : Int) := of_decide_eq_true (by first | (with_reducible assumption) | assumption); first | exact h_ | (have e_ := (Kd.R_reads' HO_0.out).1; omega) | simpa using h_); obtain rfl := k67_openM hM10; have HP10 := Kd.R_seg HX10.out (x5_1 : Int) (of_decide_eq_true (by first | (with_reducible assumption) | assumption)) (by have h_ : (x5_1 : Int) < ((x0_1.length : Int) : Int) := of_decide_eq_true (by first | (with_reducible assumption) | assumption); first | exact h_ | (have e_ := (Kd.R_reads' HO_0.out).1; omega) | simpa using h_) (seg := [.int .i64 (wrap64 (x1_1 + 1))]) (j := 1) hcl10 hcc10 (show 2 ≤ 2 from by decide) (x' := (⟨(rd_T67 y386 x5_1).f0, wrap64 (x1_1 + 1)⟩ : S67)) (k67_mkM _ _ _ (⟨(rd_T67 y386 x5_1).f0, wrap64 (x1_1 + 1)⟩ : S67) ) (fun _ hk => hk); have hx10_1 := hcc10 1 _ rfl; (try simp only [show (k67).sz = 2 from rfl, Nat.mul_one, Nat.add_zero] at hx10_1); have hf10_1 := hfr10 1; (try simp only [show (k67).sz = 2 from rfl, Nat.mul_one, Nat.add_zero] at hf10_1); clear hcl10 hcc10 hfr10; (try clear hM10)) | ((with_reducible refine gate_store (t := 3) (p := 23) rfl ?_); refine store_event (t := 3) (p := 23) (v := ?vo_w11) (w1 := (w9.setCell ⟨go5, (x5_1 : Int).toNat * 2 + 1, none⟩ (.int .i64 (wrap64 (x1_1 + 1))))) ?hg ?ho ?hn ?hr ?_; (case ho => rfl); (case hg => rfl); (case hn => rfl); (case hr => first | (go_simp; done) | (go_simp; rfl)); intro w11 hw; have hg : w9.grownBy w11 (some go5) := (by rw [hw]; exact HP10.2); have hp_ : Kd.R k67 67 w11 w0.heap.size (fun k_ => (P0_ k_ ∨ w.heap.size ≤ k_)) (.slice (some ⟨go5, 0, none⟩) x0_1.length co7) y387 := (by rw [hw, Ny387.out]; exact HP10.1); clear HP10; replace HB := Aside0.mk ((by rw [hw]; exact below_set (HB.out) GB5.out : Below w0.heap.size w0 w11)); replace HK := Aside0.mk (Kept.of_grown (S := (fun k_ => P0_ k_)) hg (by repeat (first | (with_reducible first | exact HK.out | apply Kept.alloc | apply Kept.drewN | apply Kept.drew) | exact HK.out)) (fun k_ e_ => (HO_0.out.1 k_ e_))); replace HO_0 := Aside0.mk (hp_); clear hg hw hp_))
     go_roundg k1
     case measure => have := HK1.out; omega
     case rel => exact ⟨(y387), (wrap64 ((wrap64 (x1_1 + 1)) + 1)), (wrap64 (x5_1 + 1)), (by first | rfl | (simp; done) | (simp [*]; done)), (by first | rfl | (simp; done) | (simp [*]; done)), H', ⟨by have := HK1.out; omega⟩, ⟨by exact Rz HO_0⟩, ⟨by repeat (first | (with_reducible first | exact HK.out | apply Kept.alloc | apply Kept.drewN | apply Kept.drew) | exact HK.out)⟩, ⟨by exact Lz HB⟩⟩
    rw [if_neg c4] at H
    exact absurd H (by simp)
   rw [if_neg c3] at H
   have c3b0 : decide (x5_1 < (x0_1.length : Int)) = false := decide_eq_false c3
   clear c3
   simp only [Option.some.injEq, Prod.mk.injEq] at H
   obtain ⟨rfl, rfl⟩ := H
   obtain ⟨Ao12, co12, eo12⟩ := Kd.R_slice HO_0.out
   subst eo12
   go_wp2
   go_ret
   exact ⟨by first | rfl | (simp [errW_none, errW_some] <;> rfl) | (simp [*, errW_none, errW_some] <;> rfl), by exact Rz HO_0, by exact Lz HB, by repeat (first | (with_reducible first | exact HK.out | apply Kept.alloc | apply Kept.drewN | apply Kept.drew) | exact HK.out)⟩
end Go.Proofs.Ytbcfccdoffbncaa.P
end
section
namespace Go.Proofs.Ytbcfccdoffbncaa.P
open Go.RowKit Go.Proofs.YtbcfccdoffbncaaW.PrintWords Go.Proofs.YtbcfccdoffbncaaW.PrintLast Go.Proofs.YtbcfccdoffbncaaW.PrintMore
attribute [local go_sem] max2_int min2_int max_two min_two max_three min_three max_four min_four
set_option linter.unusedVariables false
set_option linter.unusedSimpArgs false
def laws_markGraph.f (k : Nat) (a0_0 : Int) (l0_1 : List (S67)) (a1 : Int) : Option (Int × (List (S67))) := (laws_markEdgeS.f k l0_1 a1).bind fun bt389 => (some (bt389.1, bt389.2))
set_option maxHeartbeats 8000000 in
set_option maxRecDepth 100000 in
theorem laws_markGraph.calls (k : Nat) (a0_0 : Int) (P0_1_ : Nat → Prop) (u9000_ : Value) (l0_1 : List (S67)) (a1 : Int) (r1 : Int) (r2 : List (S67)) (w0 w : World) (hB : Below w0.heap.size w0 w) (ho0_1 : Kd.R k67 67 w w0.heap.size P0_1_ u9000_ l0_1) (h : laws_markGraph.f k a0_0 l0_1 a1 = some (r1, r2)) :
  Calls Try.prog 17 #[.agg #[.int .i64 a0_0, u9000_], .int .i64 a1] w fun e w' => e = .returned (.int .i64 r1) ∧ Kd.R k67 67 w' w0.heap.size (fun k_ => (P0_1_ k_ ∨ w.heap.size ≤ k_)) u9000_ r2 ∧ Below w0.heap.size w0 w' ∧ Kept w w' (fun k_ => P0_1_ k_) := by
 have hu31 := Try.underlying31
 have HO0_1 := Aside0.mk (show Kd.R k67 67 w w0.heap.size (fun k_ => (P0_1_ k_ ∨ w.heap.size ≤ k_)) u9000_ l0_1 from Kd.R_mono ho0_1 (fun k_ hk => (.inl hk)))
 have HK := Aside0.mk (Kept.refl w (fun k_ => P0_1_ k_))
 have HW0 := Aside0.mk hB.size
 have HB := Aside0.mk hB
 clear hB
 have H : ((laws_markEdgeS.f k l0_1 a1).bind fun bt389 => (some (bt389.1, bt389.2))) = some (r1, r2) := h
 clear h
 replace H := Option.bind_eq_some_iff.mp H
 obtain ⟨⟨t389, t390⟩, A30, H⟩ := H
 replace H : (some (t389, t390)) = some (r1, r2) := H
 have A3 := Aside0.mk A30
 clear A30
 simp only [Option.some.injEq, Prod.mk.injEq] at H
 obtain ⟨rfl, rfl⟩ := H
 obtain ⟨Ao4, co4, eo4⟩ := Kd.R_slice HO0_1.out
 subst eo4
 go_enter Try.func17, Try.ntmps17
 go_wp2_with (first | ((with_reducible refine gate_dst (N := 2) rfl ?_); refine box_event ?hg (N := 2) ?hd (cs := #[.int .i64 a0_0, .slice Ao4 l0_1.length co4]) (t := 31) ?hr ?_; (case hd => rfl); (case hg => rfl); (case hr => first | (go_simp; done) | (go_simp; rfl)); intro gb388 hg w5 hbox hb; replace HO0_1 := Aside0.mk (Kd.R_below (Rz HO0_1) hb); have BK388 := Aside0.mk (hbox); have GW388 := Aside0.mk ((by rw [hg]; exact (by first | exact HK.out.1 | exact (show Kept w _ (fun k_ => P0_1_ k_) from by repeat (first | (with_reducible first | exact HK.out | apply Kept.alloc | apply Kept.drewN | apply Kept.drew) | exact HK.out)).1) : w.heap.size ≤ gb388)); replace HK := Aside0.mk (Kept.below (S := (fun k_ => P0_1_ k_)) (by repeat (first | (with_reducible first | exact HK.out | apply Kept.alloc | apply Kept.drewN | apply Kept.drew) | exact HK.out)) hb); have GE388 := Aside0.mk ((by rw [hg]; exact (below_size (Lz HB)) : w0.heap.size ≤ gb388)); replace HB := Aside0.mk (below_step (Lz HB) hb); clear hb hbox hg; have hcz6_0 : w5.cell? ⟨gb388, 0, none⟩ = some (.int .i64 a0_0) := (blk_cell BK388.out 0).trans rfl; have hcz6_1 : w5.cell? ⟨gb388, 1, none⟩ = some (.slice Ao4 l0_1.length co4) := (blk_cell BK388.out 1).trans rfl; have hfz6_0 := blk_frozen BK388.out 0; have hfz6_1 := blk_frozen BK388.out 1) | ((with_reducible refine gate_callee (f := 63) rfl ?_); refine goesM_ (some 8) rfl rfl Try.func63 (by kernel_rfl) rfl #[.slice Ao4 l0_1.length co4, .int .i64 a1] rfl ?_; (with_reducible refine (laws_markEdgeS.calls k (fun k_ => some k_ = (.slice Ao4 l0_1.length co4 : Value).ownBlock) (.slice Ao4 l0_1.length co4) l0_1 a1 t389 t390 w0 _ ?side1 ?side2 A3.out).mono ?_); (case side1 => exact Lz1 HB GE388); (case side2 => exact Kd.R_tight rfl HO0_1.out); rintro e w7 ⟨rfl, hy0, hb, hkp⟩; refine ⟨_, rfl, ?_⟩; replace BK388 := Aside0.mk (blk_kept (Bz BK388) hkp (fun hs_ => (fun e_ => (Kd.R_ne HO0_1.out BK388.out (by decide)) e_) hs_)); replace HK := Aside0.mk (Kept.then_ (S := (fun k_ => P0_1_ k_)) (by repeat (first | (with_reducible first | exact HK.out | apply Kept.alloc | apply Kept.drewN | apply Kept.drew | refine Kept.setCell ?_ (.inr GW388.out) _) | exact HK.out)) hkp (fun k_ hs_ => (fun e_ => (HO0_1.out.1 k_ e_.symm)) hs_)); replace HO0_1 := Aside0.mk (Kd.R_reok rfl hy0 (fun k_ e_ => HO0_1.out.1 k_ e_)); replace HB := Aside0.mk (hb); (try clear hb); (try clear hkp); (try clear hy0)))
 go_ret
 exact ⟨by first | rfl | (simp [errW_none, errW_some] <;> rfl) | (simp [*, errW_none, errW_some] <;> rfl), by exact Rz HO0_1, by exact Lz1 HB GE388, by repeat (first | (with_reducible first | exact HK.out | apply Kept.alloc | apply Kept.drewN | apply Kept.drew | refine Kept.setCell ?_ (.inr GW388.out) _) | exact HK.out)⟩
end Go.Proofs.Ytbcfccdoffbncaa.P
end
section
namespace Go.Proofs.Ytbcfccdoffbncaa.P
open Go.RowKit Go.Proofs.YtbcfccdoffbncaaW.PrintWords Go.Proofs.YtbcfccdoffbncaaW.PrintLast Go.Proofs.YtbcfccdoffbncaaW.PrintMore
attribute [local go_sem] max2_int min2_int max_two min_two max_three min_three max_four min_four
set_option linter.unusedVariables false
set_option linter.unusedSimpArgs false
def laws_markIntS.l0 : Nat → List Int → Int → Int → Option (Int × List Int)
 | 0, _, _, _ => none
 | k + 1, x0, x1, x5 => if x5 < (x0.length : Int) then (if 0 ≤ x5 then (laws_markIntS.l0 k (x0.set (x5 : Int).toNat x1) (wrap64 (x1 + 1)) (wrap64 (x5 + 1))) else (none)) else (some (x1, x0))
def laws_markIntS.f (k : Nat) (l0 : List Int) (a1 : Int) : Option (Int × List Int) := laws_markIntS.l0 k l0 a1 0
set_option maxHeartbeats 8000000 in
set_option maxRecDepth 100000 in
theorem laws_markIntS.calls (k : Nat) (P0_ : Nat → Prop) (u9000_ : Value) (l0 : List Int) (a1 : Int) (r1 : Int) (r2 : List Int) (w0 w : World) (hB : Below w0.heap.size w0 w) (ho0 : Kd.R (Kd.int .i64) 3 w w0.heap.size P0_ u9000_ l0) (h : laws_markIntS.f k l0 a1 = some (r1, r2)) :
  Calls Try.prog 18 #[u9000_, .int .i64 a1] w fun e w' => e = .returned (.int .i64 r1) ∧ Kd.R (Kd.int .i64) 3 w' w0.heap.size (fun k_ => (P0_ k_ ∨ w.heap.size ≤ k_)) u9000_ r2 ∧ Below w0.heap.size w0 w' ∧ Kept w w' (fun k_ => P0_ k_) := by
 have HO0 := Aside0.mk (show Kd.R (Kd.int .i64) 3 w w0.heap.size (fun k_ => (P0_ k_ ∨ w.heap.size ≤ k_)) u9000_ l0 from Kd.R_mono ho0 (fun k_ hk => (.inl hk)))
 have HK := Aside0.mk (Kept.refl w (fun k_ => P0_ k_))
 have HW0 := Aside0.mk hB.size
 have HB := Aside0.mk hB
 clear hB
 have H : (laws_markIntS.l0 k l0 a1 0) = some (r1, r2) := h
 clear h
 have H' := Aside0.mk H
 clear H
 go_enter Try.func18, Try.ntmps18
 go_wp2
 go_loopg [1, 5] k (fun kq v1 v5 w' => ∃ (x0_1 : List Int) (x1_1 : Int) (x5_1 : Int), v1 = .int .i64 x1_1 ∧ v5 = .int .i64 x5_1 ∧ Aside0 (laws_markIntS.l0 kq x0_1 x1_1 x5_1 = some (r1, r2)) ∧ Aside0 (kq ≤ k) ∧ Aside0 (Kd.R (Kd.int .i64) 3 w' w0.heap.size (fun k_ => (P0_ k_ ∨ w.heap.size ≤ k_)) u9000_ x0_1) ∧ Aside0 (Kept w w' (fun k_ => P0_ k_)) ∧ Aside0 (Below w0.heap.size w0 w'))
 case atStart => exact ⟨(l0), (a1), (0), (by first | rfl | (simp; done) | (simp [*]; done)), (by first | rfl | (simp; done) | (simp [*]; done)), H', ⟨Nat.le_refl _⟩, ⟨by exact Rz HO0⟩, ⟨by repeat (first | (with_reducible first | exact HK.out | apply Kept.alloc | apply Kept.drewN | apply Kept.drew) | exact HK.out)⟩, ⟨by exact Lz HB⟩⟩
 case round =>
  clear H'
  obtain ⟨x0_1, x1_1, x5_1, rfl, rfl, HA, HK1, HO_0, HK, HB⟩ := hrel
  cases gk with
  | zero => exact absurd HA.out (by simp [laws_markIntS.l0])
  | succ k1 =>
   have H := HA.out
   clear HA
   simp only [laws_markIntS.l0] at H
   by_cases c3 : x5_1 < (x0_1.length : Int)
   ·rw [if_pos c3] at H
    have c3b0 : decide (x5_1 < (x0_1.length : Int)) = true := decide_eq_true c3
    clear c3
    by_cases c4 : 0 ≤ x5_1
    ·rw [if_pos c4] at H
     have c4b0 : decide (0 ≤ x5_1) = true := decide_eq_true c4
     clear c4
     obtain ⟨y391, hy391⟩ : ∃ y_ : List Int, y_ = (x0_1.set (x5_1 : Int).toNat x1_1) := ⟨_, rfl⟩
     replace H : (laws_markIntS.l0 k1 y391 (wrap64 (x1_1 + 1)) (wrap64 (x5_1 + 1))) = some (r1, r2) := by first | (rw [hy391]; with_reducible exact H) | (have H2_ := (Option.bind_some _ _).symm.trans H; rw [hy391]; with_reducible exact H2_) | (have H2_ := (Option.bind_some _ _).symm.trans H; with_reducible exact H2_) | with_reducible exact H | (rw [hy391]; exact H) | exact H
     have Ny391 := Aside0.mk hy391
     clear hy391
     have H' := Aside0.mk H
     clear H
     obtain ⟨Ao6, co6, eo6⟩ := Kd.R_slice HO_0.out
     subst eo6
     have p5 : 0 ≤ (x5_1 : Int) := of_decide_eq_true (by first | (with_reducible assumption) | assumption)
     have q5 : (x5_1 : Int) < ((x0_1.length : Int) : Int) := of_decide_eq_true (by first | (with_reducible assumption) | assumption)
     obtain ⟨go5, co5, eo5, gb5, gl5, cl5, HG5⟩ := Kd.R_form HO_0.out (by omega)
     (first | cases eo5 | (injection eo5 with ea_ en_ ec_; (first | subst ea_ | (injection ea_ with ea_; subst ea_)); subst ec_; clear en_))
     have GB5 := Aside0.mk gb5
     have GG5 := Aside0.mk HG5
     clear gb5 gl5 HG5
     have HMgo5 := Aside0.mk (show (P0_ go5 ∨ w.heap.size ≤ go5) from (HO_0.out.1 _ rfl))
     obtain ⟨hx5_0, hf5_0⟩ := Kd.R_celln 0 HO_0.out (x5_1 : Int) p5 q5
     replace p5 := eq_true p5
     replace q5 := eq_true q5
     have HP7 := Kd.R_putg HO_0.out (x5_1 : Int) x1_1
     go_wp2_with (first | ((with_reducible refine gate_store (t := 3) (p := 15) rfl ?_); refine store_event (t := 3) (p := 15) (v := ?vo_w8) (w1 := (wr.setCell ⟨go5, (x5_1 : Int).toNat, none⟩ (.int .i64 x1_1))) ?hg ?ho ?hn ?hr ?_; (case ho => rfl); (case hg => rfl); (case hn => rfl); (case hr => first | (go_simp; done) | (go_simp; rfl)); intro w8 hw; have hg : wr.grownBy w8 (some go5) := (by rw [hw]; exact HP7.2); have hp_ : Kd.R (Kd.int .i64) 3 w8 w0.heap.size (fun k_ => (P0_ k_ ∨ w.heap.size ≤ k_)) (.slice (some ⟨go5, 0, none⟩) x0_1.length co6) y391 := (by rw [hw, Ny391.out]; exact HP7.1); clear HP7; replace HB := Aside0.mk ((by rw [hw]; exact below_set (HB.out) GB5.out : Below w0.heap.size w0 w8)); replace HK := Aside0.mk (Kept.of_grown (S := (fun k_ => P0_ k_)) hg (by repeat (first | (with_reducible first | exact HK.out | apply Kept.alloc | apply Kept.drewN | apply Kept.drew) | exact HK.out)) (fun k_ e_ => (HO_0.out.1 k_ e_))); replace HO_0 := Aside0.mk (hp_); clear hg hw hp_))
     go_roundg k1
     case measure => have := HK1.out; omega
     case rel => exact ⟨(y391), (wrap64 (x1_1 + 1)), (wrap64 (x5_1 + 1)), (by first | rfl | (simp; done) | (simp [*]; done)), (by first | rfl | (simp; done) | (simp [*]; done)), H', ⟨by have := HK1.out; omega⟩, ⟨by exact Rz HO_0⟩, ⟨by repeat (first | (with_reducible first | exact HK.out | apply Kept.alloc | apply Kept.drewN | apply Kept.drew) | exact HK.out)⟩, ⟨by exact Lz HB⟩⟩
    rw [if_neg c4] at H
    exact absurd H (by simp)
   rw [if_neg c3] at H
   have c3b0 : decide (x5_1 < (x0_1.length : Int)) = false := decide_eq_false c3
   clear c3
   simp only [Option.some.injEq, Prod.mk.injEq] at H
   obtain ⟨rfl, rfl⟩ := H
   obtain ⟨Ao9, co9, eo9⟩ := Kd.R_slice HO_0.out
   subst eo9
   go_wp2
   go_ret
   exact ⟨by first | rfl | (simp [errW_none, errW_some] <;> rfl) | (simp [*, errW_none, errW_some] <;> rfl), by exact Rz HO_0, by exact Lz HB, by repeat (first | (with_reducible first | exact HK.out | apply Kept.alloc | apply Kept.drewN | apply Kept.drew) | exact HK.out)⟩
end Go.Proofs.Ytbcfccdoffbncaa.P
end
section
namespace Go.Proofs.Ytbcfccdoffbncaa.P
open Go.RowKit Go.Proofs.YtbcfccdoffbncaaW.PrintWords Go.Proofs.YtbcfccdoffbncaaW.PrintLast Go.Proofs.YtbcfccdoffbncaaW.PrintMore
attribute [local go_sem] max2_int min2_int max_two min_two max_three min_three max_four min_four
set_option linter.unusedVariables false
set_option linter.unusedSimpArgs false
def laws_heldIntS.l0 : Nat → List Int → Int → Int → Option (Int)
 | 0, _, _, _ => none
 | k + 1, x0, x1, x5 => if x5 < (x0.length : Int) then (if 0 ≤ x5 then (if (rd x0 x5) = x1 then (laws_heldIntS.l0 k x0 (wrap64 (x1 + 1)) (wrap64 (x5 + 1))) else (some (-1))) else (none)) else (some x1)
def laws_heldIntS.f (k : Nat) (l0 : List Int) (a1 : Int) : Option (Int) := laws_heldIntS.l0 k l0 a1 0
set_option maxHeartbeats 8000000 in
set_option maxRecDepth 100000 in
theorem laws_heldIntS.calls (k : Nat) (A0 : Option Addr) (c0 : Nat) (l0 : List Int) (a1 : Int) (r : Int) (w : World) (hr0 : Kd.C (Kd.int .i64) w A0 l0.length l0) (hc0 : l0.length ≤ c0) (h : laws_heldIntS.f k l0 a1 = some r) :
  Calls Try.prog 19 #[.slice A0 l0.length c0, .int .i64 a1] w fun e w' => e = .returned (.int .i64 r) ∧ Drawn0 w w' := by
 have HR0 := Aside0.mk hr0
 have HC0 := Aside0.mk hc0
 clear hr0 hc0
 have H : (laws_heldIntS.l0 k l0 a1 0) = some r := h
 clear h
 have H' := Aside0.mk H
 clear H
 go_enter Try.func19, Try.ntmps19
 go_wp2
 go_loopg [1, 5] k (fun kq v1 v5 w' => ∃ (x1_1 : Int) (x5_1 : Int), v1 = .int .i64 x1_1 ∧ v5 = .int .i64 x5_1 ∧ Aside0 (laws_heldIntS.l0 kq l0 x1_1 x5_1 = some r) ∧ Aside0 (kq ≤ k) ∧ Drawn0 w w')
 case atStart => exact ⟨(a1), (0), (by first | rfl | (simp; done) | (simp [*]; done)), (by first | rfl | (simp; done) | (simp [*]; done)), H', ⟨Nat.le_refl _⟩, by repeat (first | exact Drawn0.refl _ | apply Drawn0.step)⟩
 case round =>
  clear H'
  obtain ⟨x1_1, x5_1, rfl, rfl, HA, HK1, ⟨m1, rfl⟩⟩ := hrel
  cases gk with
  | zero => exact absurd HA.out (by simp [laws_heldIntS.l0])
  | succ k1 =>
   have H := HA.out
   clear HA
   simp only [laws_heldIntS.l0] at H
   by_cases c3 : x5_1 < (l0.length : Int)
   ·rw [if_pos c3] at H
    have c3b0 : decide (x5_1 < (l0.length : Int)) = true := decide_eq_true c3
    clear c3
    by_cases c4 : 0 ≤ x5_1
    ·rw [if_pos c4] at H
     have c4b0 : decide (0 ≤ x5_1) = true := decide_eq_true c4
     clear c4
     by_cases c5 : (rd l0 x5_1) = x1_1
     ·rw [if_pos c5] at H
      have c5b0 : ((rd l0 x5_1) == x1_1) = true := beq_iff_eq.mpr c5
      have c5b1 : ((rd l0 x5_1) != x1_1) = false := bne_eq_false_iff_eq.mpr c5
      clear c5
      have H' := Aside0.mk H
      clear H
      have p392 : 0 ≤ (x5_1 : Int) := of_decide_eq_true (by first | (with_reducible assumption) | assumption)
      have q392 : x5_1 < (l0.length : Int) := of_decide_eq_true (by first | (with_reducible assumption) | assumption)
      obtain ⟨ad392, e392, hx392_0⟩ := Kd.at_int HR0.out x5_1 p392 q392
      cases e392
      replace p392 := eq_true p392
      replace q392 := eq_true q392
      go_wp2
      go_roundg k1
      case measure => have := HK1.out; omega
      case rel => exact ⟨(wrap64 (x1_1 + 1)), (wrap64 (x5_1 + 1)), (by first | rfl | (simp; done) | (simp [*]; done)), (by first | rfl | (simp; done) | (simp [*]; done)), H', ⟨by have := HK1.out; omega⟩, by repeat (first | exact Drawn0.refl _ | apply Drawn0.step)⟩
     rw [if_neg c5] at H
     have c5b0 : ((rd l0 x5_1) == x1_1) = false := beq_eq_false_iff_ne.mpr c5
     have c5b1 : ((rd l0 x5_1) != x1_1) = true := bne_iff_ne.mpr c5
     obtain rfl := Option.some.inj H
     have p392 : 0 ≤ (x5_1 : Int) := of_decide_eq_true (by first | (with_reducible assumption) | assumption)
     have q392 : x5_1 < (l0.length : Int) := of_decide_eq_true (by first | (with_reducible assumption) | assumption)
     obtain ⟨ad392, e392, hx392_0⟩ := Kd.at_int HR0.out x5_1 p392 q392
     cases e392
     replace p392 := eq_true p392
     replace q392 := eq_true q392
     go_wp2
     go_ret
     exact ⟨by first | rfl | (simp; done) | (simp [*]; done), by repeat (first | exact Drawn0.refl _ | apply Drawn0.step)⟩
    rw [if_neg c4] at H
    exact absurd H (by simp)
   rw [if_neg c3] at H
   have c3b0 : decide (x5_1 < (l0.length : Int)) = false := decide_eq_false c3
   clear c3
   obtain rfl := Option.some.inj H
   go_wp2
   go_ret
   exact ⟨by first | rfl | (simp; done) | (simp [*]; done), by repeat (first | exact Drawn0.refl _ | apply Drawn0.step)⟩
end Go.Proofs.Ytbcfccdoffbncaa.P
end
section
set_option linter.unusedVariables false
set_option linter.unusedSimpArgs false
namespace Go.Proofs.Ytbcfccdoffbncaa.Pure
open Go.RowKit Go.Proofs.Ytbcfccdoffbncaa.P Go.Proofs.YtbcfccdoffbncaaW.PrintWords Go.Proofs.YtbcfccdoffbncaaW.PrintLast Go.Proofs.YtbcfccdoffbncaaW.PrintMore Go.Proofs.Ytbcfccdoffbncaa.Base Go.Proofs.Ytbcfccdoffbncaa.Loops
theorem range_build (m : Nat) (F : Nat → Int) (g : Nat → List Int → Int → Option (List Int)) (hend : ∀ x : List Int, Ev (fun k => g k x (m : Int)) x)
    (hstep : ∀ (x : List Int) (i : Nat), i < m → x.length = i → ∀ r, Ev (fun k => g k (x ++ [F i]) ((i + 1 : Nat) : Int)) r → Ev (fun k => g k x (i : Int)) r) :
    Ev (fun k => g k [] 0) ((List.range m).map F) := by
  have main : ∀ (d i : Nat), i + d = m → Ev (fun k => g k ((List.range i).map F) (i : Int)) ((List.range m).map F) := by
    intro d
    induction d with
    | zero => intro i hi; obtain rfl : i = m := by omega
              exact hend _
    | succ d ih =>
      intro i hi
      refine hstep _ i (by omega) (by simp) _ ?_
      have h := ih (i + 1) (by omega)
      rw [List.range_succ, List.map_append] at h
      exact h
  exact main m 0 (by omega)
theorem getD_set0 (x : List Int) (i j : Nat) (c : Int) (hi : i < x.length) : (x.set i c).getD j 0 = if i = j then c else x.getD j 0 := by
  simp only [List.getD_eq_getElem?_getD, List.getElem?_set]
  by_cases e : i = j
  · subst e; simp [hi]
  · simp [e]
theorem list_eq0 {x y : List Int} (h : x.length = y.length) (hu : ∀ u, u < x.length → x.getD u 0 = y.getD u 0) : x = y := by
  refine List.ext_getElem h fun i h1 h2 => ?_
  have := hu i h1
  simp only [List.getD_eq_getElem?_getD, List.getElem?_eq_getElem h1, List.getElem?_eq_getElem h2, Option.getD_some] at this
  exact this
theorem inplace_ev (l R : List Int) (hR : R.length = l.length) (g : Nat → List Int → Int → Option (List Int)) (hend : ∀ x : List Int, x.length = l.length → Ev (fun k => g k x (l.length : Int)) x)
    (hstep : ∀ (x : List Int) (i : Nat), i < l.length → x.length = l.length → x.getD i 0 = l.getD i 0 → ∀ r, Ev (fun k => g k (x.set i (R.getD i 0)) ((i + 1 : Nat) : Int)) r → Ev (fun k => g k x (i : Int)) r) :
    Ev (fun k => g k l 0) R := by
  have main : ∀ (d i : Nat) (x : List Int), i + d = l.length → x.length = l.length → (∀ j, j < i → x.getD j 0 = R.getD j 0) → (∀ j, i ≤ j → x.getD j 0 = l.getD j 0) → Ev (fun k => g k x (i : Int)) R := by
    intro d
    induction d with
    | zero =>
      intro i x hi hx h1 _
      obtain rfl : i = l.length := by omega
      have e : x = R := list_eq0 (by omega) (fun u hu => h1 u (by omega))
      subst e
      exact hend x hx
    | succ d ih =>
      intro i x hi hx h1 h2
      refine hstep x i (by omega) hx (h2 i (Nat.le_refl _)) _ (ih (i + 1) _ (by omega) (by simpa using hx) (fun j hj => ?_) (fun j hj => ?_))
      · rw [getD_set0 _ _ _ _ (by omega)]
        by_cases e : i = j
        · subst e; rw [if_pos rfl]
        · rw [if_neg e]; exact h1 j (by omega)
      · rw [getD_set0 _ _ _ _ (by omega), if_neg (by omega)]
        exact h2 j (by omega)
  exact main l.length 0 l (by omega) rfl (fun j hj => by omega) (fun j _ => rfl)
theorem getD_range (F : Nat → Int) (m i : Nat) (h : i < m) : ((List.range m).map F).getD i 0 = F i := by
  simp [List.getD_eq_getElem?_getD, h]
end Go.Proofs.Ytbcfccdoffbncaa.Pure
end
section
set_option linter.unusedVariables false
set_option linter.unusedSimpArgs false
namespace Go.Proofs.Ytbcfccdoffbncaa.Pure
open Go.RowKit Go.Proofs.Ytbcfccdoffbncaa.P Go.Proofs.YtbcfccdoffbncaaW.PrintWords Go.Proofs.YtbcfccdoffbncaaW.PrintLast Go.Proofs.YtbcfccdoffbncaaW.PrintMore Go.Proofs.Ytbcfccdoffbncaa.Base Go.Proofs.Ytbcfccdoffbncaa.Loops
theorem copyI_eq (l : List Int) (h : l.length < 17592186044416) : impl_copyInts.f l = some l := by
  unfold impl_copyInts.f
  rw [if_pos (by simpa using h)]; rfl
end Go.Proofs.Ytbcfccdoffbncaa.Pure
end
section
set_option linter.unusedVariables false
set_option linter.unusedSimpArgs false
namespace Go.Proofs.Ytbcfccdoffbncaa.Pure
open Go.RowKit Go.Proofs.Ytbcfccdoffbncaa.P Go.Proofs.YtbcfccdoffbncaaW.PrintWords Go.Proofs.YtbcfccdoffbncaaW.PrintLast Go.Proofs.YtbcfccdoffbncaaW.PrintMore Go.Proofs.Ytbcfccdoffbncaa.Base Go.Proofs.Ytbcfccdoffbncaa.Loops
def minP (l : List Int) : Nat → Int
  | 0 => rd l 0
  | i + 1 => mn (minP l i) (rd l (i : Int))
theorem minP_one (l : List Int) : minP l 1 = rd l 0 := by
  simp only [minP]
  unfold mn
  split <;> rfl
def liftL (l : List Int) : List Int := (List.range l.length).map fun i : Nat => wrap64 (l.getD i 0 - minP l l.length)
theorem liftL_len (l : List Int) : (liftL l).length = l.length := by simp [liftL]
theorem min_ev (l : List Int) (h0 : 0 < l.length) (hl : l.length < 4611686018427387904) : Ev (fun k => slices_Min_int_int.f k l) (minP l l.length) := by
  have main : ∀ (d i : Nat), i + d = l.length → Ev (fun k => slices_Min_int_int.l0 k (minP l i) l (i : Int)) (minP l l.length) := by
    intro d
    induction d with
    | zero =>
      intro i hi
      obtain rfl : i = l.length := by omega
      refine ev_succ ?_
      simp only [slices_Min_int_int.l0]
      exact ev_ifn (by omega) (Ev.now _)
    | succ d ih =>
      intro i hi
      have h1 := ih (i + 1) (by omega)
      simp only [minP] at h1
      refine ev_succ ?_
      simp only [slices_Min_int_int.l0, wrap_succ (show i < 4611686018427387904 by omega)]
      exact ev_ift (by omega) (ev_ift (by omega) h1)
  simp only [slices_Min_int_int.f]
  refine ev_ifn (by omega) ?_
  have := main (l.length - 1) 1 (by omega)
  rw [minP_one] at this
  exact this
theorem fromZero_ev (l : List Int) (h0 : 0 < l.length) (hl : l.length < 17592186044416) : Ev (fun k => impl_fromZero.f k l) (liftL l) := by
  simp only [impl_fromZero.f, copyI_eq l hl, Option.bind_some]
  refine Ev.bind (min_ev l h0 (by omega)) ?_
  refine inplace_ev l (liftL l) (liftL_len l) (fun k x i => impl_fromZero.l0 k x (minP l l.length) (l.length : Int) i) (fun x hx => ev_succ ?_) (fun x i hi hx hg r hr => ev_succ ?_)
  · simp only [impl_fromZero.l0]
    exact ev_ifn (by omega) (Ev.now _)
  · have e1 : wrap64 (rd x i - minP l l.length) = (liftL l).getD i 0 := by
      unfold liftL
      rw [getD_range _ _ _ hi, ← hg]; rfl
    simp only [impl_fromZero.l0, wrap_succ (show i < 4611686018427387904 by omega), e1, Int.toNat_natCast]
    exact ev_ift (by omega) (ev_ift (by omega) (ev_ift (by omega) hr))
end Go.Proofs.Ytbcfccdoffbncaa.Pure
end
section
set_option linter.unusedVariables false
set_option linter.unusedSimpArgs false
namespace Go.Proofs.Ytbcfccdoffbncaa.Pure
open Go.RowKit Go.Proofs.Ytbcfccdoffbncaa.P Go.Proofs.YtbcfccdoffbncaaW.PrintWords Go.Proofs.YtbcfccdoffbncaaW.PrintLast Go.Proofs.YtbcfccdoffbncaaW.PrintMore Go.Proofs.Ytbcfccdoffbncaa.Base Go.Proofs.Ytbcfccdoffbncaa.Loops
theorem specLift_ev (l : List Int) (h0 : 0 < l.length) (hl : l.length < 17592186044416) : Ev (fun k => spec_l06Lift.f k l) (liftL l) := by
  have two : Ev (fun k => spec_l06Lift.l1 k (minP l l.length) [] l (l.length : Int) 0) (liftL l) := by
    refine range_build l.length (fun i : Nat => wrap64 (l.getD i 0 - minP l l.length)) (fun k x i => spec_l06Lift.l1 k (minP l l.length) x l (l.length : Int) i) (fun x => ev_succ ?_) (fun x i hi hx r h => ev_succ ?_)
    · simp only [spec_l06Lift.l1]
      exact ev_ifn (by omega) (Ev.now _)
    · have e1 : wrap64 (rd l i - minP l l.length) = wrap64 (l.getD i 0 - minP l l.length) := rfl
      simp only [spec_l06Lift.l1, wrap_succ (show i < 4611686018427387904 by omega), e1]
      exact ev_ift (by omega) (ev_ift (by omega) (ev_ift (by omega) (ev_ift (by omega) h)))
  have main : ∀ (d i : Nat), i + d = l.length → Ev (fun k => spec_l06Lift.l0 k l (minP l i) l (l.length : Int) (i : Int)) (liftL l) := by
    intro d
    induction d with
    | zero =>
      intro i hi
      obtain rfl : i = l.length := by omega
      refine ev_succ ?_
      simp only [spec_l06Lift.l0]
      exact ev_ifn (by omega) two
    | succ d ih =>
      intro i hi
      have h1 := ih (i + 1) (by omega)
      simp only [minP] at h1
      refine ev_succ ?_
      simp only [spec_l06Lift.l0, wrap_succ (show i < 4611686018427387904 by omega)]
      exact ev_ift (by omega) (ev_ift (by omega) (ev_ift (by omega) h1))
  simp only [spec_l06Lift.f]
  exact ev_ift (by omega) (main l.length 0 (by omega))
end Go.Proofs.Ytbcfccdoffbncaa.Pure
end
section
namespace Go.Proofs.Ytbcfccdoffbncaa.P
open Go.RowKit Go.Proofs.YtbcfccdoffbncaaW.PrintWords Go.Proofs.YtbcfccdoffbncaaW.PrintLast Go.Proofs.YtbcfccdoffbncaaW.PrintMore
attribute [local go_sem] max2_int min2_int max_two min_two max_three min_three max_four min_four
set_option linter.unusedVariables false
set_option linter.unusedSimpArgs false
def impl_isVertex.f (k : Nat) (a0_0 : Int) (l0_1 : List (S67)) (a1 : Int) : Option (Bool) := (impl_GraphOk.f k a0_0 l0_1).bind fun t501 => (if t501 = true then ((impl_within.f a1 0 (wrap64 (a0_0 - 1))).bind fun t502 => (some t502)) else (some false))
set_option maxHeartbeats 8000000 in
set_option maxRecDepth 100000 in
theorem impl_isVertex.calls (k : Nat) (a0_0 : Int) (A0_1 : Option Addr) (c0_1 : Nat) (l0_1 : List (S67)) (a1 : Int) (r : Bool) (w : World) (hr0_1 : Kd.C k67 w A0_1 l0_1.length l0_1) (hc0_1 : l0_1.length ≤ c0_1) (h : impl_isVertex.f k a0_0 l0_1 a1 = some r) :
  Calls Try.prog 72 #[.agg #[.int .i64 a0_0, .slice A0_1 l0_1.length c0_1], .int .i64 a1] w fun e w' => e = .returned (.bool r) ∧ Below w.heap.size w w' := by
 have hu31 := Try.underlying31
 have HR0_1 := Aside0.mk hr0_1
 have HC0_1 := Aside0.mk hc0_1
 clear hr0_1 hc0_1
 have HB := Aside0.mk (Below.refl w.heap.size w)
 have H : ((impl_GraphOk.f k a0_0 l0_1).bind fun t501 => (if t501 = true then ((impl_within.f a1 0 (wrap64 (a0_0 - 1))).bind fun t502 => (some t502)) else (some false))) = some r := h
 clear h
 replace H := Option.bind_eq_some_iff.mp H
 obtain ⟨t501, A30, H⟩ := H
 replace H : (if t501 = true then ((impl_within.f a1 0 (wrap64 (a0_0 - 1))).bind fun t502 => (some t502)) else (some false)) = some r := H
 have A3 := Aside0.mk A30
 clear A30
 by_cases c4 : t501 = true
 ·subst c4
  have H1 : ((impl_within.f a1 0 (wrap64 (a0_0 - 1))).bind fun t502 => (some t502)) = some r := by rw [if_pos rfl] at H; exact H
  clear H
  have H := H1
  clear H1
  replace H := Option.bind_eq_some_iff.mp H
  obtain ⟨t502, A50, H⟩ := H
  replace H : (some t502) = some r := H
  have A5 := Aside0.mk A50
  clear A50
  obtain rfl := Option.some.inj H
  go_enter Try.func72, Try.ntmps72
  go_wp2_with (first | ((with_reducible refine gate_dst (N := 2) rfl ?_); refine box_event ?hg (N := 2) ?hd (cs := #[.int .i64 a0_0, .slice A0_1 l0_1.length c0_1]) (t := 31) ?hr ?_; (case hd => rfl); (case hg => rfl); (case hr => first | (go_simp; done) | (go_simp; rfl)); intro gb500 hg w6 hbox hb; have BK500 := Aside0.mk (hbox); have GW500 := Aside0.mk ((by rw [hg]; exact (below_size (Lz HB)) : w.heap.size ≤ gb500)); have GE500 := Aside0.mk ((by rw [hg]; exact (below_size (Lz HB)) : w.heap.size ≤ gb500)); replace HB := Aside0.mk (below_step (Lz HB) hb); clear hb hbox hg; have hcz7_0 : w6.cell? ⟨gb500, 0, none⟩ = some (.int .i64 a0_0) := (blk_cell BK500.out 0).trans rfl; have hcz7_1 : w6.cell? ⟨gb500, 1, none⟩ = some (.slice A0_1 l0_1.length c0_1) := (blk_cell BK500.out 1).trans rfl; have hfz7_0 := blk_frozen BK500.out 0; have hfz7_1 := blk_frozen BK500.out 1) | ((with_reducible refine gate_callee (f := 50) rfl ?_); refine goesM_ (some 6) rfl rfl Try.func50 (by kernel_rfl) rfl #[.agg #[.int .i64 a0_0, .slice A0_1 l0_1.length c0_1]] rfl ?_; (with_reducible refine (impl_GraphOk.calls k a0_0 _ _ l0_1 true _ ?side1 ?side2 A3.out).mono ?_); (case side1 => exact Cz ((Kd.C_below HR0_1.out HB.out))); (case side2 => exact HC0_1.out); rintro e w8 ⟨rfl, hb⟩; refine ⟨_, rfl, ?_⟩; replace BK500 := Aside0.mk (blk_below (g := gb500) (o := .cells #[.int .i64 a0_0, .slice A0_1 l0_1.length c0_1] 31 (0, 0)) (Bz BK500) hb); replace HB := Aside0.mk (below_step (by exact Lz1 HB GE500) hb); (try clear hb); (try clear hb2); (try clear hk); (try clear hi); have hcz9_0 : w8.cell? ⟨gb500, 0, none⟩ = some (.int .i64 a0_0) := (blk_cell BK500.out 0).trans rfl; have hcz9_1 : w8.cell? ⟨gb500, 1, none⟩ = some (.slice A0_1 l0_1.length c0_1) := (blk_cell BK500.out 1).trans rfl; have hfz9_0 := blk_frozen BK500.out 0; have hfz9_1 := blk_frozen BK500.out 1) | (go_at_call 81; (with_reducible refine (impl_within.calls a1 0 (wrap64 (a0_0 - 1)) t502 _ A5.out).mono ?_); rintro e w' ⟨rfl, ⟨nd, rfl⟩⟩))
  go_ret
  exact ⟨by first | rfl | (simp [errW_none, errW_some] <;> rfl) | (simp [*, errW_none, errW_some] <;> rfl), by exact Lz1 HB GE500⟩
 replace c4 := Bool.eq_false_iff.mpr c4
 subst c4
 have H1 : (some false) = some r := by rw [if_neg (show ¬ (false = true) by decide)] at H; exact H
 clear H
 have H := H1
 clear H1
 obtain rfl := Option.some.inj H
 go_enter Try.func72, Try.ntmps72
 go_wp2_with (first | ((with_reducible refine gate_dst (N := 2) rfl ?_); refine box_event ?hg (N := 2) ?hd (cs := #[.int .i64 a0_0, .slice A0_1 l0_1.length c0_1]) (t := 31) ?hr ?_; (case hd => rfl); (case hg => rfl); (case hr => first | (go_simp; done) | (go_simp; rfl)); intro gb500 hg w10 hbox hb; have BK500 := Aside0.mk (hbox); have GW500 := Aside0.mk ((by rw [hg]; exact (below_size (Lz HB)) : w.heap.size ≤ gb500)); have GE500 := Aside0.mk ((by rw [hg]; exact (below_size (Lz HB)) : w.heap.size ≤ gb500)); replace HB := Aside0.mk (below_step (Lz HB) hb); clear hb hbox hg; have hcz11_0 : w10.cell? ⟨gb500, 0, none⟩ = some (.int .i64 a0_0) := (blk_cell BK500.out 0).trans rfl; have hcz11_1 : w10.cell? ⟨gb500, 1, none⟩ = some (.slice A0_1 l0_1.length c0_1) := (blk_cell BK500.out 1).trans rfl; have hfz11_0 := blk_frozen BK500.out 0; have hfz11_1 := blk_frozen BK500.out 1) | ((with_reducible refine gate_callee (f := 50) rfl ?_); refine goesM_ (some 6) rfl rfl Try.func50 (by kernel_rfl) rfl #[.agg #[.int .i64 a0_0, .slice A0_1 l0_1.length c0_1]] rfl ?_; (with_reducible refine (impl_GraphOk.calls k a0_0 _ _ l0_1 false _ ?side1 ?side2 A3.out).mono ?_); (case side1 => exact Cz ((Kd.C_below HR0_1.out HB.out))); (case side2 => exact HC0_1.out); rintro e w12 ⟨rfl, hb⟩; refine ⟨_, rfl, ?_⟩; replace BK500 := Aside0.mk (blk_below (g := gb500) (o := .cells #[.int .i64 a0_0, .slice A0_1 l0_1.length c0_1] 31 (0, 0)) (Bz BK500) hb); replace HB := Aside0.mk (below_step (by exact Lz1 HB GE500) hb); (try clear hb); (try clear hb2); (try clear hk); (try clear hi)))
 go_ret
 exact ⟨by first | rfl | (simp [errW_none, errW_some] <;> rfl) | (simp [*, errW_none, errW_some] <;> rfl), by exact Lz1 HB GE500⟩
end Go.Proofs.Ytbcfccdoffbncaa.P
end
section
set_option linter.unusedVariables false
set_option linter.unusedSimpArgs false
namespace Go.Proofs.Ytbcfccdoffbncaa.Pure
open Go.RowKit Go.Proofs.Ytbcfccdoffbncaa.P Go.Proofs.YtbcfccdoffbncaaW.PrintWords Go.Proofs.YtbcfccdoffbncaaW.PrintLast Go.Proofs.YtbcfccdoffbncaaW.PrintMore Go.Proofs.Ytbcfccdoffbncaa.Base Go.Proofs.Ytbcfccdoffbncaa.Loops
def cvE (e : S96) : S67 := ⟨e.f0, e.f1⟩
theorem rd_IE {l : List S67} {i : Nat} {a : S67} {r : List S67} (h : l.drop i = a :: r) : rd_T67 l (i : Int) = a := by
  unfold rd_T67
  rw [Int.toNat_natCast]
  exact get_drop h _
theorem rd_LE {l : List S96} {i : Nat} {a : S96} {r : List S96} (h : l.drop i = a :: r) : rd_T96 l (i : Int) = a := by
  unfold rd_T96
  rw [Int.toNat_natCast]
  exact get_drop h _
theorem szGraph_eq (a : Int) (l : List S96) (hl : l.length ≤ maxLen) (n : Int) (h0 : 0 ≤ n) (h1 : n ≤ 1048576) : laws_szGraph.f a l n = some (if (l.length : Int) ≤ n then n - l.length else -1) := by
  unfold maxLen at hl
  unfold laws_szGraph.f laws_szEdgeS.f
  have e : wrap64 (n - (l.length : Int)) = n - l.length := by unfold wrap64; omega
  rw [e]
  by_cases h : (l.length : Int) ≤ n
  · rw [if_neg (by omega), if_pos h]
    simp only [Option.bind_some]
    rw [if_neg (by omega)]
  · rw [if_pos (by omega), if_neg h]
    rfl
theorem toEdgeS_l0 (l : List S96) (hl : l.length < 4611686018427387904) : ∀ (d k i : Nat) (x : List S67), i + d = l.length → x.length = l.length → x.take i = (l.map cvE).take i → d < k → laws_toEdgeS.l0 k l x (i : Int) = some (l.map cvE) := by
  intro d
  induction d with
  | zero =>
    intro k i x hi hx ht hk
    obtain ⟨k, rfl⟩ := succ_of_lt hk
    simp only [laws_toEdgeS.l0]
    rw [if_neg (by omega), fill_end (x := x) (y := l.map cvE) (by simpa using hx) (by rw [List.length_map, show l.length = i by omega]; exact ht)]
  | succ d ih =>
    intro k i x hi hx ht hk
    obtain ⟨k, rfl⟩ := succ_of_lt hk
    have hlt : i < l.length := by omega
    have hd := List.drop_eq_getElem_cons hlt
    simp only [laws_toEdgeS.l0, laws_toEdge.f, Option.bind_some]
    rw [if_pos (by omega), if_pos (by omega), if_pos (by omega), wrap_succ (by omega), rd_LE hd, Int.toNat_natCast]
    refine ih k (i + 1) _ (by omega) (by simpa using hx) ?_ (by omega)
    refine fill_step (rest := (l.map cvE).drop (i + 1)) (by simpa using hx) ht ?_
    rw [List.drop_eq_getElem_cons (by simpa using hlt)]
    simp [cvE]
theorem toGraph_ev (a : Int) (l : List S96) (hl : l.length ≤ 1048576) : Ev (fun k => laws_toGraph.f k a l) (a, l.map cvE) := by
  refine ev_k l.length fun k hk => ?_
  unfold laws_toGraph.f laws_toEdgeS.f
  rw [if_pos (by omega), if_pos (by omega), show (0 : Int) = ((0 : Nat) : Int) from rfl, toEdgeS_l0 l (by omega) l.length k 0 _ (by omega) (by simp) (by simp) hk]
  rfl
theorem eqEdgeS_ev (l : List S67) (hl : l.length < 4611686018427387904) : Ev (fun k => laws_eqEdgeS.f k l l) true := by
  simp only [laws_eqEdgeS.f, if_true]
  refine ev_list0 l (fun k (_ : Unit) i => laws_eqEdgeS.l0 k l l i) (fun _ _ => true) (fun _ _ => True) (fun s _ => ev1 fun k => ?_) (fun s a rest i hlt hd _ => Or.inr ⟨(), trivial, rfl, 0, fun k _ => ?_⟩) () trivial
  · simp only [laws_eqEdgeS.l0]
    rw [if_neg (by omega)]
  · simp only [laws_eqEdgeS.l0, laws_eqEdge.f, if_true, Option.bind_some]
    rw [if_pos (by omega), if_pos (by omega), if_pos (by omega), wrap_succ (by omega)]
theorem eqGraph_ev (a : Int) (l : List S67) (hl : l.length < 4611686018427387904) : Ev (fun k => laws_eqGraph.f k a l a l) true := by
  simp only [laws_eqGraph.f, if_true]
  refine Ev.bind (eqEdgeS_ev l hl) ?_
  simp only [if_true]
  exact Ev.now _
theorem map_cv_length (l : List S96) : (l.map cvE).length = l.length := List.length_map ..
end Go.Proofs.Ytbcfccdoffbncaa.Pure
end
section
set_option linter.unusedVariables false
set_option linter.unusedSimpArgs false
namespace Go.Proofs.Ytbcfccdoffbncaa.Pure
open Go.RowKit Go.Proofs.Ytbcfccdoffbncaa.P Go.Proofs.YtbcfccdoffbncaaW.PrintWords Go.Proofs.YtbcfccdoffbncaaW.PrintLast Go.Proofs.YtbcfccdoffbncaaW.PrintMore Go.Proofs.Ytbcfccdoffbncaa.Base Go.Proofs.Ytbcfccdoffbncaa.Loops
def multN (es : List S67) (a b : Int) : Nat := es.countP fun e => decide (e.f0 = mn a b) && decide (e.f1 = mx a b)
def multI (n : Int) (es : List S67) (a b : Int) : Int := if 0 ≤ a ∧ a < n ∧ 0 ≤ b ∧ b < n ∧ a ≠ b then (multN es a b : Int) else 0
theorem mult_loop (es : List S67) (hl : es.length < 4611686018427387904) (a b : Int) (g : Nat → Int → Int → Option Int)
    (hg : ∀ k c i, g (k + 1) c i = if i < (es.length : Int) then (if 0 ≤ i then (if i < (es.length : Int) then (if ((rd_T67 es i).f0) = (mn a b) then (if ((rd_T67 es i).f1) = (mx a b) then (g k (wrap64 (c + 1)) (wrap64 (i + 1))) else (g k c (wrap64 (i + 1)))) else (g k c (wrap64 (i + 1)))) else (none)) else (none)) else (some c)) :
    Ev (fun k => g k 0 0) (multN es a b : Int) := by
  have h := ev_list es (fun k (c : Int) i => g k c i) (fun c r => c + (r.countP fun e => decide (e.f0 = mn a b) && decide (e.f1 = mx a b) : Nat)) (fun c r => 0 ≤ c ∧ c + r.length ≤ es.length) (fun s _ => ev1 fun k => ?_) (fun s e rest i hlt hd hinv => Or.inr ?_) es 0 0 (by omega) rfl (by simp)
  · simpa [multN] using h
  · rw [hg, if_neg (by omega)]; simp
  · simp only [List.length_cons] at hinv
    by_cases hc : e.f0 = mn a b ∧ e.f1 = mx a b
    · refine ⟨s + 1, by omega, ?_, 0, fun k _ => ?_⟩
      · rw [List.countP_cons_of_pos (by simp [hc])]; omega
      · rw [hg, if_pos (by omega), if_pos (by omega), if_pos (by omega), rd_IE hd, if_pos hc.1, if_pos hc.2, wrap_succ (by omega), wrap_id (by omega) (by omega)]
    · refine ⟨s, by omega, ?_, 0, fun k _ => ?_⟩
      · rw [List.countP_cons_of_neg (by simp; intro h1 h2; exact hc ⟨h1, h2⟩)]
      · rw [hg, if_pos (by omega), if_pos (by omega), if_pos (by omega), rd_IE hd, wrap_succ (by omega)]
        by_cases h1 : e.f0 = mn a b
        · rw [if_pos h1, if_neg (fun h2 => hc ⟨h1, h2⟩)]
        · rw [if_neg h1]
theorem spec_mult_ev (n : Int) (es : List S67) (hl : es.length < 4611686018427387904) (a b : Int) : Ev (fun k => spec_Multiplicity.f k n es a b) (multI n es a b) := by
  have hv : ∀ v, spec_l02Vert.f n es v = some (decide (0 ≤ v ∧ v < n)) := by
    intro v
    unfold spec_l02Vert.f
    by_cases h : v ≥ 0
    · rw [if_pos h]; simp; omega
    · rw [if_neg h]; simp; omega
  simp only [spec_Multiplicity.f, hv, Option.bind_some]
  have off : ∀ q : Bool, q = true → Ev (fun k => spec_Multiplicity.j0 k a b 0 q n es) 0 := fun q hq => ev1 fun k => by
    simp only [spec_Multiplicity.j0, hq, if_true]
  by_cases ha : 0 ≤ a ∧ a < n
  · by_cases hb : 0 ≤ b ∧ b < n
    · simp only [ha, hb, and_self, decide_true, if_true]
      by_cases hab : a = b
      · rw [multI, if_neg (by omega)]
        exact off _ (by simp [hab])
      · rw [multI, if_pos ⟨ha.1, ha.2, hb.1, hb.2, hab⟩]
        obtain ⟨K, hK⟩ := mult_loop es hl a b (fun k c i => spec_Multiplicity.l0 k a b c es (es.length : Int) i) (fun k c i => by simp only [spec_Multiplicity.l0])
        refine ⟨K + 1, fun k hk => ?_⟩
        obtain ⟨m, rfl⟩ : ∃ m, k = m + 1 := ⟨k - 1, by omega⟩
        have h2 := hK m (by omega)
        dsimp only at h2 ⊢
        simp only [spec_Multiplicity.j0]
        rw [if_neg (by simp [hab]), h2]
    · simp only [ha, and_self, decide_true, if_true, decide_eq_true_eq, if_neg hb]
      rw [multI, if_neg (by omega)]
      exact off _ rfl
  · simp only [decide_eq_true_eq, if_neg ha]
    rw [multI, if_neg (by omega)]
    exact off _ rfl
theorem impl_mult_ev (n : Int) (es : List S67) (hl : es.length < 4611686018427387904) (a b : Int) : Ev (fun k => impl_Multiplicity.f k n es a b) (multI n es a b) := by
  simp only [impl_Multiplicity.f]
  have off : ∀ q : Bool, q = true → Ev (fun k => impl_Multiplicity.j0 k a b q n es) 0 := fun q hq => ev1 fun k => by
    simp only [impl_Multiplicity.j0, hq, if_true]
  have e1 : mn a b < 0 ↔ (a < 0 ∨ b < 0) := by unfold mn; split <;> omega
  have e2 : mx a b ≥ n ↔ (a ≥ n ∨ b ≥ n) := by unfold mx; split <;> omega
  by_cases h1 : mn a b < 0
  · simp only [if_pos h1]
    rw [multI, if_neg (by omega)]
    exact off _ rfl
  · by_cases h2 : mx a b ≥ n
    · simp only [if_neg h1, if_pos h2]
      rw [multI, if_neg (by omega)]
      exact off _ rfl
    · simp only [if_neg h1, if_neg h2]
      by_cases hab : a = b
      · rw [multI, if_neg (by omega)]
        exact off _ (by simp [hab])
      · rw [multI, if_pos (by omega)]
        obtain ⟨K, hK⟩ := mult_loop es hl a b (fun k c i => impl_Multiplicity.l0 k a b c es (es.length : Int) i) (fun k c i => by simp only [impl_Multiplicity.l0])
        refine ⟨K + 1, fun k hk => ?_⟩
        obtain ⟨m, rfl⟩ : ∃ m, k = m + 1 := ⟨k - 1, by omega⟩
        have h2 := hK m (by omega)
        dsimp only at h2 ⊢
        simp only [impl_Multiplicity.j0]
        rw [if_neg (by simp [hab]), h2]
end Go.Proofs.Ytbcfccdoffbncaa.Pure
end
section
set_option linter.unusedVariables false
set_option linter.unusedSimpArgs false
namespace Go.Proofs.Ytbcfccdoffbncaa.Pure
open Go.RowKit Go.Proofs.Ytbcfccdoffbncaa.P Go.Proofs.YtbcfccdoffbncaaW.PrintWords Go.Proofs.YtbcfccdoffbncaaW.PrintLast Go.Proofs.YtbcfccdoffbncaaW.PrintMore Go.Proofs.Ytbcfccdoffbncaa.Base Go.Proofs.Ytbcfccdoffbncaa.Loops
def edgesB (n : Int) (es : List S67) : Bool := decide (1 ≤ n) && decide (n ≤ 6) && decide (es.length ≤ 12) && es.all fun e => decide (0 ≤ e.f0) && decide (e.f0 < e.f1) && decide (e.f1 < n)
theorem impl_edgesOk_ev (n : Int) (es : List S67) (hl : es.length < 4611686018427387904) : Ev (fun k => impl_EdgesOk.f k n es) (edgesB n es) := by
  have hw : impl_within.f n 1 6 = some (decide (1 ≤ n) && decide (n ≤ 6)) := by
    unfold impl_within.f
    by_cases h : n ≥ 1
    · rw [if_pos h]; simp [h]
    · rw [if_neg h]; simp [h]
  simp only [impl_EdgesOk.f, hw, Option.bind_some]
  by_cases hn : 1 ≤ n ∧ n ≤ 6
  · by_cases h12 : es.length ≤ 12
    · have loop : Ev (fun k => impl_EdgesOk.l0 k es (es.length : Int) 0 n es) (es.all fun e => decide (0 ≤ e.f0) && decide (e.f0 < e.f1) && decide (e.f1 < n)) := by
        refine ev_listE es (fun k (_ : Unit) i => impl_EdgesOk.l0 k es (es.length : Int) i n es) (fun _ r => r.all fun e => decide (0 ≤ e.f0) && decide (e.f0 < e.f1) && decide (e.f1 < n)) (fun _ _ => True)
          (fun s _ => ev1 fun k => ?_) (fun s a rest i hlt hd _ => ?_) () trivial
        · simp only [impl_EdgesOk.l0]
          rw [if_neg (by omega)]; rfl
        · have bad : a.f0 < 0 ∨ a.f0 ≥ a.f1 ∨ a.f1 ≥ n → ((a :: rest).all fun e => decide (0 ≤ e.f0) && decide (e.f0 < e.f1) && decide (e.f1 < n)) = false := by
            intro h; simp only [List.all_cons, Bool.and_eq_false_iff, decide_eq_false_iff_not]; omega
          have stop : Ev (fun k => impl_EdgesOk.j2 k es (es.length : Int) (i : Int) true n es) false := ev1 fun k => by simp only [impl_EdgesOk.j2, if_true]
          by_cases h1 : a.f0 < 0
          · refine Or.inl (ev_succ ?_)
            simp only [impl_EdgesOk.l0, rd_IE hd]
            rw [bad (by omega)]
            exact ev_ift (by omega) (ev_ift (by omega) (ev_ift (by omega) (ev_ift h1 stop)))
          by_cases h2 : a.f0 ≥ a.f1
          · refine Or.inl (ev_succ ?_)
            simp only [impl_EdgesOk.l0, rd_IE hd]
            rw [bad (by omega)]
            exact ev_ift (by omega) (ev_ift (by omega) (ev_ift (by omega) (ev_ifn h1 (ev_ift h2 stop))))
          by_cases h3 : a.f1 ≥ n
          · refine Or.inl (ev_succ ?_)
            simp only [impl_EdgesOk.l0, rd_IE hd]
            rw [bad (by omega), decide_eq_true h3]
            exact ev_ift (by omega) (ev_ift (by omega) (ev_ift (by omega) (ev_ifn h1 (ev_ifn h2 stop))))
          refine Or.inr ⟨(), trivial, ?_, fun r hr => ev_succ ?_⟩
          · simp; omega
          · simp only [impl_EdgesOk.l0, rd_IE hd, decide_eq_false h3]
            refine ev_ift (by omega) (ev_ift (by omega) (ev_ift (by omega) (ev_ifn h1 (ev_ifn h2 (ev_succ ?_)))))
            simp only [impl_EdgesOk.j2, Bool.false_eq_true, if_false, wrap_succ (show i < 4611686018427387904 by omega)]
            exact hr
      obtain ⟨K, hK⟩ := loop
      dsimp only at hK
      refine ⟨K + 1, fun k hk => ?_⟩
      obtain ⟨m, rfl⟩ : ∃ m, k = m + 1 := ⟨k - 1, by omega⟩
      have := hK m (by omega)
      simp only [hn.1, hn.2, decide_true, Bool.and_self, if_true, impl_EdgesOk.j0]
      rw [if_neg (by simp; omega), this]
      simp [edgesB, hn, h12]
    · refine ev1 fun k => ?_
      simp only [hn.1, hn.2, decide_true, Bool.and_self, if_true, impl_EdgesOk.j0]
      rw [if_pos (by simp; omega)]
      simp [edgesB, h12]
  · refine ev1 fun k => ?_
    rw [if_neg (by simp; omega)]
    simp only [impl_EdgesOk.j0, if_true]
    simp [edgesB]
    intro a b
    exact absurd ⟨a, b⟩ hn
theorem spec_edgesOk_ev (n : Int) (es : List S67) (hl : es.length < 4611686018427387904) : Ev (fun k => spec_EdgesOk.f k n es) (edgesB n es) := by
  have hw : ∀ a b c : Int, spec_l01In.f a b c = some (decide (b ≤ a) && decide (a ≤ c)) := by
    intro a b c
    unfold spec_l01In.f
    by_cases h : a ≥ b
    · rw [if_pos h]; simp [h]
    · rw [if_neg h]; simp [h]
  simp only [spec_EdgesOk.f, hw, Option.bind_some]
  by_cases hn : 1 ≤ n ∧ n ≤ 6
  · have hn1 : wrap64 (n - 1) = n - 1 := by unfold wrap64; omega
    by_cases h12 : es.length ≤ 12
    · have loop : Ev (fun k => spec_EdgesOk.l0 k es (es.length : Int) 0 n es) (es.all fun e => decide (0 ≤ e.f0) && decide (e.f0 < e.f1) && decide (e.f1 < n)) := by
        refine ev_list0 es (fun k (_ : Unit) i => spec_EdgesOk.l0 k es (es.length : Int) i n es) (fun _ r => r.all fun e => decide (0 ≤ e.f0) && decide (e.f0 < e.f1) && decide (e.f1 < n)) (fun _ _ => True)
          (fun s _ => ev1 fun k => ?_) (fun s a rest i hlt hd _ => ?_) () trivial
        · simp only [spec_EdgesOk.l0]
          rw [if_neg (by omega)]; rfl
        · by_cases h1 : 0 ≤ a.f0 ∧ a.f0 ≤ n - 1
          · have e1 : wrap64 (a.f0 + 1) = a.f0 + 1 := by unfold wrap64; omega
            by_cases h2 : a.f0 + 1 ≤ a.f1 ∧ a.f1 ≤ n - 1
            · refine Or.inr ⟨(), trivial, ?_, 0, fun k _ => ?_⟩
              · simp; omega
              · simp only [spec_EdgesOk.l0, rd_IE hd, hw, hn1, e1, Option.bind_some]
                rw [if_pos (by omega), if_pos (by omega), if_pos (by omega), if_pos (by simp; omega), if_pos (by simp; omega), wrap_succ (by omega)]
            · refine Or.inl (ev1 fun k => ?_)
              simp only [spec_EdgesOk.l0, rd_IE hd, hw, hn1, e1, Option.bind_some]
              rw [if_pos (by omega), if_pos (by omega), if_pos (by omega), if_pos (by simp; omega), if_neg (by simp; omega)]
              simp; omega
          · refine Or.inl (ev1 fun k => ?_)
            simp only [spec_EdgesOk.l0, rd_IE hd, hw, hn1, Option.bind_some]
            rw [if_pos (by omega), if_pos (by omega), if_pos (by omega), if_neg (by simp; omega)]
            simp; omega
      obtain ⟨K, hK⟩ := loop
      dsimp only at hK
      refine ⟨K + 1, fun k hk => ?_⟩
      obtain ⟨m, rfl⟩ : ∃ m, k = m + 1 := ⟨k - 1, by omega⟩
      have := hK m (by omega)
      simp only [hn.1, hn.2, decide_true, Bool.and_self, if_true, spec_EdgesOk.j0]
      rw [if_neg (by simp; omega), this]
      simp [edgesB, hn, h12]
    · refine ev1 fun k => ?_
      simp only [hn.1, hn.2, decide_true, Bool.and_self, if_true, spec_EdgesOk.j0]
      rw [if_pos (by simp; omega)]
      simp [edgesB, h12]
  · refine ev1 fun k => ?_
    rw [if_neg (by simp; omega)]
    simp only [spec_EdgesOk.j0, if_true]
    simp [edgesB]
    intro a b
    exact absurd ⟨a, b⟩ hn
end Go.Proofs.Ytbcfccdoffbncaa.Pure
end
section
set_option linter.unusedVariables false
set_option linter.unusedSimpArgs false
namespace Go.Proofs.Ytbcfccdoffbncaa.Pure
open Go.RowKit Go.Proofs.Ytbcfccdoffbncaa.P Go.Proofs.YtbcfccdoffbncaaW.PrintWords Go.Proofs.YtbcfccdoffbncaaW.PrintLast Go.Proofs.YtbcfccdoffbncaaW.PrintMore Go.Proofs.Ytbcfccdoffbncaa.Base Go.Proofs.Ytbcfccdoffbncaa.Bits Go.Proofs.Ytbcfccdoffbncaa.Loops
def SortedE (es : List S67) : Prop := ∀ i, i + 1 < es.length → ¬ ((es.getD (i + 1) z67).f0 < (es.getD i z67).f0 ∨ ((es.getD (i + 1) z67).f0 = (es.getD i z67).f0 ∧ (es.getD (i + 1) z67).f1 < (es.getD i z67).f1))
def ConnE (n : Int) (es : List S67) : Prop := ∀ P : Int → Prop, P 0 → (∀ e ∈ es, P e.f0 ↔ P e.f1) → ∀ v, 0 ≤ v → v < n → P v
def GraphP (n : Int) (es : List S67) : Prop := edgesB n es = true ∧ SortedE es ∧ ConnE n es
theorem rdE_nat (es : List S67) (i : Nat) : rd_T67 es (i : Int) = es.getD i z67 := by unfold rd_T67; rw [Int.toNat_natCast]
theorem edgesB_facts {n : Int} {es : List S67} (h : edgesB n es = true) : 1 ≤ n ∧ n ≤ 6 ∧ es.length ≤ 12 ∧ ∀ e ∈ es, 0 ≤ e.f0 ∧ e.f0 < e.f1 ∧ e.f1 < n := by
  simp only [edgesB, Bool.and_eq_true, decide_eq_true_eq, List.all_eq_true] at h
  exact ⟨h.1.1.1, h.1.1.2, h.1.2, fun e he => ⟨(h.2 e he).1.1, (h.2 e he).1.2, (h.2 e he).2⟩⟩
theorem compare_eq (a0 a1 b0 b1 : Int) : ∃ c, impl_compareEdges.f a0 a1 b0 b1 = some c ∧ (c < 0 ↔ a0 < b0 ∨ (a0 = b0 ∧ a1 < b1)) := by
  have hc : ∀ x y : Int, cmp_Compare_int.f x y = some (if x < y then -1 else if x > y then 1 else 0) := by
    intro x y
    unfold cmp_Compare_int.f cmp_isNaN_int.f
    simp only [Option.bind_some, bne_self_eq_false, Bool.false_eq_true, if_false]
    by_cases h1 : x < y
    · rw [if_pos h1, if_pos h1]
    · rw [if_neg h1, if_neg h1]
      by_cases h2 : x > y
      · rw [if_pos h2, if_pos h2]
      · rw [if_neg h2, if_neg h2]
  unfold impl_compareEdges.f
  simp only [hc, Option.bind_some]
  by_cases h1 : a0 < b0
  · rw [if_pos h1, if_neg (by decide)]
    exact ⟨_, rfl, by omega⟩
  · by_cases h2 : a0 > b0
    · rw [if_neg h1, if_pos h2, if_neg (by decide)]
      exact ⟨_, rfl, by omega⟩
    · rw [if_neg h1, if_neg h2, if_pos rfl]
      refine ⟨_, rfl, ?_⟩
      by_cases h3 : a1 < b1
      · rw [if_pos h3]; omega
      · rw [if_neg h3]
        split <;> omega
theorem impl_sorted_ev (es : List S67) (hl : es.length < 4611686018427387904) : ∃ b : Bool, Ev (fun k => slices_IsSortedFunc_Edge.f k es) b ∧ (b = true ↔ SortedE es) := by
  have main : ∀ i : Nat, i < es.length → ∃ b : Bool, Ev (fun k => slices_IsSortedFunc_Edge.l0 k es (i : Int)) b ∧ (b = true ↔ ∀ j, j < i → ¬ ((es.getD (j + 1) z67).f0 < (es.getD j z67).f0 ∨ ((es.getD (j + 1) z67).f0 = (es.getD j z67).f0 ∧ (es.getD (j + 1) z67).f1 < (es.getD j z67).f1))) := by
    intro i
    induction i with
    | zero =>
      intro _
      refine ⟨true, ev1 fun k => ?_, by simp⟩
      simp only [slices_IsSortedFunc_Edge.l0]
      rw [if_neg (by omega)]
    | succ i ih =>
      intro hi
      obtain ⟨b, ⟨K, hb⟩, hiff⟩ := ih (by omega)
      have ew : wrap64 (((i + 1 : Nat) : Int) - 1) = (i : Int) := by unfold wrap64; omega
      obtain ⟨c, hc, hneg⟩ := compare_eq (es.getD (i + 1) z67).f0 (es.getD (i + 1) z67).f1 (es.getD i z67).f0 (es.getD i z67).f1
      by_cases h : c < 0
      · refine ⟨false, ev1 fun k => ?_, ?_⟩
        · simp only [slices_IsSortedFunc_Edge.l0, ew, rdE_nat, hc, Option.bind_some]
          rw [if_pos (by omega), if_pos (by omega), if_pos (by omega), if_pos (by omega), if_pos (by omega), if_pos h]
        · simp only [Bool.false_eq_true, false_iff]
          intro hall
          exact hall i (by omega) (hneg.1 h)
      · refine ⟨b, ⟨K + 1, fun k hk => ?_⟩, ?_⟩
        · obtain ⟨m, rfl⟩ : ∃ m, k = m + 1 := ⟨k - 1, by omega⟩
          have h2 := hb m (by omega)
          dsimp only at h2 ⊢
          simp only [slices_IsSortedFunc_Edge.l0, ew, rdE_nat, hc, Option.bind_some]
          rw [if_pos (by omega), if_pos (by omega), if_pos (by omega), if_pos (by omega), if_pos (by omega), if_neg h, h2]
        · rw [hiff]
          constructor
          · intro hall j hj
            by_cases e : j = i
            · subst e; exact fun hh => h (hneg.2 hh)
            · exact hall j (by omega)
          · exact fun hall j hj => hall j (by omega)
  simp only [slices_IsSortedFunc_Edge.f]
  by_cases h0 : es.length = 0
  · refine ⟨true, ev1 fun k => ?_, ?_⟩
    · simp only [slices_IsSortedFunc_Edge.l0]
      rw [if_neg (by unfold wrap64; omega)]
    · simp only [true_iff]
      intro i hi
      omega
  · obtain ⟨b, hb, hiff⟩ := main (es.length - 1) (by omega)
    have ew : wrap64 ((es.length : Int) - 1) = ((es.length - 1 : Nat) : Int) := by unfold wrap64; omega
    rw [ew]
    refine ⟨b, hb, ?_⟩
    rw [hiff]
    exact ⟨fun h i hi => h i (by omega), fun h i hi => h i (by omega)⟩
def toN (e : S67) : Nat × Nat := (e.f0.toNat, e.f1.toNat)
theorem conn_l1 (n : Nat) (es : List S67) (hn : n ≤ 6) (he : ∀ e ∈ es, 0 ≤ e.f0 ∧ e.f0 < e.f1 ∧ e.f1 < n) (x8 x9 : Int) (r : Bool) (hl : es.length < 4611686018427387904) :
    ∀ (rest : List S67) (i : Nat) (M : Nat), i ≤ es.length → es.drop i = rest → M < 2 ^ n → Ev (fun k => impl_connected.l0 k n es ((rnd (rest.map toN) M : Nat) : Int) x8 (wrap64 (x9 + 1))) r →
      Ev (fun k => impl_connected.l1 k n es (M : Int) x8 x9 es (es.length : Int) (i : Int)) r := by
  intro rest
  induction rest with
  | nil =>
    intro i M hi hd hM h
    have := drop_nil hd
    obtain ⟨K, hK⟩ := h
    refine ⟨K + 1, fun k hk => ?_⟩
    obtain ⟨m, rfl⟩ : ∃ m, k = m + 1 := ⟨k - 1, by omega⟩
    simp only [impl_connected.l1]
    rw [if_neg (by omega)]
    exact hK m (by omega)
  | cons e rest ih =>
    intro i M hi hd hM h
    have hlt := drop_lt hd
    have hmem : e ∈ es := by
      have : e ∈ es.drop i := by rw [hd]; simp
      exact List.mem_of_mem_drop this
    obtain ⟨h0, h1, h2⟩ := he e hmem
    obtain ⟨a, ha⟩ : ∃ a : Nat, e.f0 = a := ⟨e.f0.toNat, by omega⟩
    obtain ⟨b, hb⟩ : ∃ b : Nat, e.f1 = b := ⟨e.f1.toNat, by omega⟩
    have hte : toN e = (a, b) := by simp [toN, ha, hb]
    have hM62 : M < 2 ^ 62 := Nat.lt_of_lt_of_le hM (Nat.pow_le_pow_right (by decide) (by omega))
    have hlt' := upd_lt M (a, b) n hM (by show a < n; omega) (by show b < n; omega)
    rw [List.map_cons, hte] at h
    obtain ⟨K, hK⟩ := ih (i + 1) (upd M (a, b)) (by omega) (drop_next hd) hlt' h
    refine ⟨K + 1, fun k hk => ?_⟩
    obtain ⟨m, rfl⟩ : ∃ m, k = m + 1 := ⟨k - 1, by omega⟩
    have h3 := hK m (by omega)
    dsimp only at h3 ⊢
    simp only [impl_connected.l1, rd_IE hd, ha, hb, bit_of M a hM62 (by omega), bit_of M b hM62 (by omega), or_two M a b hM62 (by omega) (by omega)]
    rw [if_pos (by omega), if_pos (by omega), if_pos (by omega), if_pos (by omega), wrap_succ (by omega)]
    unfold upd at h3
    by_cases ta : M.testBit a = true
    · rw [if_pos (by simp [ta]), if_pos (by omega)]
      rw [if_pos (by simp [ta])] at h3
      exact h3
    · by_cases tb : M.testBit b = true
      · rw [if_neg (by simp [ta]), if_pos (by omega), if_pos (by simp [tb])]
        rw [if_pos (by simp [tb])] at h3
        exact h3
      · rw [if_neg (by simp [ta]), if_pos (by omega), if_neg (by simp [tb])]
        rw [if_neg (by simp [ta, tb])] at h3
        exact h3
theorem toN_lt {n : Nat} {es : List S67} (he : ∀ e ∈ es, 0 ≤ e.f0 ∧ e.f0 < e.f1 ∧ e.f1 < n) : ∀ x ∈ es.map toN, x.1 < n ∧ x.2 < n := by
  intro x hx
  obtain ⟨e, hm, rfl⟩ := List.mem_map.1 hx
  have := he e hm
  simp only [toN]
  omega
theorem impl_connected_ev (n : Nat) (es : List S67) (hn0 : 0 < n) (hn : n ≤ 6) (he : ∀ e ∈ es, 0 ≤ e.f0 ∧ e.f0 < e.f1 ∧ e.f1 < n) (hl : es.length < 4611686018427387904) :
    Ev (fun k => impl_connected.f k n es) (decide (iter (es.map toN) n 1 = 2 ^ n - 1)) := by
  have main : ∀ (d : Nat) (x9 M : Nat), x9 + d = n → M < 2 ^ n → Ev (fun k => impl_connected.l0 k n es (M : Int) n (x9 : Int)) (decide (iter (es.map toN) d M = 2 ^ n - 1)) := by
    intro d
    induction d with
    | zero =>
      intro x9 M hx hM
      refine ev1 fun k => ?_
      simp only [impl_connected.l0, iter]
      rw [if_neg (by omega), if_pos (by omega), shl_nat n (by omega)]
      have : wrap64 (((2 ^ n : Nat) : Int) - 1) = ((2 ^ n - 1 : Nat) : Int) := by
        have h1 : 2 ^ n ≤ 2 ^ 6 := Nat.pow_le_pow_right (by decide) hn
        have h2 : 0 < 2 ^ n := Nat.pow_pos (by decide)
        unfold wrap64
        omega
      rw [this]
      have e : ((M : Int) == ((2 ^ n - 1 : Nat) : Int)) = decide (M = 2 ^ n - 1) := by
        generalize 2 ^ n - 1 = q
        rw [Bool.eq_iff_iff, beq_iff_eq, decide_eq_true_eq]
        omega
      rw [e]
      rfl
    | succ d ih =>
      intro x9 M hx hM
      have h1 := ih (x9 + 1) (rnd (es.map toN) M) (by omega) (rnd_lt _ n M hM (toN_lt he))
      have h2 := conn_l1 n es hn he n x9 _ hl es 0 M (by omega) rfl hM (by rw [wrap_succ (by omega)]; exact h1)
      obtain ⟨K, hK⟩ := h2
      refine ⟨K + 1, fun k hk => ?_⟩
      obtain ⟨m, rfl⟩ : ∃ m, k = m + 1 := ⟨k - 1, by omega⟩
      have h3 := hK m (by omega)
      dsimp only [iter] at h3 ⊢
      simp only [impl_connected.l0]
      rw [if_pos (by omega)]
      exact h3
  exact main n 0 1 (by omega) (Nat.one_lt_two_pow (by omega))
theorem full_iff (n : Nat) (es : List S67) (hn0 : 0 < n) (he : ∀ e ∈ es, 0 ≤ e.f0 ∧ e.f0 < e.f1 ∧ e.f1 < n) : iter (es.map toN) n 1 = 2 ^ n - 1 ↔ ConnE n es := by
  rw [iter_full (es.map toN) n hn0 (toN_lt he)]
  constructor
  · intro h P h0 hP v hv0 hv
    obtain ⟨u, rfl⟩ : ∃ u : Nat, v = u := ⟨v.toNat, by omega⟩
    refine h (fun u => P u) h0 (fun x hx => ?_) u (by omega)
    obtain ⟨e, hm, rfl⟩ := List.mem_map.1 hx
    have hb := he e hm
    simp only [toN]
    rw [show ((e.f0.toNat : Nat) : Int) = e.f0 by omega, show ((e.f1.toNat : Nat) : Int) = e.f1 by omega]
    exact hP e hm
  · intro h P h0 hP v hv
    have := h (fun u => P u.toNat) h0 (fun e hm => hP (toN e) (List.mem_map.2 ⟨e, hm, rfl⟩)) v (by omega) (by omega)
    simpa using this
theorem impl_graphOk_iff (n : Int) (es : List S67) (hl : es.length < 4611686018427387904) : ∃ b : Bool, Ev (fun k => impl_GraphOk.f k n es) b ∧ (b = true ↔ GraphP n es) := by
  have h1 := impl_edgesOk_ev n es hl
  simp only [impl_GraphOk.f]
  by_cases hb : edgesB n es = true
  · obtain ⟨f1, f2, f3, f4⟩ := edgesB_facts hb
    obtain ⟨m, rfl⟩ : ∃ m : Nat, n = m := ⟨n.toNat, by omega⟩
    obtain ⟨b, h2, hs⟩ := impl_sorted_ev es hl
    rw [hb] at h1
    cases b with
    | false =>
      refine ⟨false, Ev.bind h1 ?_, ?_⟩
      · simp only [if_true]
        refine Ev.bind h2 ?_
        simp only [Bool.false_eq_true, if_false]
        exact Ev.now _
      · simp only [Bool.false_eq_true, false_iff] at hs ⊢
        exact fun h => hs h.2.1
    | true =>
      refine ⟨decide (iter (es.map toN) m 1 = 2 ^ m - 1), Ev.bind h1 ?_, ?_⟩
      · simp only [if_true]
        refine Ev.bind h2 ?_
        simp only [if_true]
        refine Ev.bind (impl_connected_ev m es (by omega) (by omega) f4 hl) ?_
        exact Ev.now _
      · rw [decide_eq_true_eq, full_iff m es (by omega) f4]
        simp only [true_iff] at hs
        exact ⟨fun h => ⟨hb, hs, h⟩, fun h => h.2.2⟩
  · refine ⟨false, Ev.bind h1 ?_, ?_⟩
    · simp only [hb]
      exact Ev.now _
    · simp only [Bool.false_eq_true, false_iff]
      exact fun h => hb h.1
end Go.Proofs.Ytbcfccdoffbncaa.Pure
end
section
set_option linter.unusedVariables false
set_option linter.unusedSimpArgs false
namespace Go.Proofs.Ytbcfccdoffbncaa.Pure
open Go.RowKit Go.Proofs.Ytbcfccdoffbncaa.P Go.Proofs.YtbcfccdoffbncaaW.PrintWords Go.Proofs.YtbcfccdoffbncaaW.PrintLast Go.Proofs.YtbcfccdoffbncaaW.PrintMore Go.Proofs.Ytbcfccdoffbncaa.Base Go.Proofs.Ytbcfccdoffbncaa.Bits Go.Proofs.Ytbcfccdoffbncaa.Loops
theorem has_ev (l : List Int) (v : Int) (hl : l.length < 4611686018427387904) : Ev (fun k => spec_l02Has.f k l v) (decide (v ∈ l)) := by
  simp only [spec_l02Has.f]
  refine ev_list0 l (fun k (_ : Unit) i => spec_l02Has.l0 k v l (l.length : Int) i) (fun _ r => decide (v ∈ r)) (fun _ _ => True) (fun s _ => ev1 fun k => ?_) (fun s a rest i hlt hd _ => ?_) () trivial
  · simp only [spec_l02Has.l0]
    rw [if_neg (by omega)]; simp
  · by_cases h : a = v
    · refine Or.inl (ev1 fun k => ?_)
      simp only [spec_l02Has.l0, rd_drop hd]
      rw [if_pos (by omega), if_pos (by omega), if_pos (by omega), if_pos h]
      simp [h]
    · refine Or.inr ⟨(), trivial, ?_, 0, fun k _ => ?_⟩
      · simp [Ne.symm h]
      · simp only [spec_l02Has.l0, rd_drop hd]
        rw [if_pos (by omega), if_pos (by omega), if_pos (by omega), if_neg h, wrap_succ (by omega)]
def RInv (n : Nat) (es : List S67) (q : List Int) : Prop :=
  q.Nodup ∧ (∀ v ∈ q, 0 ≤ v ∧ v < n) ∧ (0 : Int) ∈ q ∧ ∀ P : Int → Prop, P 0 → (∀ e ∈ es, P e.f0 ↔ P e.f1) → ∀ v ∈ q, P v
theorem rinv_len {n : Nat} {es : List S67} {q : List Int} (h : RInv n es q) : q.length ≤ n := by
  have := List.Nodup.length_le_of_subset h.1 (l₂ := (List.range n).map fun i : Nat => (i : Int)) (fun v hv => by
    have hb := h.2.1 v hv
    exact List.mem_map.2 ⟨v.toNat, by simp; omega, by omega⟩)
  simpa using this
theorem rinv_add {n : Nat} {es : List S67} {q : List Int} (h : RInv n es q) {u v : Int} {e : S67} (he : e ∈ es) (hb : 0 ≤ e.f0 ∧ e.f0 < e.f1 ∧ e.f1 < n) (hu : u ∈ q) (huv : (u = e.f0 ∧ v = e.f1) ∨ (u = e.f1 ∧ v = e.f0)) (hv : v ∉ q) : RInv n es (q ++ [v]) := by
  refine ⟨?_, fun x hx => ?_, by simp [h.2.2.1], fun P h0 hP x hx => ?_⟩
  · rw [List.nodup_append]
    refine ⟨h.1, by simp, fun a ha b hb' => ?_⟩
    simp at hb'
    subst hb'
    intro e'
    subst e'
    exact hv ha
  · rcases List.mem_append.1 hx with hx | hx
    · exact h.2.1 x hx
    · simp at hx
      omega
  · rcases List.mem_append.1 hx with hx | hx
    · exact h.2.2.2 P h0 hP x hx
    · simp at hx
      subst hx
      have := h.2.2.2 P h0 hP u hu
      rcases huv with ⟨h1, h2⟩ | ⟨h1, h2⟩
      · rw [h2]; exact (hP e he).1 (h1 ▸ this)
      · rw [h2]; exact (hP e he).2 (h1 ▸ this)
theorem get_mem_append {q : List Int} {i : Nat} (h : i < q.length) (v : Int) : rd (q ++ [v]) (i : Int) = rd q (i : Int) := by
  rw [rd_nat q i h, rd_nat (q ++ [v]) i (by simp; omega), List.getElem_append_left h]
theorem reach_step (n : Nat) (es : List S67) (q : List Int) (pos i : Nat) (e : S67) (rest : List S67) (hd : es.drop i = e :: rest) (hne : e.f0 ≠ e.f1) (hpos : pos < q.length) (hq : q.length ≤ 6) (hl : es.length < 4611686018427387904) (r : List Int)
    (h : Ev (fun k => spec_l02Reach.l1 k (if e.f0 = rd q pos ∧ e.f1 ∉ q then q ++ [e.f1] else if e.f1 = rd q pos ∧ e.f0 ∉ q then q ++ [e.f0] else q) (pos : Int) es (es.length : Int) ((i + 1 : Nat) : Int) n es) r) :
    Ev (fun k => spec_l02Reach.l1 k q (pos : Int) es (es.length : Int) (i : Int) n es) r := by
  have hlt := drop_lt hd
  have b1 := has_ev q e.f1 (by omega)
  have tail : ∀ q' : List Int, pos < q'.length → q'.length ≤ 7 →
      Ev (fun k => spec_l02Reach.l1 k (if e.f1 = rd q' pos ∧ e.f0 ∉ q' then q' ++ [e.f0] else q') (pos : Int) es (es.length : Int) ((i + 1 : Nat) : Int) n es) r →
      Ev (fun k => spec_l02Reach.j3 k q' (pos : Int) es (es.length : Int) (i : Int) n es e.f0 e.f1) r := by
    intro q' hp' hq' h'
    have b2 := has_ev q' e.f0 (by omega)
    refine ev_succ ?_
    simp only [spec_l02Reach.j3, wrap_succ (show i < 4611686018427387904 by omega)]
    refine ev_ift (by omega) (ev_ift (by omega) ?_)
    by_cases c1 : e.f1 = rd q' pos
    · refine ev_ift c1 (Ev.bind b2 ?_)
      by_cases m0 : e.f0 ∈ q'
      · rw [if_neg (fun hh => hh.2 m0)] at h'
        exact ev_ift (by simp [m0]) h'
      · rw [if_pos ⟨c1, m0⟩] at h'
        exact ev_ifn (by simp [m0]) (ev_ift (by omega) h')
    · rw [if_neg (fun hh => c1 hh.1)] at h'
      exact ev_ifn c1 h'
  refine ev_succ ?_
  simp only [spec_l02Reach.l1, rd_IE hd]
  refine ev_ift (by omega) (ev_ift (by omega) (ev_ift (by omega) (ev_ift (by omega) (ev_ift (by omega) ?_))))
  by_cases c0 : e.f0 = rd q pos
  · have c1 : ¬ e.f1 = rd q pos := fun hh => hne (c0.trans hh.symm)
    refine ev_ift c0 (Ev.bind b1 (ev_succ ?_))
    simp only [spec_l02Reach.j2]
    by_cases m1 : e.f1 ∈ q
    · rw [if_neg (fun hh => hh.2 m1), if_neg (fun hh => c1 hh.1)] at h
      refine ev_ifn (by simp [m1]) (tail q hpos (by omega) ?_)
      rw [if_neg (fun hh => c1 hh.1)]
      exact h
    · rw [if_pos ⟨c0, m1⟩] at h
      refine ev_ift (by simp [m1]) (ev_ift (by omega) (tail (q ++ [e.f1]) (by simp; omega) (by simp; omega) ?_))
      rw [get_mem_append hpos, if_neg (fun hh => c1 hh.1)]
      exact h
  · refine ev_ifn c0 (ev_succ ?_)
    simp only [spec_l02Reach.j2]
    rw [if_neg (fun hh => c0 hh.1)] at h
    exact ev_ifn (by simp) (tail q hpos (by omega) h)
def Done (es : List S67) (q : List Int) (pos : Nat) : Prop := ∀ j, j < pos → ∀ e ∈ es, (e.f0 = rd q j → e.f1 ∈ q) ∧ (e.f1 = rd q j → e.f0 ∈ q)
theorem done_add {es : List S67} {q : List Int} {pos : Nat} (h : Done es q pos) (hp : pos ≤ q.length) (v : Int) : Done es (q ++ [v]) pos := by
  intro j hj e he
  rw [get_mem_append (by omega)]
  have := h j hj e he
  exact ⟨fun hh => List.mem_append_left _ (this.1 hh), fun hh => List.mem_append_left _ (this.2 hh)⟩
theorem reach_inner (n : Nat) (hn : n ≤ 6) (es : List S67) (he : ∀ e ∈ es, 0 ≤ e.f0 ∧ e.f0 < e.f1 ∧ e.f1 < n) (hl : es.length < 4611686018427387904) (pos : Nat)
    (next : ∀ q, RInv n es q → Done es q (pos + 1) → pos < q.length → ∃ r, Ev (fun k => spec_l02Reach.l0 k q ((pos + 1 : Nat) : Int) n es) r ∧ RInv n es r ∧ Done es r r.length) :
    ∀ (rest : List S67) (i : Nat) (q : List Int), i ≤ es.length → es.drop i = rest → RInv n es q → Done es q pos → pos < q.length →
      (∀ e ∈ es.take i, (e.f0 = rd q pos → e.f1 ∈ q) ∧ (e.f1 = rd q pos → e.f0 ∈ q)) →
      ∃ r, Ev (fun k => spec_l02Reach.l1 k q (pos : Int) es (es.length : Int) (i : Int) n es) r ∧ RInv n es r ∧ Done es r r.length := by
  intro rest
  induction rest with
  | nil =>
    intro i q hi hd hinv hdone hpos hpart
    have hge := drop_nil hd
    have hlen := rinv_len hinv
    rw [List.take_of_length_le hge] at hpart
    obtain ⟨r, ⟨K, hK⟩, h1, h2⟩ := next q hinv (fun j hj => by
      by_cases e : j = pos
      · subst e; exact hpart
      · exact hdone j (by omega)) hpos
    refine ⟨r, ⟨K + 1, fun k hk => ?_⟩, h1, h2⟩
    obtain ⟨m, rfl⟩ : ∃ m, k = m + 1 := ⟨k - 1, by omega⟩
    have h3 := hK m (by omega)
    dsimp only at h3 ⊢
    simp only [spec_l02Reach.l1]
    rw [if_neg (by omega), wrap_succ (by omega), h3]
  | cons e rest ih =>
    intro i q hi hd hinv hdone hpos hpart
    have hlt := drop_lt hd
    have hmem : e ∈ es := by
      have : e ∈ es.drop i := by rw [hd]; simp
      exact List.mem_of_mem_drop this
    have hb := he e hmem
    have hlen := rinv_len hinv
    have hx : rd q pos ∈ q := by rw [rd_nat q pos hpos]; exact List.getElem_mem _
    have htake : es.take (i + 1) = es.take i ++ [e] := take_drop hd
    have step := reach_step n es q pos i e rest hd (by omega) hpos (by omega) hl
    by_cases c0 : e.f0 = rd q pos ∧ e.f1 ∉ q
    · obtain ⟨r, hr, h1, h2⟩ := ih (i + 1) (q ++ [e.f1]) (by omega) (drop_next hd) (rinv_add hinv hmem hb hx (Or.inl ⟨c0.1.symm, rfl⟩) c0.2) (done_add hdone (by omega) _) (by simp; omega) (fun x hx' => by
        rw [get_mem_append hpos]
        rw [htake] at hx'
        rcases List.mem_append.1 hx' with hx' | hx'
        · have := hpart x hx'
          exact ⟨fun hh => List.mem_append_left _ (this.1 hh), fun hh => List.mem_append_left _ (this.2 hh)⟩
        · simp at hx'
          subst hx'
          exact ⟨fun _ => by simp, fun hh => absurd (c0.1.trans hh.symm) (by omega)⟩)
      refine ⟨r, step r ?_, h1, h2⟩
      simp only [if_pos c0]
      exact hr
    · by_cases c1 : e.f1 = rd q pos ∧ e.f0 ∉ q
      · obtain ⟨r, hr, h1, h2⟩ := ih (i + 1) (q ++ [e.f0]) (by omega) (drop_next hd) (rinv_add hinv hmem hb hx (Or.inr ⟨c1.1.symm, rfl⟩) c1.2) (done_add hdone (by omega) _) (by simp; omega) (fun x hx' => by
          rw [get_mem_append hpos]
          rw [htake] at hx'
          rcases List.mem_append.1 hx' with hx' | hx'
          · have := hpart x hx'
            exact ⟨fun hh => List.mem_append_left _ (this.1 hh), fun hh => List.mem_append_left _ (this.2 hh)⟩
          · simp at hx'
            subst hx'
            exact ⟨fun hh => absurd (hh.trans c1.1.symm) (by omega), fun _ => by simp⟩)
        refine ⟨r, step r ?_, h1, h2⟩
        simp only [if_neg c0, if_pos c1]
        exact hr
      · obtain ⟨r, hr, h1, h2⟩ := ih (i + 1) q (by omega) (drop_next hd) hinv hdone hpos (fun x hx' => by
          rw [htake] at hx'
          rcases List.mem_append.1 hx' with hx' | hx'
          · exact hpart x hx'
          · simp at hx'
            subst hx'
            exact ⟨fun hh => Classical.byContradiction fun hn => c0 ⟨hh, hn⟩, fun hh => Classical.byContradiction fun hn => c1 ⟨hh, hn⟩⟩)
        refine ⟨r, step r ?_, h1, h2⟩
        simp only [if_neg c0, if_neg c1]
        exact hr
theorem reach_ev (n : Nat) (hn0 : 0 < n) (hn : n ≤ 6) (es : List S67) (he : ∀ e ∈ es, 0 ≤ e.f0 ∧ e.f0 < e.f1 ∧ e.f1 < n) (hl : es.length < 4611686018427387904) :
    ∃ r, Ev (fun k => spec_l02Reach.f k n es) r ∧ RInv n es r ∧ Done es r r.length := by
  have main : ∀ (d pos : Nat) (q : List Int), RInv n es q → Done es q pos → pos ≤ q.length → n < pos + d → ∃ r, Ev (fun k => spec_l02Reach.l0 k q (pos : Int) n es) r ∧ RInv n es r ∧ Done es r r.length := by
    intro d
    induction d with
    | zero =>
      intro pos q hinv _ hp hd
      have := rinv_len hinv
      omega
    | succ d ih =>
      intro pos q hinv hdone hp hd
      by_cases hlt : pos < q.length
      · obtain ⟨r, ⟨K, hK⟩, h1, h2⟩ := reach_inner n hn es he hl pos (fun q' h1 h2 h3 => ih (pos + 1) q' h1 h2 (by omega) (by omega)) es 0 q (by omega) rfl hinv hdone hlt (fun e he' => by simp at he')
        refine ⟨r, ⟨K + 1, fun k hk => ?_⟩, h1, h2⟩
        obtain ⟨m, rfl⟩ : ∃ m, k = m + 1 := ⟨k - 1, by omega⟩
        have h3 := hK m (by omega)
        dsimp only at h3 ⊢
        simp only [spec_l02Reach.l0]
        rw [if_pos (by omega)]
        exact h3
      · refine ⟨q, ev1 fun k => ?_, hinv, ?_⟩
        · simp only [spec_l02Reach.l0]
          rw [if_neg (by omega)]
        · have : pos = q.length := by omega
          rw [this] at hdone
          exact hdone
  refine main (n + 1) 0 [0] ⟨by simp, fun v hv => by simp at hv; omega, by simp, fun P h0 _ v hv => by simp at hv; rw [hv]; exact h0⟩ (fun j hj => by omega) (by simp) (by omega)
theorem reach_all (n : Nat) (es : List S67) (r : List Int) (h1 : RInv n es r) (h2 : Done es r r.length) : ((r.length : Int) == n) = true ↔ ConnE n es := by
  have hlen := rinv_len h1
  constructor
  · intro h P h0 hP v hv0 hv
    simp at h
    refine h1.2.2.2 P h0 hP v (Classical.byContradiction fun hno => ?_)
    have := List.Nodup.length_le_of_subset (l₁ := v :: r) (by rw [List.nodup_cons]; exact ⟨hno, h1.1⟩) (l₂ := (List.range n).map fun i : Nat => (i : Int)) (fun u hu => by
      have hb : 0 ≤ u ∧ u < n := by
        rcases List.mem_cons.1 hu with rfl | hu
        · omega
        · exact h1.2.1 u hu
      exact List.mem_map.2 ⟨u.toNat, by simp; omega, by omega⟩)
    simp at this
    omega
  · intro h
    have hall := h (fun v => v ∈ r) h1.2.2.1 (fun e he => by
      constructor
      · intro hm
        obtain ⟨j, hj, hjv⟩ := List.mem_iff_getElem.1 hm
        exact (h2 j hj e he).1 (by rw [rd_nat r j hj]; exact hjv.symm)
      · intro hm
        obtain ⟨j, hj, hjv⟩ := List.mem_iff_getElem.1 hm
        exact (h2 j hj e he).2 (by rw [rd_nat r j hj]; exact hjv.symm))
    have := List.Nodup.length_le_of_subset (l₁ := (List.range n).map fun i : Nat => (i : Int)) (l₂ := r) (by
      refine List.Pairwise.map _ (fun a b hab => ?_) List.nodup_range
      show (a : Int) ≠ b
      omega) (fun v hv => by
      obtain ⟨i, hi, rfl⟩ := List.mem_map.1 hv
      simp at hi
      exact hall _ (by omega) (by omega))
    simp at this ⊢
    omega
theorem spec_graphOk_iff (n : Int) (es : List S67) (hl : es.length < 4611686018427387904) : ∃ b : Bool, Ev (fun k => spec_GraphOk.f k n es) b ∧ (b = true ↔ GraphP n es) := by
  have h1 := spec_edgesOk_ev n es hl
  simp only [spec_GraphOk.f]
  by_cases hb : edgesB n es = true
  · obtain ⟨f1, f2, f3, f4⟩ := edgesB_facts hb
    obtain ⟨m, rfl⟩ : ∃ m : Nat, n = m := ⟨n.toNat, by omega⟩
    obtain ⟨r, hr, r1, r2⟩ := reach_ev m (by omega) (by omega) es f4 hl
    rw [hb] at h1
    have main : ∀ (d i : Nat), i + d = es.length → ∃ b : Bool, Ev (fun k => spec_GraphOk.l0 k es (es.length : Int) (i : Int) m es) b ∧
        (b = true ↔ (∀ j, i ≤ j + 1 → j + 1 < es.length → ¬ ((es.getD (j + 1) z67).f0 < (es.getD j z67).f0 ∨ ((es.getD (j + 1) z67).f0 = (es.getD j z67).f0 ∧ (es.getD (j + 1) z67).f1 < (es.getD j z67).f1))) ∧ ConnE m es) := by
      intro d
      induction d with
      | zero =>
        intro i hi
        obtain ⟨K, hK⟩ := hr
        refine ⟨((r.length : Int) == m), ⟨K + 1, fun k hk => ?_⟩, ?_⟩
        · obtain ⟨p, rfl⟩ : ∃ p, k = p + 1 := ⟨k - 1, by omega⟩
          have h3 := hK p (by omega)
          dsimp only at h3 ⊢
          simp only [spec_GraphOk.l0]
          rw [if_neg (by omega), h3]
          rfl
        · rw [reach_all m es r r1 r2]
          exact ⟨fun h => ⟨fun j h1 h2 => by omega, h⟩, fun h => h.2⟩
      | succ d ih =>
        intro i hi
        obtain ⟨b, hK, hiff⟩ := ih (i + 1) (by omega)
        have stop : Ev (fun k => spec_GraphOk.j1 k es (es.length : Int) (i : Int) true m es) false := ev1 fun k => by simp only [spec_GraphOk.j1, if_true]
        have go : Ev (fun k => spec_GraphOk.j1 k es (es.length : Int) (i : Int) false m es) b := by
          refine ev_succ ?_
          simp only [spec_GraphOk.j1, Bool.false_eq_true, if_false, wrap_succ (show i < 4611686018427387904 by omega)]
          exact hK
        by_cases i0 : i = 0
        · subst i0
          refine ⟨b, ev_succ ?_, ?_⟩
          · simp only [spec_GraphOk.l0]
            exact ev_ift (by omega) (ev_ift (by omega) (ev_ift (by omega) (ev_ifn (by omega) go)))
          · rw [hiff]
            exact ⟨fun h => ⟨fun j _ h2 => h.1 j (by omega) h2, h.2⟩, fun h => ⟨fun j _ h2 => h.1 j (by omega) h2, h.2⟩⟩
        · obtain ⟨p, rfl⟩ : ∃ p, i = p + 1 := ⟨i - 1, by omega⟩
          have ew : wrap64 (((p + 1 : Nat) : Int) - 1) = (p : Int) := by unfold wrap64; omega
          by_cases hc : (es.getD (p + 1) z67).f0 < (es.getD p z67).f0 ∨ ((es.getD (p + 1) z67).f0 = (es.getD p z67).f0 ∧ (es.getD (p + 1) z67).f1 < (es.getD p z67).f1)
          · refine ⟨false, ev_succ ?_, ?_⟩
            · simp only [spec_GraphOk.l0, ew, rdE_nat]
              refine ev_ift (by omega) (ev_ift (by omega) (ev_ift (by omega) (ev_ift (by omega) (ev_ift (by omega) (ev_ift (by omega) ?_)))))
              by_cases c0 : (es.getD (p + 1) z67).f0 < (es.getD p z67).f0
              · exact ev_ift c0 stop
              · have c1 : (es.getD (p + 1) z67).f1 < (es.getD p z67).f1 := by omega
                simp only [decide_eq_true c1]
                exact ev_ifn c0 (ev_ift (by omega) stop)
            · simp only [Bool.false_eq_true, false_iff]
              exact fun h => h.1 p (by omega) (by omega) hc
          · refine ⟨b, ev_succ ?_, ?_⟩
            · simp only [spec_GraphOk.l0, ew, rdE_nat]
              refine ev_ift (by omega) (ev_ift (by omega) (ev_ift (by omega) (ev_ift (by omega) (ev_ift (by omega) (ev_ift (by omega) (ev_ifn (by omega) ?_))))))
              by_cases c0 : (es.getD (p + 1) z67).f0 = (es.getD p z67).f0
              · have c1 : ¬ (es.getD (p + 1) z67).f1 < (es.getD p z67).f1 := by omega
                simp only [decide_eq_false c1]
                exact ev_ift c0 go
              · exact ev_ifn c0 go
            · rw [hiff]
              refine ⟨fun h => ⟨fun j h1 h2 => ?_, h.2⟩, fun h => ⟨fun j _ h2 => h.1 j (by omega) h2, h.2⟩⟩
              by_cases e : j = p
              · subst e; exact hc
              · exact h.1 j (by omega) h2
    obtain ⟨b, hb2, hiff⟩ := main es.length 0 (by omega)
    refine ⟨b, Ev.bind h1 ?_, ?_⟩
    · simp only [if_true]
      exact hb2
    · rw [hiff]
      exact ⟨fun h => ⟨hb, fun i hi => h.1 i (by omega) hi, h.2⟩, fun h => ⟨fun j _ h2 => h.2.1 j h2, h.2.2⟩⟩
  · refine ⟨false, Ev.bind h1 ?_, ?_⟩
    · simp only [hb]
      exact Ev.now _
    · simp only [Bool.false_eq_true, false_iff]
      exact fun h => hb h.1
theorem graphOk_both (n : Int) (es : List S67) (hl : es.length < 4611686018427387904) : ∃ b : Bool, Ev (fun k => impl_GraphOk.f k n es) b ∧ Ev (fun k => spec_GraphOk.f k n es) b ∧ (b = true ↔ GraphP n es) := by
  obtain ⟨b, h1, i1⟩ := impl_graphOk_iff n es hl
  obtain ⟨b', h2, i2⟩ := spec_graphOk_iff n es hl
  have : b' = b := by rw [Bool.eq_iff_iff, i1, i2]
  subst this
  exact ⟨b', h1, h2, i1⟩
end Go.Proofs.Ytbcfccdoffbncaa.Pure
end
