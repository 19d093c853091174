/- Functions of the program as plain Lean functions and that the machine's calls answer as they do, the words of the print that these use, lemmas and plain proofs of laws. Put together by a program of this work that leaves out what nothing uses; Lean checks it. -/
import Derived.Test.YtchkndeeaoohpaaG2f42b8f225
import Derived.Test.YtchkndeeaoohpaaG68cadf4273
import Derived.Test.YtchkndeeaoohpaaGd5fc93618b
section
namespace Go.Proofs.Ytchkndeeaoohpaa.P
open Go.RowKit Go.Proofs.YtchkndeeaoohpaaW.PrintWords Go.Proofs.YtchkndeeaoohpaaW.PrintLast Go.Proofs.YtchkndeeaoohpaaW.PrintMore
attribute [local go_sem] max2_int min2_int max_two min_two max_three min_three max_four min_four
set_option linter.unusedVariables false
set_option linter.unusedSimpArgs false
mutual
def spec_l03Det.l0 : Nat → List (List Int) → List Int → List Int → Int → Int → List Int → Int → Int → Option (Int)
 | 0, _, _, _, _, _, _, _, _ => none
 | k + 1, x0, x1, x2, x7, x8, x16, x17, x18 => if x18 < x17 then (if 0 ≤ x18 then (if x18 < (x16.length : Int) then (if 0 < (x1.length : Int) then (if 0 ≤ (rd x1 0) then (if (rd x1 0) < (x0.length : Int) then (if 0 ≤ (rd x16 x18) then (if (rd x16 x18) < ((rd_L1 x0 (rd x1 0)).length : Int) then (if (rd (rd_L1 x0 (rd x1 0)) (rd x16 x18)) = 0 then (spec_l03Det.l0 k x0 x1 x2 x7 (wrap64 (-x8)) x16 x17 (wrap64 (x18 + 1))) else ((some (([] : List Int) : List Int)).bind fun y145 => (if x18 ≤ (x2.length : Int) then (if y145.length + (x2.take (x18 : Int).toNat).length < 17592186044416 then ((some (y145 ++ (x2.take (x18 : Int).toNat) : List Int)).bind fun y149 => (if 0 ≤ (wrap64 (x18 + 1)) then (if (wrap64 (x18 + 1)) ≤ (x2.length : Int) then (if y149.length + (x2.drop ((wrap64 (x18 + 1)) : Int).toNat).length < 17592186044416 then (if 1 ≤ (x1.length : Int) then ((spec_l03Det.f k x0 (x1.drop 1) (y149 ++ (x2.drop ((wrap64 (x18 + 1)) : Int).toNat))).bind fun t157 => (spec_l03Det.l0 k x0 x1 x2 (wrap64 (x7 + (wrap64 ((wrap64 (x8 * (rd (rd_L1 x0 (rd x1 0)) (rd x16 x18)))) * t157)))) (wrap64 (-x8)) x16 x17 (wrap64 (x18 + 1)))) else (none)) else (none)) else (none)) else (none))) else (none)) else (none)))) else (none)) else (none)) else (none)) else (none)) else (none)) else (none)) else (none)) else (some x7)
def spec_l03Det.f : Nat → List (List Int) → List Int → List Int → Option (Int)
 | 0, _, _, _ => none
 | k + 1, l0, l1, l2 => if (l1.length : Int) = 0 then (some 1) else (spec_l03Det.l0 k l0 l1 l2 0 1 l2 (l2.length : Int) 0)
end
def spec_l03Det.T10 : Bool × List (List Nat × List Nat) := (true, [([], []), ([], []), ([], []), ([1, 2], [1, 2]), ([0, 3], [0, 3]), ([], []), ([], []), ([6], [6]), ([5, 7], [5, 7]), ([4, 8, 4], [4, 8]), ([9, 9, 0, 1, 2, 3, 4, 5, 6, 7, 8, 9], [9])])
def spec_l03Det.B10 : List Nat := [0, 0, 0, 6, 15, 0, 0, 64, 224, 511, 1023]
theorem spec_l03Det.tab10 : rtab .any (opsOf Try.f58 10) = spec_l03Det.T10 := by kernel_rfl
theorem spec_l03Det.bits10 : waitsOk spec_l03Det.T10.2 spec_l03Det.B10 = true := by kernel_rfl
set_option maxHeartbeats 8000000 in
set_option maxRecDepth 100000 in
theorem spec_l03Det.calls (k : Nat) : ∀ (A0 : Option Addr) (c0 : Nat) (l0 : List (List Int)) (A1 : Option Addr) (c1 : Nat) (l1 : List Int) (A2 : Option Addr) (c2 : Nat) (l2 : List Int) (r : Int) (w : World) (hr0 : Kd.C (Kd.slice 3 (Kd.int .i64)) w A0 l0.length l0) (hc0 : l0.length ≤ c0) (hr1 : Kd.C (Kd.int .i64) w A1 l1.length l1) (hc1 : l1.length ≤ c1) (hr2 : Kd.C (Kd.int .i64) w A2 l2.length l2) (hc2 : l2.length ≤ c2) (h : spec_l03Det.f k l0 l1 l2 = some r),
  Calls Try.prog 58 #[.slice A0 l0.length c0, .slice A1 l1.length c1, .slice A2 l2.length c2] w fun e w' => e = .returned (.int .i64 r) ∧ Below w.heap.size w w' := by
 induction k using Nat.strongRecOn with
 | _ k ih =>
 intro A0 c0 l0 A1 c1 l1 A2 c2 l2 r w hr0 hc0 hr1 hc1 hr2 hc2 h
 cases k with
 | zero => exact absurd h (by simp [spec_l03Det.f])
 | succ k =>
 simp only [spec_l03Det.f] at h
 have HR0 := Aside0.mk hr0
 have HC0 := Aside0.mk hc0
 clear hr0 hc0
 have HR1 := Aside0.mk hr1
 have HC1 := Aside0.mk hc1
 clear hr1 hc1
 have HR2 := Aside0.mk hr2
 have HC2 := Aside0.mk hc2
 clear hr2 hc2
 have HB := Aside0.mk (Below.refl w.heap.size w)
 have H : (if (l1.length : Int) = 0 then (some 1) else (spec_l03Det.l0 k l0 l1 l2 0 1 l2 (l2.length : Int) 0)) = some r := h
 clear h
 by_cases c4 : (l1.length : Int) = 0
 ·rw [if_pos c4] at H
  have c4b0 : ((l1.length : Int) == 0) = true := beq_iff_eq.mpr c4
  have c4b1 : ((l1.length : Int) != 0) = false := bne_eq_false_iff_eq.mpr c4
  clear c4
  obtain rfl := Option.some.inj H
  go_enter Try.func58, Try.ntmps58
  go_wp2
  go_ret
  exact ⟨by first | rfl | (simp [errW_none, errW_some] <;> rfl) | (simp [*, errW_none, errW_some] <;> rfl), by exact Lz HB⟩
 rw [if_neg c4] at H
 have c4b0 : ((l1.length : Int) == 0) = false := beq_eq_false_iff_ne.mpr c4
 have c4b1 : ((l1.length : Int) != 0) = true := bne_iff_ne.mpr c4
 have c4b2 : ¬ (l1 = []) := fun h_ => c4 (by rw [h_]; rfl)
 have H' := Aside0.mk H
 clear H
 go_enter Try.func58, Try.ntmps58
 go_wp2
 go_loopg [7, 8, 18] k (fun kq v7 v8 v18 w' => ∃ (x7_1 : Int) (x8_1 : Int) (x18_1 : Int), v7 = .int .i64 x7_1 ∧ v8 = .int .i64 x8_1 ∧ v18 = .int .i64 x18_1 ∧ Aside0 (spec_l03Det.l0 kq l0 l1 l2 x7_1 x8_1 l2 (l2.length : Int) x18_1 = some r) ∧ Aside0 (kq ≤ k) ∧ Aside0 (Below w.heap.size w w'))
 case atStart => exact ⟨(0), (1), (0), eqA, eqA, eqA, H', ⟨Nat.le_refl _⟩, ⟨by exact Lz HB⟩⟩
 case round =>
  clear H'
  try clear c1
  try clear c2
  try clear c4
  try clear c4b0
  try clear c4b1
  try clear c4b2
  obtain ⟨x7_1, x8_1, x18_1, rfl, rfl, rfl, HA, HK1, HB⟩ := hrel
  cases gk with
  | zero => exact absurd HA.out (by simp [spec_l03Det.l0])
  | succ k1 =>
   have H := HA.out
   clear HA
   simp only [spec_l03Det.l0] at H
   by_cases c5 : x18_1 < (l2.length : Int)
   ·rw [if_pos c5] at H
    have c5b0 : decide (x18_1 < (l2.length : Int)) = true := decide_eq_true c5
    clear c5
    by_cases c6 : 0 ≤ x18_1
    ·rw [if_pos c6] at H
     have c6b0 : decide (0 ≤ x18_1) = true := decide_eq_true c6
     clear c6
     by_cases c7 : x18_1 < (l2.length : Int)
     ·rw [if_pos c7] at H
      have c7b0 : decide (x18_1 < (l2.length : Int)) = true := decide_eq_true c7
      clear c7
      by_cases c8 : 0 < (l1.length : Int)
      ·rw [if_pos c8] at H
       have c8b0 : decide (0 < (l1.length : Int)) = true := decide_eq_true c8
       have c8b1 : decide (0 < l1.length) = true := decide_eq_true (by omega)
       clear c8
       by_cases c9 : 0 ≤ (rd l1 0)
       ·rw [if_pos c9] at H
        have c9b0 : decide (0 ≤ (rd l1 0)) = true := decide_eq_true c9
        clear c9
        by_cases c10 : (rd l1 0) < (l0.length : Int)
        ·rw [if_pos c10] at H
         have c10b0 : decide ((rd l1 0) < (l0.length : Int)) = true := decide_eq_true c10
         clear c10
         by_cases c11 : 0 ≤ (rd l2 x18_1)
         ·rw [if_pos c11] at H
          have c11b0 : decide (0 ≤ (rd l2 x18_1)) = true := decide_eq_true c11
          clear c11
          by_cases c12 : (rd l2 x18_1) < ((rd_L1 l0 (rd l1 0)).length : Int)
          ·rw [if_pos c12] at H
           have c12b0 : decide ((rd l2 x18_1) < ((rd_L1 l0 (rd l1 0)).length : Int)) = true := decide_eq_true c12
           clear c12
           by_cases c13 : (rd (rd_L1 l0 (rd l1 0)) (rd l2 x18_1)) = 0
           ·rw [if_pos c13] at H
            have c13b0 : ((rd (rd_L1 l0 (rd l1 0)) (rd l2 x18_1)) == 0) = true := beq_iff_eq.mpr c13
            have c13b1 : ((rd (rd_L1 l0 (rd l1 0)) (rd l2 x18_1)) != 0) = false := bne_eq_false_iff_eq.mpr c13
            clear c13
            have H' := Aside0.mk H
            clear H
            have p141 : 0 ≤ (x18_1 : Int) := ofA
            have q141 : x18_1 < (l2.length : Int) := ofA
            obtain ⟨ad141, e141, hx141_0⟩ := Kd.at_int HR2.out x18_1 p141 q141
            cases e141
            replace hx141_0 := (HB.out.cell (World.block_lt_of_cell? w _ hx141_0)).trans hx141_0
            replace p141 := eq_true p141
            replace q141 := eq_true q141
            have p142 : 0 ≤ (0 : Int) := (by omega)
            have q142 : 0 < (l1.length : Int) := ofA
            obtain ⟨ad142, e142, hx142_0⟩ := Kd.at_int HR1.out 0 p142 q142
            cases e142
            have qi142 : (0 < l1.length) = True := eq_true (by omega)
            (try rw [show ((0 : Int)).toNat = 0 from rfl] at hx142_0)
            (try rw [Addr.add_zero'] at hx142_0)
            replace hx142_0 := (HB.out.cell (World.block_lt_of_cell? w _ hx142_0)).trans hx142_0
            replace p142 := eq_true p142
            replace q142 := eq_true q142
            have p143 : 0 ≤ ((rd l1 0) : Int) := ofA
            have q143 : (rd l1 0) < (l0.length : Int) := ofA
            obtain ⟨ad143, A143_0, c143_0, e143, hx143_0, hl143_0, hi143_0⟩ := at_L1 HR0.out (rd l1 0) p143 q143
            cases e143
            replace hx143_0 := (HB.out.cell (World.block_lt_of_cell? w _ hx143_0)).trans hx143_0
            have HR143_0 := Aside0.mk hi143_0
            have HC143_0 := Aside0.mk hl143_0
            clear hi143_0 hl143_0
            replace p143 := eq_true p143
            replace q143 := eq_true q143
            have p144 : 0 ≤ ((rd l2 x18_1) : Int) := ofA
            have q144 : (rd l2 x18_1) < ((rd_L1 l0 (rd l1 0)).length : Int) := ofA
            obtain ⟨ad144, e144, hx144_0⟩ := Kd.at_int HR143_0.out (rd l2 x18_1) p144 q144
            cases e144
            replace hx144_0 := (HB.out.cell (World.block_lt_of_cell? w _ hx144_0)).trans hx144_0
            replace p144 := eq_true p144
            replace q144 := eq_true q144
            go_wp2
            go_roundg k1
            case measure => have := HK1.out; omega
            case rel => exact ⟨(x7_1), (wrap64 (-x8_1)), (wrap64 (x18_1 + 1)), eqA, eqA, eqA, H', ⟨by have := HK1.out; omega⟩, ⟨by exact Lz HB⟩⟩
           rw [if_neg c13] at H
           have c13b0 : ((rd (rd_L1 l0 (rd l1 0)) (rd l2 x18_1)) == 0) = false := beq_eq_false_iff_ne.mpr c13
           have c13b1 : ((rd (rd_L1 l0 (rd l1 0)) (rd l2 x18_1)) != 0) = true := bne_iff_ne.mpr c13
           obtain ⟨y145, hy145⟩ : ∃ y_ : List Int, y_ = (([] : List Int)) := ⟨_, rfl⟩
           replace H : (if x18_1 ≤ (l2.length : Int) then (if y145.length + (l2.take (x18_1 : Int).toNat).length < 17592186044416 then ((some (y145 ++ (l2.take (x18_1 : Int).toNat) : List Int)).bind fun y149 => (if 0 ≤ (wrap64 (x18_1 + 1)) then (if (wrap64 (x18_1 + 1)) ≤ (l2.length : Int) then (if y149.length + (l2.drop ((wrap64 (x18_1 + 1)) : Int).toNat).length < 17592186044416 then (if 1 ≤ (l1.length : Int) then ((spec_l03Det.f k1 l0 (l1.drop 1) (y149 ++ (l2.drop ((wrap64 (x18_1 + 1)) : Int).toNat))).bind fun t157 => (spec_l03Det.l0 k1 l0 l1 l2 (wrap64 (x7_1 + (wrap64 ((wrap64 (x8_1 * (rd (rd_L1 l0 (rd l1 0)) (rd l2 x18_1)))) * t157)))) (wrap64 (-x8_1)) l2 (l2.length : Int) (wrap64 (x18_1 + 1)))) else (none)) else (none)) else (none)) else (none))) else (none)) else (none)) = some r := by first | (rw [hy145]; with_reducible exact H) | (have H2_ := (Option.bind_some _ _).symm.trans H; rw [hy145]; with_reducible exact H2_) | (have H2_ := (Option.bind_some _ _).symm.trans H; with_reducible exact H2_) | with_reducible exact H | (rw [hy145]; exact H) | exact H
           have Ny145 := Aside0.mk hy145
           clear hy145
           have c14b0 := eq_true (ofA : 0 ≤ x18_1)
           by_cases c15 : x18_1 ≤ (l2.length : Int)
           ·rw [if_pos c15] at H
            have c15b0 := eq_true c15
            have c15b1 : decide (x18_1 ≤ (l2.length : Int)) = true := decide_eq_true c15
            clear c15
            by_cases c16 : y145.length + (l2.take (x18_1 : Int).toNat).length < 17592186044416
            ·rw [if_pos c16] at H
             have LMc16 := Aside0.mk c16
             clear c16
             obtain ⟨y149, hy149⟩ : ∃ y_ : List Int, y_ = (y145 ++ (l2.take (x18_1 : Int).toNat)) := ⟨_, rfl⟩
             replace H : (if 0 ≤ (wrap64 (x18_1 + 1)) then (if (wrap64 (x18_1 + 1)) ≤ (l2.length : Int) then (if y149.length + (l2.drop ((wrap64 (x18_1 + 1)) : Int).toNat).length < 17592186044416 then (if 1 ≤ (l1.length : Int) then ((spec_l03Det.f k1 l0 (l1.drop 1) (y149 ++ (l2.drop ((wrap64 (x18_1 + 1)) : Int).toNat))).bind fun t157 => (spec_l03Det.l0 k1 l0 l1 l2 (wrap64 (x7_1 + (wrap64 ((wrap64 (x8_1 * (rd (rd_L1 l0 (rd l1 0)) (rd l2 x18_1)))) * t157)))) (wrap64 (-x8_1)) l2 (l2.length : Int) (wrap64 (x18_1 + 1)))) else (none)) else (none)) else (none)) else (none)) = some r := by first | (rw [hy149]; with_reducible exact H) | (have H2_ := (Option.bind_some _ _).symm.trans H; rw [hy149]; with_reducible exact H2_) | (have H2_ := (Option.bind_some _ _).symm.trans H; with_reducible exact H2_) | with_reducible exact H | (rw [hy149]; exact H) | exact H
             have Ny149 := Aside0.mk hy149
             clear hy149
             obtain ⟨ji17, hji17⟩ : ∃ j_ : Int, (wrap64 (x18_1 + 1)) = j_ := ⟨_, rfl⟩
             replace H : (if 0 ≤ (ji17) then (if (ji17) ≤ (l2.length : Int) then (if y149.length + (l2.drop ((ji17) : Int).toNat).length < 17592186044416 then (if 1 ≤ (l1.length : Int) then ((spec_l03Det.f k1 l0 (l1.drop 1) (y149 ++ (l2.drop ((ji17) : Int).toNat))).bind fun t157 => (spec_l03Det.l0 k1 l0 l1 l2 (wrap64 (x7_1 + (wrap64 ((wrap64 (x8_1 * (rd (rd_L1 l0 (rd l1 0)) (rd l2 x18_1)))) * t157)))) (wrap64 (-x8_1)) l2 (l2.length : Int) ji17)) else (none)) else (none)) else (none)) else (none)) = some r := by first | (rw [hji17] at H; exact H) | (simp only [hji17] at H ⊢; exact H)
             have hji17w : (IntKind.i64.wrap (x18_1 + 1)) = ji17 := (i64_w _).trans hji17
             by_cases c18 : 0 ≤ (ji17)
             ·rw [if_pos c18] at H
              have c18b0 := eq_true c18
              have c18b1 : decide (0 ≤ (ji17)) = true := decide_eq_true c18
              clear c18
              by_cases c19 : (ji17) ≤ (l2.length : Int)
              ·rw [if_pos c19] at H
               have c19b0 := eq_true c19
               have c19b1 : decide ((ji17) ≤ (l2.length : Int)) = true := decide_eq_true c19
               clear c19
               by_cases c20 : y149.length + (l2.drop ((ji17) : Int).toNat).length < 17592186044416
               ·rw [if_pos c20] at H
                have LMc20 := Aside0.mk c20
                clear c20
                obtain ⟨y153, hy153⟩ : ∃ y_ : List Int, y_ = (y149 ++ (l2.drop ((ji17) : Int).toNat)) := ⟨_, rfl⟩
                replace H : (if 1 ≤ (l1.length : Int) then ((spec_l03Det.f k1 l0 (l1.drop 1) y153).bind fun t157 => (spec_l03Det.l0 k1 l0 l1 l2 (wrap64 (x7_1 + (wrap64 ((wrap64 (x8_1 * (rd (rd_L1 l0 (rd l1 0)) (rd l2 x18_1)))) * t157)))) (wrap64 (-x8_1)) l2 (l2.length : Int) ji17)) else (none)) = some r := by first | (rw [hy153]; with_reducible exact H) | (have H2_ := (Option.bind_some _ _).symm.trans H; rw [hy153]; with_reducible exact H2_) | (have H2_ := (Option.bind_some _ _).symm.trans H; with_reducible exact H2_) | with_reducible exact H | (rw [hy153]; exact H) | exact H
                have Ny153 := Aside0.mk hy153
                clear hy153
                by_cases c21 : 1 ≤ (l1.length : Int)
                ·rw [if_pos c21] at H
                 have c21b0 := eq_true c21
                 have c21b1 : decide (1 ≤ (l1.length : Int)) = true := decide_eq_true c21
                 clear c21
                 replace H := Option.bind_eq_some_iff.mp H
                 obtain ⟨t157, A220, H⟩ := H
                 replace H : (spec_l03Det.l0 k1 l0 l1 l2 (wrap64 (x7_1 + (wrap64 ((wrap64 (x8_1 * (rd (rd_L1 l0 (rd l1 0)) (rd l2 x18_1)))) * t157)))) (wrap64 (-x8_1)) l2 (l2.length : Int) ji17) = some r := H
                 have A22 := Aside0.mk A220
                 clear A220
                 have H' := Aside0.mk H
                 clear H
                 have p141 : 0 ≤ (x18_1 : Int) := ofA
                 have q141 : x18_1 < (l2.length : Int) := ofA
                 obtain ⟨ad141, e141, hx141_0⟩ := Kd.at_int HR2.out x18_1 p141 q141
                 cases e141
                 replace hx141_0 := (HB.out.cell (World.block_lt_of_cell? w _ hx141_0)).trans hx141_0
                 replace p141 := eq_true p141
                 replace q141 := eq_true q141
                 have p142 : 0 ≤ (0 : Int) := (by omega)
                 have q142 : 0 < (l1.length : Int) := ofA
                 obtain ⟨ad142, e142, hx142_0⟩ := Kd.at_int HR1.out 0 p142 q142
                 cases e142
                 have qi142 : (0 < l1.length) = True := eq_true (by omega)
                 (try rw [show ((0 : Int)).toNat = 0 from rfl] at hx142_0)
                 (try rw [Addr.add_zero'] at hx142_0)
                 replace hx142_0 := (HB.out.cell (World.block_lt_of_cell? w _ hx142_0)).trans hx142_0
                 replace p142 := eq_true p142
                 replace q142 := eq_true q142
                 have p143 : 0 ≤ ((rd l1 0) : Int) := ofA
                 have q143 : (rd l1 0) < (l0.length : Int) := ofA
                 obtain ⟨ad143, A143_0, c143_0, e143, hx143_0, hl143_0, hi143_0⟩ := at_L1 HR0.out (rd l1 0) p143 q143
                 cases e143
                 replace hx143_0 := (HB.out.cell (World.block_lt_of_cell? w _ hx143_0)).trans hx143_0
                 have HR143_0 := Aside0.mk hi143_0
                 have HC143_0 := Aside0.mk hl143_0
                 clear hi143_0 hl143_0
                 replace p143 := eq_true p143
                 replace q143 := eq_true q143
                 have p144 : 0 ≤ ((rd l2 x18_1) : Int) := ofA
                 have q144 : (rd l2 x18_1) < ((rd_L1 l0 (rd l1 0)).length : Int) := ofA
                 obtain ⟨ad144, e144, hx144_0⟩ := Kd.at_int HR143_0.out (rd l2 x18_1) p144 q144
                 cases e144
                 replace hx144_0 := (HB.out.cell (World.block_lt_of_cell? w _ hx144_0)).trans hx144_0
                 replace p144 := eq_true p144
                 replace q144 := eq_true q144
                 try go_wp2
                 replace HB := Aside0.mk (below_drew1 HB.out)
                 obtain ⟨i024, hi024, _, hsz24, _⟩ := info_parts info3
                 obtain ⟨hcut24, hA24, hC24⟩ := print_take_of (P := Try.prog) (Value.int .i64) 0 27 3 .i64 Try.underlying27 hi024 hsz24 (some ad141) c2 l2 x18_1 (ofA) (ofA) HC2.out
                 have HR148 := Aside0.mk (Kd.C_of_reads (h1 := fun _ => rfl) (hA24 _ (Kd.reads_of_C HR2.out)))
                 have HC148 := Aside0.mk hC24
                 clear hA24 hC24 hi024 hsz24
                 obtain ⟨i025, hi025, _, hsz25, _⟩ := info_parts info3
                 obtain ⟨A25, hcut25, hA25, hC25⟩ := print_drop_of (P := Try.prog) (Value.int .i64) 0 27 3 .i64 Try.underlying27 hi025 hsz25 (some ad141) c2 l2 (ji17) (ofA) (ofA) HC2.out
                 have HR152 := Aside0.mk (Kd.C_of_reads (h1 := fun _ => rfl) (hA25 _ (Kd.reads_of_C HR2.out)))
                 have HC152 := Aside0.mk hC25
                 clear hA25 hC25 hi025 hsz25
                 refine start_ (n := 11) (S := fun w' => True) (ds := []) #[false, false, false, false, false, false, false, false, false, false, false] (by kernel_rfl) rfl rfl trivial (fun hHeld => ?_); refine with_tabW spec_l03Det.tab10 spec_l03Det.bits10 (fun HT_ HW_ => ?_)
                 generalize wr.drew = w23 at HB HR148 HR152 hHeld ⊢
                 refine pureT_ 1 35 HT_ ?_
                 refine pureT_ 2 36 HT_ ?_
                 refine pureT_ 3 37 HT_ ?_
                 refine pureT_ 5 39 HT_ ?_
                 refine pureT_ 6 40 HT_ ?_
                 refine pureT_ 7 41 HT_ ?_
                 refine pureT_ 8 42 HT_ ?_
                 refine one_ (i := 0) (N := some 34) #[true, true, true, true, false, true, true, true, true, false, false] rfl rfl (one_of HT_.out (by kernel_rfl)) (by decide) (fun K hK => ?_)
                 refine Kd.R_lit_step (Kd.int .i64) _ 3 ?hg (N := 34) ?hd (xs := ([] : List Int)) (inner := []) (ok := fun _ => True) (okp := fun _ => True) ?hr ?hp (fun _ hk => hk) trivial (Below.refl _ _) (Nat.le_refl _) (by simp) ?_; (case hd => rfl); (case hg => rfl); (case hr => first | (go_simp; done) | (go_simp; rfl)); (case hp => exact (Reps.none _ _))
                 intro v146 w26 ho27 hb hg_ hnew_
                 clear hg_ hnew_
                 (first | rw [← Ny145.out] at ho27 | (simp only [Int.reduceToNat] at ho27; rw [← Ny145.out] at ho27))
                 have HO147 := Aside0.mk (Kd.R_lower ho27 (below_size (Lz HB)))
                 replace HB := Aside0.mk (below_step (Lz HB) hb)
                 clear hb ho27
                 refine hK.out _ _ trivial (fun hHeld => ?_)
                 clear hK K
                 refine norm_ (a' := ?_) ?_ ?_
                 rotate_left
                 ·show Act.put _ (some 34) _ = _
                  simp only [Act.put, List.setIfInBounds_toArray, List.set_cons_zero, List.set_cons_succ, i64_w, i32_w]
                  rfl
                 refine one_ (i := 4) (N := some 38) #[true, true, true, true, true, true, true, true, true, false, false] rfl rfl (one_of HT_.out (by kernel_rfl)) (by decide) (fun K hK => ?_)
                 refine Kd.R_append_rows_step (Kd.int .i64) (w0 := w) w.heap.size (by rfl) (.tmp 34) (.tmp 37) 27 3 (.int .i64 0) 8 rfl Try.underlying27 info3 rfl (by decide) (by omega) v146 y145 (l2.take (x18_1 : Int).toNat) _ _ _ (fun _ => True) (fun _ => False) rfl rfl ?aO ?aR (fun _ _ h => h) (fun _ h => h.elim) ?aF ?aB ?aS ?aL ?_
                 (case aR => first | (refine Eq.mp (congrArg (fun n_ => ReadsRow _ _ _ _ n_ _) (show (l2.take (x18_1 : Int).toNat).length = x18_1.toNat from (by rw [List.length_take]; have h_ : (x18_1 : Int) ≤ (l2.length : Int) := ofA; omega))) ?_; (exact Cz ((Kd.C_below HR148.out HB.out))); done) | (rw [← show (l2.take (x18_1 : Int).toNat).length = x18_1.toNat from (by rw [List.length_take]; have h_ : (x18_1 : Int) ≤ (l2.length : Int) := ofA; omega)]; exact Cz ((Kd.C_below HR148.out HB.out))) | (exact Cz ((Kd.C_below HR148.out HB.out))))
                 (case aB => exact (Lz HB))
                 (case aF => exact (fun _ _ => trivial))
                 (case aO => exact (Rz HO147))
                 (case aS => exact (below_size (Lz HB)))
                 (case aL => have := LMc16.out; have hlx_ := (show (l2.take (x18_1 : Int).toNat).length = x18_1.toNat from (by rw [List.length_take]; have h_ : (x18_1 : Int) ≤ (l2.length : Int) := ofA; omega)); omega)
                 intro v150 w28 ho hb hg hat
                 rw [← Ny149.out] at ho
                 replace HB := Aside0.mk (hb)
                 have HO151 := Aside0.mk (ho)
                 clear HO147
                 clear ho hb hg hat
                 refine hK.out _ _ trivial (fun hHeld => ?_)
                 clear hK K
                 refine norm_ (a' := ?_) ?_ ?_
                 rotate_left
                 ·show Act.put _ (some 38) _ = _
                  simp only [Act.put, List.setIfInBounds_toArray, List.set_cons_zero, List.set_cons_succ, i64_w, i32_w]
                  rfl
                 refine one_ (i := 9) (N := some 43) #[true, true, true, true, true, true, true, true, true, true, false] rfl rfl (one_of HT_.out (by kernel_rfl)) (by decide) (fun K hK => ?_)
                 refine Kd.R_append_rows_step (Kd.int .i64) (w0 := w) w.heap.size (by rfl) (.tmp 38) (.tmp 42) 27 3 (.int .i64 0) 8 rfl Try.underlying27 info3 rfl (by decide) (by omega) v150 y149 (l2.drop ((ji17) : Int).toNat) _ _ _ (fun _ => True) (fun _ => False) rfl rfl ?aO ?aR (fun _ _ h => h) (fun _ h => h.elim) ?aF ?aB ?aS ?aL ?_
                 (case aR => first | (refine Eq.mp (congrArg (fun n_ => ReadsRow _ _ _ _ n_ _) (show (l2.drop ((ji17) : Int).toNat).length = (l2.length - (ji17).toNat) from List.length_drop)) ?_; (exact Cz ((Kd.C_below HR152.out HB.out))); done) | (rw [← show (l2.drop ((ji17) : Int).toNat).length = (l2.length - (ji17).toNat) from List.length_drop]; exact Cz ((Kd.C_below HR152.out HB.out))) | (exact Cz ((Kd.C_below HR152.out HB.out))))
                 (case aB => exact (Lz HB))
                 (case aF => exact (fun _ _ => trivial))
                 (case aO => exact (Rz HO151))
                 (case aS => exact (below_size (Lz HB)))
                 (case aL => have := LMc20.out; have hlx_ := (show (l2.drop ((ji17) : Int).toNat).length = (l2.length - (ji17).toNat) from List.length_drop); omega)
                 intro v154 w29 ho hb hg hat
                 rw [← Ny153.out] at ho
                 replace HB := Aside0.mk (hb)
                 have HO155 := Aside0.mk (ho)
                 clear HO151
                 clear ho hb hg hat
                 refine hK.out _ _ trivial (fun hHeld => ?_)
                 clear hK K
                 refine norm_ (a' := ?_) ?_ ?_
                 rotate_left
                 ·show Act.put _ (some 43) _ = _
                  simp only [Act.put, List.setIfInBounds_toArray, List.set_cons_zero, List.set_cons_succ, i64_w, i32_w]
                  rfl
                 refine pureT_ 10 12 HT_ ?_
                 refine done_ (done_of HT_.out (by kernel_rfl)) ?_
                 obtain ⟨i030, hi030, _, hsz30, _⟩ := info_parts info3
                 obtain ⟨A30, hcut30, hA30, hC30⟩ := print_drop_of (P := Try.prog) (Value.int .i64) 0 27 3 .i64 Try.underlying27 hi030 hsz30 (some ad142) c1 l1 1 (by omega) (ofA) HC1.out
                 have HR156 := Aside0.mk (Kd.C_of_reads (h1 := fun _ => rfl) (hA30 _ (Kd.reads_of_C HR1.out)))
                 have HC156 := Aside0.mk hC30
                 clear hA30 hC30 hi030 hsz30
                 obtain ⟨Ao31, co31, eo31⟩ := Kd.R_slice HO155.out
                 subst eo31
                 try go_wp2_with (first | ((with_reducible refine gate_callee (f := 58) rfl ?_); refine goesL_ (some 52) rfl rfl Try.func58 (by kernel_rfl) rfl #[.slice (some ad143) l0.length c0, .slice A30 (l1.drop 1).length (c1 - 1), .slice Ao31 y153.length co31] rfl (by (try simp only [List.map_toArray, List.map_cons, List.map_nil]); first | done | (rw [show (l1.drop 1).length = (l1.length - 1) from List.length_drop] <;> rfl) | rfl | (simp only [List.length_drop, List.length_take]; rfl)) ?_; (with_reducible refine (ih k1 (by have := HK1.out; omega) _ _ l0 _ _ (l1.drop 1) _ _ y153 t157 _ ?side1 ?side2 ?side3 ?side4 ?side5 ?side6 A22.out).mono ?_); (case side1 => exact Cz ((Kd.C_below HR0.out HB.out))); (case side2 => exact HC0.out); (case side3 => exact Cz ((Kd.C_below HR156.out HB.out))); (case side4 => exact HC156.out); (case side5 => exact Cz ((Kd.R_reads' HO155.out).2.2)); (case side6 => exact (Kd.R_reads' HO155.out).2.1); rintro e w32 ⟨rfl, hb⟩; refine ⟨_, rfl, ?_⟩; replace HO155 := Aside0.mk (Kd.R_below (Rz HO155) hb); replace HB := Aside0.mk (below_step (Lz HB) hb); (try clear hb); (try clear hb2); (try clear hk); (try clear hi)))
                 go_roundg k1
                 case measure => have := HK1.out; omega
                 case rel => exact ⟨(wrap64 (x7_1 + (wrap64 ((wrap64 (x8_1 * (rd (rd_L1 l0 (rd l1 0)) (rd l2 x18_1)))) * t157)))), (wrap64 (-x8_1)), (ji17), eqA, eqA, (by first | rfl | (simp; done) | (simp only [← hji17] <;> (first | rfl | simp)) | (simp [*]; done)), H', ⟨by have := HK1.out; omega⟩, ⟨by exact Lz HB⟩⟩
                rw [if_neg c21] at H
                exact absurd H (by simp)
               rw [if_neg c20] at H
               exact absurd H (by simp)
              rw [if_neg c19] at H
              exact absurd H (by simp)
             rw [if_neg c18] at H
             exact absurd H (by simp)
            rw [if_neg c16] at H
            exact absurd H (by simp)
           rw [if_neg c15] at H
           exact absurd H (by simp)
          rw [if_neg c12] at H
          exact absurd H (by simp)
         rw [if_neg c11] at H
         exact absurd H (by simp)
        rw [if_neg c10] at H
        exact absurd H (by simp)
       rw [if_neg c9] at H
       exact absurd H (by simp)
      rw [if_neg c8] at H
      exact absurd H (by simp)
     rw [if_neg c7] at H
     exact absurd H (by simp)
    rw [if_neg c6] at H
    exact absurd H (by simp)
   rw [if_neg c5] at H
   have c5b0 : decide (x18_1 < (l2.length : Int)) = false := decide_eq_false c5
   clear c5
   obtain rfl := Option.some.inj H
   go_wp2
   go_ret
   exact ⟨by first | rfl | (simp [errW_none, errW_some] <;> rfl) | (simp [*, errW_none, errW_some] <;> rfl), by exact Lz HB⟩
def spec_l03All.l0 : Nat → Int → List Int → Int → Option (List Int)
 | 0, _, _, _ => none
 | k + 1, x0, x3, x4 => if x4 < x0 then (if x3.length < 17592186044416 then (spec_l03All.l0 k x0 (x3 ++ [x4]) (wrap64 (x4 + 1))) else (none)) else (some x3)
def spec_l03All.f (k : Nat) (a0 : Int) : Option (List Int) := spec_l03All.l0 k a0 (([] : List Int)) 0
set_option maxHeartbeats 8000000 in
set_option maxRecDepth 100000 in
theorem spec_l03All.calls (k : Nat) (a0 : Int) (r : List Int) (w : World) (h : spec_l03All.f k a0 = some r) :
  Calls Try.prog 59 #[.int .i64 a0] w fun e w' => ∃ v0_ : Value, e = .returned (v0_) ∧ Kd.R (Kd.int .i64) 3 w' w.heap.size (fun _ => True) v0_ r ∧ Below w.heap.size w w' := by
 have HB := Aside0.mk (Below.refl w.heap.size w)
 have H : (spec_l03All.l0 k a0 (([] : List Int)) 0) = some r := h
 clear h
 obtain ⟨y158, hy158⟩ : ∃ y_ : List Int, y_ = (([] : List Int)) := ⟨_, rfl⟩
 replace H : (spec_l03All.l0 k a0 y158 0) = some r := by first | (rw [hy158]; with_reducible exact H) | (have H2_ := (Option.bind_some _ _).symm.trans H; rw [hy158]; with_reducible exact H2_) | (have H2_ := (Option.bind_some _ _).symm.trans H; with_reducible exact H2_) | with_reducible exact H | (rw [hy158]; exact H) | exact H
 have Ny158 := Aside0.mk hy158
 clear hy158
 have H' := Aside0.mk H
 clear H
 go_enter Try.func59, Try.ntmps59
 go_wp2_with (first | ((with_reducible refine gate_dst (N := 5) rfl ?_); refine Kd.R_lit (Kd.int .i64) _ 3 ?hg (N := 5) ?hd (xs := ([] : List Int)) (inner := []) (ok := fun _ => True) (okp := fun _ => True) ?hr ?hp (fun _ hk => hk) trivial (Below.refl _ _) (Nat.le_refl _) (by simp) ?_; (case hd => rfl); (case hg => rfl); (case hr => first | (go_simp; done) | (go_simp; rfl)); (case hp => exact (Reps.none _ _)); intro v159 w2 ho3 hb hg_ hnew_; clear hg_ hnew_; (first | rw [← Ny158.out] at ho3 | (simp only [Int.reduceToNat] at ho3; rw [← Ny158.out] at ho3)); have HO160 := Aside0.mk (Kd.R_lower ho3 (below_size (Lz HB))); replace HB := Aside0.mk (below_step (Lz HB) hb); clear hb ho3))
 go_loopg [3, 4] k (fun kq v3 v4 w' => ∃ (x3_1 : List Int) (x4_1 : Int), v4 = .int .i64 x4_1 ∧ Aside0 (spec_l03All.l0 kq a0 x3_1 x4_1 = some r) ∧ Aside0 (kq ≤ k) ∧ Aside0 (Kd.R (Kd.int .i64) 3 w' w.heap.size (fun _ => True) v3 x3_1) ∧ Aside0 (Below w.heap.size w w'))
 case atStart => exact ⟨(y158), (0), eqA, H', ⟨Nat.le_refl _⟩, ⟨by exact Rz HO160⟩, ⟨by exact Lz HB⟩⟩
 case round =>
  clear H'
  obtain ⟨x3_1, x4_1, rfl, HA, HK1, HO_3, HB⟩ := hrel
  cases gk with
  | zero => exact absurd HA.out (by simp [spec_l03All.l0])
  | succ k1 =>
   have H := HA.out
   clear HA
   simp only [spec_l03All.l0] at H
   by_cases c4 : x4_1 < a0
   ·rw [if_pos c4] at H
    have c4b0 : decide (x4_1 < a0) = true := decide_eq_true c4
    clear c4
    by_cases c5 : x3_1.length < 17592186044416
    ·rw [if_pos c5] at H
     have LMc5 := Aside0.mk c5
     clear c5
     obtain ⟨y161, hy161⟩ : ∃ y_ : List Int, y_ = (x3_1 ++ [x4_1]) := ⟨_, rfl⟩
     replace H : (spec_l03All.l0 k1 a0 y161 (wrap64 (x4_1 + 1))) = some r := by first | (rw [hy161]; with_reducible exact H) | (have H2_ := (Option.bind_some _ _).symm.trans H; rw [hy161]; with_reducible exact H2_) | (have H2_ := (Option.bind_some _ _).symm.trans H; with_reducible exact H2_) | with_reducible exact H | (rw [hy161]; exact H) | exact H
     have Ny161 := Aside0.mk hy161
     clear hy161
     have H' := Aside0.mk H
     clear H
     go_wp2_with (first | ((with_reducible refine gate_builtin (b := .append) (xs := #[.tmp 11, .tmp 13]) rfl ?_); at_builtin; refine Kd.R_append (Kd.int .i64) (w0 := w) w.heap.size rfl (.tmp 11) (.tmp 13) 27 3 (.int .i64 0) 8 rfl Try.underlying27 info3 rfl (by decide) (by omega) u3 x3_1 x4_1 [.int .i64 x4_1] (fun _ => True) (fun _ => False) rfl rfl ?aP (fun _ hk => hk.elim) ?aF ?aO ?aB ?aS ?aL ?_; (case aP => exact rfl); (case aB => exact (Lz HB)); (case aF => exact (fun _ _ => trivial)); (case aO => exact (Rz HO_3)); (case aS => exact (below_size (Lz HB))); (case aL => have := LMc5.out; omega); intro v162 w6 ho hb hg hat; rw [← Ny161.out] at ho; replace HB := Aside0.mk (hb); have HO163 := Aside0.mk (ho); clear HO_3; clear ho hb hg hat))
     go_roundg k1
     case measure => have := HK1.out; omega
     case rel => exact ⟨(y161), (wrap64 (x4_1 + 1)), eqA, H', ⟨by have := HK1.out; omega⟩, ⟨by exact Rz HO163⟩, ⟨by exact Lz HB⟩⟩
    rw [if_neg c5] at H
    exact absurd H (by simp)
   rw [if_neg c4] at H
   have c4b0 : decide (x4_1 < a0) = false := decide_eq_false c4
   clear c4
   obtain rfl := Option.some.inj H
   go_wp2
   go_ret
   exact ⟨_, by first | rfl | (simp [errW_none, errW_some] <;> rfl) | (simp [*, errW_none, errW_some] <;> rfl), by exact Rz HO_3, by exact Lz HB⟩
def spec_Determinant.f (k : Nat) (l0 : List (List Int)) : Option (Int) := (spec_MatrixOk.f k l0).bind fun t164 => (if t164 = true then ((spec_l03All.f k (l0.length : Int)).bind fun t165 => ((spec_l03All.f k (l0.length : Int)).bind fun t168 => ((spec_l03Det.f k l0 t165 t168).bind fun t171 => (some t171)))) else (some 0))
set_option maxHeartbeats 8000000 in
set_option maxRecDepth 100000 in
theorem spec_Determinant.calls (k : Nat) (A0 : Option Addr) (c0 : Nat) (l0 : List (List Int)) (r : Int) (w : World) (hr0 : Kd.C (Kd.slice 3 (Kd.int .i64)) w A0 l0.length l0) (hc0 : l0.length ≤ c0) (h : spec_Determinant.f k l0 = some r) :
  Calls Try.prog 27 #[.slice A0 l0.length c0] w fun e w' => e = .returned (.int .i64 r) ∧ Below w.heap.size w w' := by
 have HR0 := Aside0.mk hr0
 have HC0 := Aside0.mk hc0
 clear hr0 hc0
 have HB := Aside0.mk (Below.refl w.heap.size w)
 have H : ((spec_MatrixOk.f k l0).bind fun t164 => (if t164 = true then ((spec_l03All.f k (l0.length : Int)).bind fun t165 => ((spec_l03All.f k (l0.length : Int)).bind fun t168 => ((spec_l03Det.f k l0 t165 t168).bind fun t171 => (some t171)))) else (some 0))) = some r := h
 clear h
 replace H := Option.bind_eq_some_iff.mp H
 obtain ⟨t164, A20, H⟩ := H
 replace H : (if t164 = true then ((spec_l03All.f k (l0.length : Int)).bind fun t165 => ((spec_l03All.f k (l0.length : Int)).bind fun t168 => ((spec_l03Det.f k l0 t165 t168).bind fun t171 => (some t171)))) else (some 0)) = some r := H
 have A2 := Aside0.mk A20
 clear A20
 by_cases c3 : t164 = true
 ·subst c3
  have H1 : ((spec_l03All.f k (l0.length : Int)).bind fun t165 => ((spec_l03All.f k (l0.length : Int)).bind fun t168 => ((spec_l03Det.f k l0 t165 t168).bind fun t171 => (some t171)))) = some r := by rw [if_pos rfl] at H; exact H
  clear H
  have H := H1
  clear H1
  replace H := Option.bind_eq_some_iff.mp H
  obtain ⟨t165, A40, H⟩ := H
  replace H : ((spec_l03All.f k (l0.length : Int)).bind fun t168 => ((spec_l03Det.f k l0 t165 t168).bind fun t171 => (some t171))) = some r := H
  have A4 := Aside0.mk A40
  clear A40
  replace H := Option.bind_eq_some_iff.mp H
  obtain ⟨t168, A50, H⟩ := H
  replace H : ((spec_l03Det.f k l0 t165 t168).bind fun t171 => (some t171)) = some r := H
  have A5 := Aside0.mk A50
  clear A50
  replace H := Option.bind_eq_some_iff.mp H
  obtain ⟨t171, A60, H⟩ := H
  replace H : (some t171) = some r := H
  have A6 := Aside0.mk A60
  clear A60
  obtain rfl := Option.some.inj H
  go_enter Try.func27, Try.ntmps27
  go_wp2_with (first | ((with_reducible refine gate_callee (f := 16) rfl ?_); refine goesM_ (some 4) rfl rfl Try.func16 (by kernel_rfl) rfl #[.slice A0 l0.length c0] rfl ?_; (with_reducible refine (spec_MatrixOk.calls k _ _ l0 true _ ?side1 ?side2 A2.out).mono ?_); (case side1 => exact Cz (HR0.out)); (case side2 => exact HC0.out); rintro e w' ⟨rfl, ⟨nd, rfl⟩⟩; refine ⟨_, rfl, ?_⟩) | ((with_reducible refine gate_callee (f := 59) rfl ?_); refine goesM_ (some 9) rfl rfl Try.func59 (by kernel_rfl) rfl #[.int .i64 (l0.length : Int)] rfl ?_; (with_reducible refine (spec_l03All.calls k (l0.length : Int) t165 _ A4.out).mono ?_); rintro e w7 ⟨v166, rfl, ho0, hb⟩; refine ⟨_, rfl, ?_⟩; have HO167 := Aside0.mk (Kd.R_lower ho0 (below_size (Lz HB))); replace HB := Aside0.mk (below_step (Lz HB) hb); (try clear hb); (try clear ho0)) | ((with_reducible refine gate_callee (f := 59) rfl ?_); refine goesM_ (some 12) rfl rfl Try.func59 (by kernel_rfl) rfl #[.int .i64 (l0.length : Int)] rfl ?_; (with_reducible refine (spec_l03All.calls k (l0.length : Int) t168 _ A5.out).mono ?_); rintro e w8 ⟨v169, rfl, ho0, hb⟩; refine ⟨_, rfl, ?_⟩; have HO170 := Aside0.mk (Kd.R_lower (Kd.R_new' ho0 (Kd.R_lt (Rz HO167))) (below_size (Lz HB))); replace HO167 := Aside0.mk (Kd.R_elder' (Rz HO167) (Kd.R_base ho0) hb); replace HB := Aside0.mk (below_step (Lz HB) hb); (try clear hb); (try clear ho0); obtain ⟨Ao9, co9, eo9⟩ := Kd.R_slice HO167.out; subst eo9; obtain ⟨Ao10, co10, eo10⟩ := Kd.R_slice HO170.out; subst eo10) | ((with_reducible refine gate_callee (f := 58) rfl ?_); refine goesM_ (some 13) rfl rfl Try.func58 (by kernel_rfl) rfl #[.slice A0 l0.length c0, .slice Ao9 t165.length co9, .slice Ao10 t168.length co10] rfl ?_; (with_reducible refine (spec_l03Det.calls k _ _ l0 _ _ t165 _ _ t168 t171 _ ?side1 ?side2 ?side3 ?side4 ?side5 ?side6 A6.out).mono ?_); (case side1 => exact Cz ((Kd.C_below HR0.out HB.out))); (case side2 => exact HC0.out); (case side3 => exact Cz ((Kd.R_reads' HO167.out).2.2)); (case side4 => exact (Kd.R_reads' HO167.out).2.1); (case side5 => exact Cz ((Kd.R_reads' HO170.out).2.2)); (case side6 => exact (Kd.R_reads' HO170.out).2.1); rintro e w11 ⟨rfl, hb⟩; refine ⟨_, rfl, ?_⟩; replace HO167 := Aside0.mk (Kd.R_below (Rz HO167) hb); replace HO170 := Aside0.mk (Kd.R_below (Rz HO170) hb); replace HB := Aside0.mk (below_step (Lz HB) hb); (try clear hb); (try clear hb2); (try clear hk); (try clear hi)))
  go_ret
  exact ⟨by first | rfl | (simp [errW_none, errW_some] <;> rfl) | (simp [*, errW_none, errW_some] <;> rfl), by exact Lz HB⟩
 replace c3 := Bool.eq_false_iff.mpr c3
 subst c3
 have H1 : (some 0) = some r := by rw [if_neg (show ¬ (false = true) by decide)] at H; exact H
 clear H
 have H := H1
 clear H1
 obtain rfl := Option.some.inj H
 go_enter Try.func27, Try.ntmps27
 go_wp2_with (first | ((with_reducible refine gate_callee (f := 16) rfl ?_); refine goesM_ (some 4) rfl rfl Try.func16 (by kernel_rfl) rfl #[.slice A0 l0.length c0] rfl ?_; (with_reducible refine (spec_MatrixOk.calls k _ _ l0 false _ ?side1 ?side2 A2.out).mono ?_); (case side1 => exact Cz (HR0.out)); (case side2 => exact HC0.out); rintro e w' ⟨rfl, ⟨nd, rfl⟩⟩; refine ⟨_, rfl, ?_⟩))
 go_ret
 exact ⟨by first | rfl | (simp [errW_none, errW_some] <;> rfl) | (simp [*, errW_none, errW_some] <;> rfl), by exact Lz HB⟩
mutual
def impl_determinant.l0 : Nat → List (List Int) → List Int → Int → Int → Int → List Int → Int → Int → Option (Int)
 | 0, _, _, _, _, _, _, _, _ => none
 | k + 1, x0, x1, x2, x7, x8, x19, x20, x21 => if x21 < x20 then (if 0 ≤ x21 then (if x21 < (x19.length : Int) then (if (Go.bits .and .i64 (shr .i64 x2 x21) 1) = 0 then (impl_determinant.l0 k x0 x1 x2 x7 x8 x19 x20 (wrap64 (x21 + 1))) else (if (rd x19 x21) = 0 then (impl_determinant.l0 k x0 x1 x2 x7 (wrap64 (-x8)) x19 x20 (wrap64 (x21 + 1))) else (if 1 ≤ (x1.length : Int) then ((impl_determinant.f k x0 (x1.drop 1) (Go.bits .andNot .i64 x2 (shl .i64 1 x21))).bind fun t176 => (impl_determinant.l0 k x0 x1 x2 (wrap64 (x7 + (wrap64 ((wrap64 (x8 * (rd x19 x21))) * t176)))) (wrap64 (-x8)) x19 x20 (wrap64 (x21 + 1)))) else (none)))) else (none)) else (none)) else (some x7)
def impl_determinant.f : Nat → List (List Int) → List Int → Int → Option (Int)
 | 0, _, _, _ => none
 | k + 1, l0, l1, a2 => if (l1.length : Int) = 0 then (some 1) else (if 0 < (l1.length : Int) then (if 0 ≤ (rd l1 0) then (if (rd l1 0) < (l0.length : Int) then (impl_determinant.l0 k l0 l1 a2 0 1 (rd_L1 l0 (rd l1 0)) ((rd_L1 l0 (rd l1 0)).length : Int) 0) else (none)) else (none)) else (none))
end
def impl_determinant.T9 : Bool × List (List Nat × List Nat) := (true, [([], []), ([], []), ([], []), ([1, 2], [1, 2]), ([], []), ([], []), ([5], [5]), ([], []), ([], []), ([8], [8]), ([7, 9], [7, 9]), ([4, 6, 10], [4, 6, 10]), ([3, 11], [3, 11]), ([0, 12], [0, 12]), ([13, 11, 0, 1, 2, 3, 4, 5, 6, 7, 8, 9, 10, 11, 12, 13], [0, 13])])
def impl_determinant.B9 : List Nat := [0, 0, 0, 6, 0, 0, 32, 0, 0, 256, 896, 2032, 4094, 8191, 16383]
theorem impl_determinant.tab9 : rtab .any (opsOf Try.f60 9) = impl_determinant.T9 := by kernel_rfl
theorem impl_determinant.bits9 : waitsOk impl_determinant.T9.2 impl_determinant.B9 = true := by kernel_rfl
set_option maxHeartbeats 8000000 in
set_option maxRecDepth 100000 in
theorem impl_determinant.calls (k : Nat) : ∀ (A0 : Option Addr) (c0 : Nat) (l0 : List (List Int)) (A1 : Option Addr) (c1 : Nat) (l1 : List Int) (a2 : Int) (r : Int) (w : World) (hr0 : Kd.C (Kd.slice 3 (Kd.int .i64)) w A0 l0.length l0) (hc0 : l0.length ≤ c0) (hr1 : Kd.C (Kd.int .i64) w A1 l1.length l1) (hc1 : l1.length ≤ c1) (h : impl_determinant.f k l0 l1 a2 = some r),
  Calls Try.prog 60 #[.slice A0 l0.length c0, .slice A1 l1.length c1, .int .i64 a2] w fun e w' => e = .returned (.int .i64 r) ∧ Below w.heap.size w w' := by
 induction k using Nat.strongRecOn with
 | _ k ih =>
 intro A0 c0 l0 A1 c1 l1 a2 r w hr0 hc0 hr1 hc1 h
 cases k with
 | zero => exact absurd h (by simp [impl_determinant.f])
 | succ k =>
 simp only [impl_determinant.f] at h
 have HR0 := Aside0.mk hr0
 have HC0 := Aside0.mk hc0
 clear hr0 hc0
 have HR1 := Aside0.mk hr1
 have HC1 := Aside0.mk hc1
 clear hr1 hc1
 have HB := Aside0.mk (Below.refl w.heap.size w)
 have H : (if (l1.length : Int) = 0 then (some 1) else (if 0 < (l1.length : Int) then (if 0 ≤ (rd l1 0) then (if (rd l1 0) < (l0.length : Int) then (impl_determinant.l0 k l0 l1 a2 0 1 (rd_L1 l0 (rd l1 0)) ((rd_L1 l0 (rd l1 0)).length : Int) 0) else (none)) else (none)) else (none))) = some r := h
 clear h
 by_cases c4 : (l1.length : Int) = 0
 ·rw [if_pos c4] at H
  have c4b0 : ((l1.length : Int) == 0) = true := beq_iff_eq.mpr c4
  have c4b1 : ((l1.length : Int) != 0) = false := bne_eq_false_iff_eq.mpr c4
  clear c4
  obtain rfl := Option.some.inj H
  go_enter Try.func60, Try.ntmps60
  go_wp2
  go_ret
  exact ⟨by first | rfl | (simp [errW_none, errW_some] <;> rfl) | (simp [*, errW_none, errW_some] <;> rfl), by exact Lz HB⟩
 rw [if_neg c4] at H
 have c4b0 : ((l1.length : Int) == 0) = false := beq_eq_false_iff_ne.mpr c4
 have c4b1 : ((l1.length : Int) != 0) = true := bne_iff_ne.mpr c4
 have c4b2 : ¬ (l1 = []) := fun h_ => c4 (by rw [h_]; rfl)
 by_cases c5 : 0 < (l1.length : Int)
 ·rw [if_pos c5] at H
  have c5b0 : decide (0 < (l1.length : Int)) = true := decide_eq_true c5
  have c5b1 : decide (0 < l1.length) = true := decide_eq_true (by omega)
  clear c5
  by_cases c6 : 0 ≤ (rd l1 0)
  ·rw [if_pos c6] at H
   have c6b0 : decide (0 ≤ (rd l1 0)) = true := decide_eq_true c6
   clear c6
   by_cases c7 : (rd l1 0) < (l0.length : Int)
   ·rw [if_pos c7] at H
    have c7b0 : decide ((rd l1 0) < (l0.length : Int)) = true := decide_eq_true c7
    clear c7
    have H' := Aside0.mk H
    clear H
    have p172 : 0 ≤ (0 : Int) := (by omega)
    have q172 : 0 < (l1.length : Int) := ofA
    obtain ⟨ad172, e172, hx172_0⟩ := Kd.at_int HR1.out 0 p172 q172
    cases e172
    have qi172 : (0 < l1.length) = True := eq_true (by omega)
    (try rw [show ((0 : Int)).toNat = 0 from rfl] at hx172_0)
    (try rw [Addr.add_zero'] at hx172_0)
    replace p172 := eq_true p172
    replace q172 := eq_true q172
    have p173 : 0 ≤ ((rd l1 0) : Int) := ofA
    have q173 : (rd l1 0) < (l0.length : Int) := ofA
    obtain ⟨ad173, A173_0, c173_0, e173, hx173_0, hl173_0, hi173_0⟩ := at_L1 HR0.out (rd l1 0) p173 q173
    cases e173
    have HR173_0 := Aside0.mk hi173_0
    have HC173_0 := Aside0.mk hl173_0
    clear hi173_0 hl173_0
    replace p173 := eq_true p173
    replace q173 := eq_true q173
    go_enter Try.func60, Try.ntmps60
    go_wp2
    go_loopg [7, 8, 21] k (fun kq v7 v8 v21 w' => ∃ (x7_1 : Int) (x8_1 : Int) (x21_1 : Int), v7 = .int .i64 x7_1 ∧ v8 = .int .i64 x8_1 ∧ v21 = .int .i64 x21_1 ∧ Aside0 (impl_determinant.l0 kq l0 l1 a2 x7_1 x8_1 (rd_L1 l0 (rd l1 0)) ((rd_L1 l0 (rd l1 0)).length : Int) x21_1 = some r) ∧ Aside0 (kq ≤ k) ∧ Aside0 (Below w.heap.size w w'))
    case atStart => exact ⟨(0), (1), (0), eqA, eqA, eqA, H', ⟨Nat.le_refl _⟩, ⟨by exact Lz HB⟩⟩
    case round =>
     clear H'
     try clear c1
     try clear c4
     try clear c4b0
     try clear c4b1
     try clear c4b2
     try clear c5
     try clear c5b0
     try clear c5b1
     try clear c6
     try clear c6b0
     try clear c7
     try clear c7b0
     try clear p172
     try clear p173
     try clear q172
     try clear q173
     obtain ⟨x7_1, x8_1, x21_1, rfl, rfl, rfl, HA, HK1, HB⟩ := hrel
     cases gk with
     | zero => exact absurd HA.out (by simp [impl_determinant.l0])
     | succ k1 =>
      have H := HA.out
      clear HA
      simp only [impl_determinant.l0] at H
      by_cases c8 : x21_1 < ((rd_L1 l0 (rd l1 0)).length : Int)
      ·rw [if_pos c8] at H
       have c8b0 : decide (x21_1 < ((rd_L1 l0 (rd l1 0)).length : Int)) = true := decide_eq_true c8
       clear c8
       by_cases c9 : 0 ≤ x21_1
       ·rw [if_pos c9] at H
        have c9b0 : decide (0 ≤ x21_1) = true := decide_eq_true c9
        clear c9
        by_cases c10 : x21_1 < ((rd_L1 l0 (rd l1 0)).length : Int)
        ·rw [if_pos c10] at H
         have c10b0 : decide (x21_1 < ((rd_L1 l0 (rd l1 0)).length : Int)) = true := decide_eq_true c10
         clear c10
         have c11b0 := eq_true (ofA : 0 ≤ x21_1)
         obtain ⟨ji12, hji12⟩ : ∃ j_ : Int, (shr .i64 a2 x21_1) = j_ := ⟨_, rfl⟩
         replace H : (if (Go.bits .and .i64 (ji12) 1) = 0 then (impl_determinant.l0 k1 l0 l1 a2 x7_1 x8_1 (rd_L1 l0 (rd l1 0)) ((rd_L1 l0 (rd l1 0)).length : Int) (wrap64 (x21_1 + 1))) else (if (rd (rd_L1 l0 (rd l1 0)) x21_1) = 0 then (impl_determinant.l0 k1 l0 l1 a2 x7_1 (wrap64 (-x8_1)) (rd_L1 l0 (rd l1 0)) ((rd_L1 l0 (rd l1 0)).length : Int) (wrap64 (x21_1 + 1))) else (if 1 ≤ (l1.length : Int) then ((impl_determinant.f k1 l0 (l1.drop 1) (Go.bits .andNot .i64 a2 (shl .i64 1 x21_1))).bind fun t176 => (impl_determinant.l0 k1 l0 l1 a2 (wrap64 (x7_1 + (wrap64 ((wrap64 (x8_1 * (rd (rd_L1 l0 (rd l1 0)) x21_1))) * t176)))) (wrap64 (-x8_1)) (rd_L1 l0 (rd l1 0)) ((rd_L1 l0 (rd l1 0)).length : Int) (wrap64 (x21_1 + 1)))) else (none)))) = some r := by first | (rw [hji12] at H; exact H) | (simp only [hji12] at H ⊢; exact H)
         have hji12_ : (a2 / 2 ^ min x21_1.toNat 64) = ji12 := hji12
         have hji12z : x21_1 ≤ 64 → (a2 / 2 ^ x21_1.toNat) = ji12 := shr_small hji12
         by_cases c13 : (Go.bits .and .i64 (ji12) 1) = 0
         ·rw [if_pos c13] at H
          have c13b0 : ((Go.bits .and .i64 (ji12) 1) == 0) = true := beq_iff_eq.mpr c13
          have c13b1 : ((Go.bits .and .i64 (ji12) 1) != 0) = false := bne_eq_false_iff_eq.mpr c13
          clear c13
          have H' := Aside0.mk H
          clear H
          have p174 : 0 ≤ (x21_1 : Int) := ofA
          have q174 : x21_1 < ((rd_L1 l0 (rd l1 0)).length : Int) := ofA
          obtain ⟨ad174, e174, hx174_0⟩ := Kd.at_int HR173_0.out x21_1 p174 q174
          cases e174
          replace hx174_0 := (HB.out.cell (World.block_lt_of_cell? w _ hx174_0)).trans hx174_0
          replace p174 := eq_true p174
          replace q174 := eq_true q174
          go_wp2
          go_roundg k1
          case measure => have := HK1.out; omega
          case rel => exact ⟨(x7_1), (x8_1), (wrap64 (x21_1 + 1)), eqA, eqA, eqA, H', ⟨by have := HK1.out; omega⟩, ⟨by exact Lz HB⟩⟩
         rw [if_neg c13] at H
         have c13b0 : ((Go.bits .and .i64 (ji12) 1) == 0) = false := beq_eq_false_iff_ne.mpr c13
         have c13b1 : ((Go.bits .and .i64 (ji12) 1) != 0) = true := bne_iff_ne.mpr c13
         by_cases c14 : (rd (rd_L1 l0 (rd l1 0)) x21_1) = 0
         ·rw [if_pos c14] at H
          have c14b0 : ((rd (rd_L1 l0 (rd l1 0)) x21_1) == 0) = true := beq_iff_eq.mpr c14
          have c14b1 : ((rd (rd_L1 l0 (rd l1 0)) x21_1) != 0) = false := bne_eq_false_iff_eq.mpr c14
          clear c14
          have H' := Aside0.mk H
          clear H
          have p174 : 0 ≤ (x21_1 : Int) := ofA
          have q174 : x21_1 < ((rd_L1 l0 (rd l1 0)).length : Int) := ofA
          obtain ⟨ad174, e174, hx174_0⟩ := Kd.at_int HR173_0.out x21_1 p174 q174
          cases e174
          replace hx174_0 := (HB.out.cell (World.block_lt_of_cell? w _ hx174_0)).trans hx174_0
          replace p174 := eq_true p174
          replace q174 := eq_true q174
          go_wp2
          go_roundg k1
          case measure => have := HK1.out; omega
          case rel => exact ⟨(x7_1), (wrap64 (-x8_1)), (wrap64 (x21_1 + 1)), eqA, eqA, eqA, H', ⟨by have := HK1.out; omega⟩, ⟨by exact Lz HB⟩⟩
         rw [if_neg c14] at H
         have c14b0 : ((rd (rd_L1 l0 (rd l1 0)) x21_1) == 0) = false := beq_eq_false_iff_ne.mpr c14
         have c14b1 : ((rd (rd_L1 l0 (rd l1 0)) x21_1) != 0) = true := bne_iff_ne.mpr c14
         by_cases c15 : 1 ≤ (l1.length : Int)
         ·rw [if_pos c15] at H
          have c15b0 := eq_true c15
          have c15b1 : decide (1 ≤ (l1.length : Int)) = true := decide_eq_true c15
          clear c15
          have c16b0 := eq_true (ofA : 0 ≤ x21_1)
          obtain ⟨ji17, hji17⟩ : ∃ j_ : Int, (shl .i64 1 x21_1) = j_ := ⟨_, rfl⟩
          replace H : ((impl_determinant.f k1 l0 (l1.drop 1) (Go.bits .andNot .i64 a2 (ji17))).bind fun t176 => (impl_determinant.l0 k1 l0 l1 a2 (wrap64 (x7_1 + (wrap64 ((wrap64 (x8_1 * (rd (rd_L1 l0 (rd l1 0)) x21_1))) * t176)))) (wrap64 (-x8_1)) (rd_L1 l0 (rd l1 0)) ((rd_L1 l0 (rd l1 0)).length : Int) (wrap64 (x21_1 + 1)))) = some r := by first | (rw [hji17] at H; exact H) | (simp only [hji17] at H ⊢; exact H)
          have hji17_ : (IntKind.i64.wrap (1 * 2 ^ min x21_1.toNat 64)) = ji17 := hji17
          have hji17z : x21_1 ≤ 64 → (IntKind.i64.wrap (1 * 2 ^ x21_1.toNat)) = ji17 := shl_small hji17
          have hji17u : (IntKind.i64.wrap (2 ^ min x21_1.toNat 64)) = ji17 := by have h_ := hji17_; rw [Int.one_mul] at h_; exact h_
          have hji17v : x21_1 ≤ 64 → (IntKind.i64.wrap (2 ^ x21_1.toNat)) = ji17 := fun hle_ => by have h_ := hji17z hle_; rw [Int.one_mul] at h_; exact h_
          have hji17y : (wrap64 (1 * 2 ^ min x21_1.toNat 64)) = ji17 := (i64_w _).symm.trans hji17_
          have hji17x : x21_1 ≤ 64 → (wrap64 (1 * 2 ^ x21_1.toNat)) = ji17 := fun h_ => (i64_w _).symm.trans (hji17z h_)
          replace H := Option.bind_eq_some_iff.mp H
          obtain ⟨t176, A180, H⟩ := H
          replace H : (impl_determinant.l0 k1 l0 l1 a2 (wrap64 (x7_1 + (wrap64 ((wrap64 (x8_1 * (rd (rd_L1 l0 (rd l1 0)) x21_1))) * t176)))) (wrap64 (-x8_1)) (rd_L1 l0 (rd l1 0)) ((rd_L1 l0 (rd l1 0)).length : Int) (wrap64 (x21_1 + 1))) = some r := H
          have A18 := Aside0.mk A180
          clear A180
          have H' := Aside0.mk H
          clear H
          have p174 : 0 ≤ (x21_1 : Int) := ofA
          have q174 : x21_1 < ((rd_L1 l0 (rd l1 0)).length : Int) := ofA
          obtain ⟨ad174, e174, hx174_0⟩ := Kd.at_int HR173_0.out x21_1 p174 q174
          cases e174
          replace hx174_0 := (HB.out.cell (World.block_lt_of_cell? w _ hx174_0)).trans hx174_0
          replace p174 := eq_true p174
          replace q174 := eq_true q174
          try go_wp2
          replace HB := Aside0.mk (below_drew1 HB.out)
          obtain ⟨i020, hi020, _, hsz20, _⟩ := info_parts info3
          obtain ⟨A20, hcut20, hA20, hC20⟩ := print_drop_of (P := Try.prog) (Value.int .i64) 0 27 3 .i64 Try.underlying27 hi020 hsz20 (some ad172) c1 l1 1 (by omega) (ofA) HC1.out
          have HR175 := Aside0.mk (Kd.C_of_reads (h1 := fun _ => rfl) (hA20 _ (Kd.reads_of_C HR1.out)))
          have HC175 := Aside0.mk hC20
          clear hA20 hC20 hi020 hsz20
          refine start_ (n := 15) (S := fun w' => True) (ds := []) #[false, false, false, false, false, false, false, false, false, false, false, false, false, false, false] (by kernel_rfl) rfl rfl trivial (fun hHeld => ?_); refine with_tabW impl_determinant.tab9 impl_determinant.bits9 (fun HT_ HW_ => ?_)
          generalize wr.drew = w19 at HB HR175 hHeld ⊢
          refine pureT_ 0 33 HT_ ?_
          refine pureT_ 1 34 HT_ ?_
          refine pureT_ 2 35 HT_ ?_
          refine pureT_ 3 36 HT_ ?_
          refine pureT_ 4 37 HT_ ?_
          refine pureT_ 5 38 HT_ ?_
          refine pureT_ 6 39 HT_ ?_
          refine pureT_ 7 40 HT_ ?_
          refine pureT_ 8 41 HT_ ?_
          refine pureT_ 9 42 HT_ ?_
          refine pureT_ 10 43 HT_ ?_
          refine one_ (i := 11) (N := some 44) #[true, true, true, true, true, true, true, true, true, true, true, true, false, false, false] rfl rfl (one_of HT_.out (by kernel_rfl)) (by decide) (fun K hK => ?_)
          refine goes_ Try.func60 (by kernel_rfl) rfl #[.slice (some ad173) l0.length c0, .slice A20 (l1.drop 1).length (c1 - 1), .int .i64 (Go.bits .andNot .i64 a2 (ji17))] (by rfl) rfl rfl (by (try simp only [List.map_toArray, List.map_cons, List.map_nil]); first | done | (rw [show (l1.drop 1).length = (l1.length - 1) from List.length_drop] <;> rfl) | (simp only [hji17]; rfl) | rfl | (simp only [List.length_drop, List.length_take]; rfl)) ?_
          with_reducible refine (ih k1 (by have := HK1.out; omega) _ _ l0 _ _ (l1.drop 1) (Go.bits .andNot .i64 a2 (ji17)) t176 _ ?side1 ?side2 ?side3 ?side4 A18.out).mono ?_
          (case side1 => exact Cz ((Kd.C_below HR0.out HB.out)))
          (case side2 => exact HC0.out)
          (case side3 => exact Cz ((Kd.C_below HR175.out HB.out)))
          (case side4 => exact HC175.out)
          rintro e w21 ⟨rfl, hb⟩
          refine ⟨_, rfl, ?_⟩
          replace HB := Aside0.mk (below_step (Lz HB) hb)
          (try clear hb)
          (try clear hb2)
          (try clear hk)
          (try clear hi)
          refine hK.out _ _ trivial (fun hHeld => ?_)
          clear hK K
          refine norm_ (a' := ?_) ?_ ?_
          rotate_left
          ·show Act.put _ (some 44) _ = _
           simp only [Act.put, List.setIfInBounds_toArray, List.set_cons_zero, List.set_cons_succ, i64_w, i32_w]
           rfl
          refine pureT_ 12 45 HT_ ?_
          refine pureT_ 13 46 HT_ ?_
          refine pureT_ 14 7 HT_ ?_
          refine done_ (done_of HT_.out (by kernel_rfl)) ?_
          try go_wp2
          go_roundg k1
          case measure => have := HK1.out; omega
          case rel => exact ⟨(wrap64 (x7_1 + (wrap64 ((wrap64 (x8_1 * (rd (rd_L1 l0 (rd l1 0)) x21_1))) * t176)))), (wrap64 (-x8_1)), (wrap64 (x21_1 + 1)), eqA, eqA, eqA, H', ⟨by have := HK1.out; omega⟩, ⟨by exact Lz HB⟩⟩
         rw [if_neg c15] at H
         exact absurd H (by simp)
        rw [if_neg c10] at H
        exact absurd H (by simp)
       rw [if_neg c9] at H
       exact absurd H (by simp)
      rw [if_neg c8] at H
      have c8b0 : decide (x21_1 < ((rd_L1 l0 (rd l1 0)).length : Int)) = false := decide_eq_false c8
      clear c8
      obtain rfl := Option.some.inj H
      go_wp2
      go_ret
      exact ⟨by first | rfl | (simp [errW_none, errW_some] <;> rfl) | (simp [*, errW_none, errW_some] <;> rfl), by exact Lz HB⟩
   rw [if_neg c7] at H
   exact absurd H (by simp)
  rw [if_neg c6] at H
  exact absurd H (by simp)
 rw [if_neg c5] at H
 exact absurd H (by simp)
def impl_bitsOf.l0 : Nat → Int → List Int → Int → Option (List Int)
 | 0, _, _, _ => none
 | k + 1, x0, x3, x4 => if 0 ≤ x4 then (if (shr .i64 x0 x4) > 0 then (if (Go.bits .and .i64 (shr .i64 x0 x4) 1) = 1 then (if x3.length < 17592186044416 then (impl_bitsOf.l0 k x0 (x3 ++ [x4]) (wrap64 (x4 + 1))) else (none)) else (impl_bitsOf.l0 k x0 x3 (wrap64 (x4 + 1)))) else (some x3)) else (none)
def impl_bitsOf.f (k : Nat) (a0 : Int) : Option (List Int) := impl_bitsOf.l0 k a0 ([] : List Int) 0
set_option maxHeartbeats 8000000 in
set_option maxRecDepth 100000 in
theorem impl_bitsOf.calls (k : Nat) (a0 : Int) (r : List Int) (w : World) (h : impl_bitsOf.f k a0 = some r) :
  Calls Try.prog 61 #[.int .i64 a0] w fun e w' => ∃ v0_ : Value, e = .returned (v0_) ∧ Kd.R (Kd.int .i64) 3 w' w.heap.size (fun _ => True) v0_ r ∧ Below w.heap.size w w' := by
 have HB := Aside0.mk (Below.refl w.heap.size w)
 have H : (impl_bitsOf.l0 k a0 ([] : List Int) 0) = some r := h
 clear h
 have H' := Aside0.mk H
 clear H
 go_enter Try.func61, Try.ntmps61
 go_wp2
 go_loopg [3, 4] k (fun kq v3 v4 w' => ∃ (x3_1 : List Int) (x4_1 : Int), v4 = .int .i64 x4_1 ∧ Aside0 (impl_bitsOf.l0 kq a0 x3_1 x4_1 = some r) ∧ Aside0 (kq ≤ k) ∧ Aside0 (Kd.R (Kd.int .i64) 3 w' w.heap.size (fun _ => True) v3 x3_1) ∧ Aside0 (Below w.heap.size w w'))
 case atStart => exact ⟨(([] : List Int)), (0), eqA, H', ⟨Nat.le_refl _⟩, ⟨by first | exact Kd.R_nil _ _ _ _ _ | exact Kd.N_nil _ _ _ _ _ | exact Kd.V_nil _ _ _ _ _ | exact Kd.Q_nil _ _ _ _ _ | exact Kd.S_nil _ _ _ _ _⟩, ⟨by exact Lz HB⟩⟩
 case round =>
  clear H'
  obtain ⟨x3_1, x4_1, rfl, HA, HK1, HO_3, HB⟩ := hrel
  cases gk with
  | zero => exact absurd HA.out (by simp [impl_bitsOf.l0])
  | succ k1 =>
   have H := HA.out
   clear HA
   simp only [impl_bitsOf.l0] at H
   by_cases c2 : 0 ≤ x4_1
   ·rw [if_pos c2] at H
    have c2b0 := eq_true c2
    have c2b1 : decide (0 ≤ x4_1) = true := decide_eq_true c2
    clear c2
    obtain ⟨ji3, hji3⟩ : ∃ j_ : Int, (shr .i64 a0 x4_1) = j_ := ⟨_, rfl⟩
    replace H : (if (ji3) > 0 then (if (Go.bits .and .i64 (ji3) 1) = 1 then (if x3_1.length < 17592186044416 then (impl_bitsOf.l0 k1 a0 (x3_1 ++ [x4_1]) (wrap64 (x4_1 + 1))) else (none)) else (impl_bitsOf.l0 k1 a0 x3_1 (wrap64 (x4_1 + 1)))) else (some x3_1)) = some r := by first | (rw [hji3] at H; exact H) | (simp only [hji3] at H ⊢; exact H)
    have hji3_ : (a0 / 2 ^ min x4_1.toNat 64) = ji3 := hji3
    have hji3z : x4_1 ≤ 64 → (a0 / 2 ^ x4_1.toNat) = ji3 := shr_small hji3
    by_cases c4 : (ji3) > 0
    ·rw [if_pos c4] at H
     have c4b0 : decide (0 < (ji3)) = true := decide_eq_true c4
     clear c4
     have c5b0 := eq_true (ofA : 0 ≤ x4_1)
     by_cases c6 : (Go.bits .and .i64 (ji3) 1) = 1
     ·rw [if_pos c6] at H
      have c6b0 : ((Go.bits .and .i64 (ji3) 1) == 1) = true := beq_iff_eq.mpr c6
      have c6b1 : ((Go.bits .and .i64 (ji3) 1) != 1) = false := bne_eq_false_iff_eq.mpr c6
      clear c6
      by_cases c7 : x3_1.length < 17592186044416
      ·rw [if_pos c7] at H
       have LMc7 := Aside0.mk c7
       clear c7
       obtain ⟨y177, hy177⟩ : ∃ y_ : List Int, y_ = (x3_1 ++ [x4_1]) := ⟨_, rfl⟩
       replace H : (impl_bitsOf.l0 k1 a0 y177 (wrap64 (x4_1 + 1))) = some r := by first | (rw [hy177]; with_reducible exact H) | (have H2_ := (Option.bind_some _ _).symm.trans H; rw [hy177]; with_reducible exact H2_) | (have H2_ := (Option.bind_some _ _).symm.trans H; with_reducible exact H2_) | with_reducible exact H | (rw [hy177]; exact H) | exact H
       have Ny177 := Aside0.mk hy177
       clear hy177
       have H' := Aside0.mk H
       clear H
       go_wp2_with (first | ((with_reducible refine gate_builtin (b := .append) (xs := #[.tmp 16, .tmp 18]) rfl ?_); at_builtin; refine Kd.R_append (Kd.int .i64) (w0 := w) w.heap.size rfl (.tmp 16) (.tmp 18) 27 3 (.int .i64 0) 8 rfl Try.underlying27 info3 rfl (by decide) (by omega) u3 x3_1 x4_1 [.int .i64 x4_1] (fun _ => True) (fun _ => False) rfl rfl ?aP (fun _ hk => hk.elim) ?aF ?aO ?aB ?aS ?aL ?_; (case aP => exact rfl); (case aB => exact (Lz HB)); (case aF => exact (fun _ _ => trivial)); (case aO => exact (Rz HO_3)); (case aS => exact (below_size (Lz HB))); (case aL => have := LMc7.out; omega); intro v178 w8 ho hb hg hat; rw [← Ny177.out] at ho; replace HB := Aside0.mk (hb); have HO179 := Aside0.mk (ho); clear HO_3; clear ho hb hg hat))
       go_roundg k1
       case measure => have := HK1.out; omega
       case rel => exact ⟨(y177), (wrap64 (x4_1 + 1)), eqA, H', ⟨by have := HK1.out; omega⟩, ⟨by exact Rz HO179⟩, ⟨by exact Lz HB⟩⟩
      rw [if_neg c7] at H
      exact absurd H (by simp)
     rw [if_neg c6] at H
     have c6b0 : ((Go.bits .and .i64 (ji3) 1) == 1) = false := beq_eq_false_iff_ne.mpr c6
     have c6b1 : ((Go.bits .and .i64 (ji3) 1) != 1) = true := bne_iff_ne.mpr c6
     have H' := Aside0.mk H
     clear H
     go_wp2
     go_roundg k1
     case measure => have := HK1.out; omega
     case rel => exact ⟨(x3_1), (wrap64 (x4_1 + 1)), eqA, H', ⟨by have := HK1.out; omega⟩, ⟨by exact Rz HO_3⟩, ⟨by exact Lz HB⟩⟩
    rw [if_neg c4] at H
    have c4b0 : decide (0 < (ji3)) = false := decide_eq_false c4
    clear c4
    obtain rfl := Option.some.inj H
    go_wp2
    go_ret
    exact ⟨_, by first | rfl | (simp [errW_none, errW_some] <;> rfl) | (simp only [← hji3]; first | rfl | (simp [errW_none, errW_some] <;> rfl)) | (simp [*, errW_none, errW_some] <;> rfl), by exact Rz HO_3, by exact Lz HB⟩
   rw [if_neg c2] at H
   exact absurd H (by simp)
def impl_Determinant.f (k : Nat) (l0 : List (List Int)) : Option (Int) := (impl_MatrixOk.f k l0).bind fun t180 => (if t180 = true then ((impl_bitsOf.f k (wrap64 ((shl .i64 1 (l0.length : Int)) - 1))).bind fun t181 => ((impl_determinant.f k l0 t181 (wrap64 ((shl .i64 1 (l0.length : Int)) - 1))).bind fun t184 => (some t184))) else (some 0))
def impl_Determinant.T3 : Bool × List (List Nat × List Nat) := (true, [([], []), ([], []), ([1], [1]), ([2], [2]), ([3], [3]), ([4], [4]), ([], []), ([6], [6]), ([7], [7]), ([8], [8]), ([0, 5, 9, 5], [0, 5, 9]), ([10, 10, 0, 1, 2, 3, 4, 5, 6, 7, 8, 9, 10], [10])])
def impl_Determinant.B3 : List Nat := [0, 0, 2, 6, 14, 30, 0, 64, 192, 448, 1023, 2047]
theorem impl_Determinant.tab3 : rtab .any (opsOf Try.f28 3) = impl_Determinant.T3 := by kernel_rfl
theorem impl_Determinant.bits3 : waitsOk impl_Determinant.T3.2 impl_Determinant.B3 = true := by kernel_rfl
set_option maxHeartbeats 8000000 in
set_option maxRecDepth 100000 in
theorem impl_Determinant.calls (k : Nat) (A0 : Option Addr) (c0 : Nat) (l0 : List (List Int)) (r : Int) (w : World) (hr0 : Kd.C (Kd.slice 3 (Kd.int .i64)) w A0 l0.length l0) (hc0 : l0.length ≤ c0) (h : impl_Determinant.f k l0 = some r) :
  Calls Try.prog 28 #[.slice A0 l0.length c0] w fun e w' => e = .returned (.int .i64 r) ∧ Below w.heap.size w w' := by
 have HR0 := Aside0.mk hr0
 have HC0 := Aside0.mk hc0
 clear hr0 hc0
 have HB := Aside0.mk (Below.refl w.heap.size w)
 have H : ((impl_MatrixOk.f k l0).bind fun t180 => (if t180 = true then ((impl_bitsOf.f k (wrap64 ((shl .i64 1 (l0.length : Int)) - 1))).bind fun t181 => ((impl_determinant.f k l0 t181 (wrap64 ((shl .i64 1 (l0.length : Int)) - 1))).bind fun t184 => (some t184))) else (some 0))) = some r := h
 clear h
 replace H := Option.bind_eq_some_iff.mp H
 obtain ⟨t180, A20, H⟩ := H
 replace H : (if t180 = true then ((impl_bitsOf.f k (wrap64 ((shl .i64 1 (l0.length : Int)) - 1))).bind fun t181 => ((impl_determinant.f k l0 t181 (wrap64 ((shl .i64 1 (l0.length : Int)) - 1))).bind fun t184 => (some t184))) else (some 0)) = some r := H
 have A2 := Aside0.mk A20
 clear A20
 by_cases c3 : t180 = true
 ·subst c3
  have H1 : ((impl_bitsOf.f k (wrap64 ((shl .i64 1 (l0.length : Int)) - 1))).bind fun t181 => ((impl_determinant.f k l0 t181 (wrap64 ((shl .i64 1 (l0.length : Int)) - 1))).bind fun t184 => (some t184))) = some r := by rw [if_pos rfl] at H; exact H
  clear H
  have H := H1
  clear H1
  obtain ⟨ji4, hji4⟩ : ∃ j_ : Int, (shl .i64 1 (l0.length : Int)) = j_ := ⟨_, rfl⟩
  replace H : ((impl_bitsOf.f k (wrap64 ((ji4) - 1))).bind fun t181 => ((impl_determinant.f k l0 t181 (wrap64 ((ji4) - 1))).bind fun t184 => (some t184))) = some r := by first | (rw [hji4] at H; exact H) | (simp only [hji4] at H ⊢; exact H)
  (try rw [hji4] at A2)
  have hji4_ : (IntKind.i64.wrap (1 * 2 ^ min (l0.length : Int).toNat 64)) = ji4 := hji4
  have hji4z : (l0.length : Int) ≤ 64 → (IntKind.i64.wrap (1 * 2 ^ (l0.length : Int).toNat)) = ji4 := shl_small hji4
  have hji4p : (IntKind.i64.wrap (1 * 2 ^ min l0.length 64)) = ji4 := hji4_
  have hji4q : (l0.length : Int) ≤ 64 → (IntKind.i64.wrap (1 * 2 ^ l0.length)) = ji4 := hji4z
  have hji4r : (IntKind.i64.wrap (2 ^ min l0.length 64)) = ji4 := by have h_ := hji4p; rw [Int.one_mul] at h_; exact h_
  have hji4s : (l0.length : Int) ≤ 64 → (IntKind.i64.wrap (2 ^ l0.length)) = ji4 := fun hle_ => by have h_ := hji4q hle_; rw [Int.one_mul] at h_; exact h_
  have hji4u : (IntKind.i64.wrap (2 ^ min (l0.length : Int).toNat 64)) = ji4 := by have h_ := hji4_; rw [Int.one_mul] at h_; exact h_
  have hji4v : (l0.length : Int) ≤ 64 → (IntKind.i64.wrap (2 ^ (l0.length : Int).toNat)) = ji4 := fun hle_ => by have h_ := hji4z hle_; rw [Int.one_mul] at h_; exact h_
  have hji4y : (wrap64 (1 * 2 ^ min (l0.length : Int).toNat 64)) = ji4 := (i64_w _).symm.trans hji4_
  have hji4x : (l0.length : Int) ≤ 64 → (wrap64 (1 * 2 ^ (l0.length : Int).toNat)) = ji4 := fun h_ => (i64_w _).symm.trans (hji4z h_)
  replace H := Option.bind_eq_some_iff.mp H
  obtain ⟨t181, A50, H⟩ := H
  replace H : ((impl_determinant.f k l0 t181 (wrap64 ((ji4) - 1))).bind fun t184 => (some t184)) = some r := H
  have A5 := Aside0.mk A50
  clear A50
  replace H := Option.bind_eq_some_iff.mp H
  obtain ⟨t184, A60, H⟩ := H
  replace H : (some t184) = some r := H
  have A6 := Aside0.mk A60
  clear A60
  obtain rfl := Option.some.inj H
  go_enter Try.func28, Try.ntmps28
  try go_wp2_with (first | ((with_reducible refine gate_callee (f := 18) rfl ?_); refine goesM_ (some 4) rfl rfl Try.func18 (by kernel_rfl) rfl #[.slice A0 l0.length c0] rfl ?_; (with_reducible refine (impl_MatrixOk.calls k _ _ l0 true _ ?side1 ?side2 A2.out).mono ?_); (case side1 => exact Cz (HR0.out)); (case side2 => exact HC0.out); rintro e w' ⟨rfl, ⟨nd, rfl⟩⟩; refine ⟨_, rfl, ?_⟩))
  have HBq_ : Aside0 (Below w.heap.size w (w.drewN nd)) := Aside0.mk (pw_below_drewN HB.out _)
  clear HB
  generalize w.drewN nd = wq_ at HBq_ ⊢
  have HB := HBq_
  clear HBq_
  replace HB := Aside0.mk (below_drew1 HB.out)
  refine start_ (n := 12) (S := fun w' => True) (ds := []) #[false, false, false, false, false, false, false, false, false, false, false, false] (by kernel_rfl) rfl rfl trivial (fun hHeld => ?_); refine with_tabW impl_Determinant.tab3 impl_Determinant.bits3 (fun HT_ HW_ => ?_)
  generalize wq_.drew = w7 at HB hHeld ⊢
  refine pureT_ 0 6 HT_ ?_
  refine pureT_ 1 7 HT_ ?_
  refine pureT_ 2 8 HT_ ?_
  refine pureT_ 3 9 HT_ ?_
  refine pureT_ 4 10 HT_ ?_
  refine pureT_ 6 12 HT_ ?_
  refine pureT_ 7 13 HT_ ?_
  refine pureT_ 8 14 HT_ ?_
  refine pureT_ 9 15 HT_ ?_
  refine one_ (i := 5) (N := some 11) #[true, true, true, true, true, true, true, true, true, true, false, false] rfl rfl (one_of HT_.out (by kernel_rfl)) (by decide) (fun K hK => ?_)
  refine goes_ Try.func61 (by kernel_rfl) rfl #[.int .i64 (wrap64 ((ji4) - 1))] (by rfl) rfl rfl (by (try simp only [List.map_toArray, List.map_cons, List.map_nil]); first | done | (simp only [hji4]; rfl) | rfl | (simp only [List.length_drop, List.length_take]; rfl)) ?_
  with_reducible refine (impl_bitsOf.calls k (wrap64 ((ji4) - 1)) t181 _ A5.out).mono ?_
  rintro e w8 ⟨v182, rfl, ho0, hb⟩
  refine ⟨_, rfl, ?_⟩
  have HO183 := Aside0.mk (Kd.R_lower ho0 (below_size (Lz HB)))
  replace HB := Aside0.mk (below_step (Lz HB) hb)
  (try clear hb)
  (try clear hb2)
  (try clear hk)
  (try clear hi)
  (try clear ho0)
  obtain ⟨Ao9, co9, eo9⟩ := Kd.R_slice HO183.out
  (first | subst eo9 | (injection eo9 with f1_ f2_ f3_; have f4_ := f1_.symm; have f5_ := f3_.symm; clear f1_ f2_ f3_; subst f4_; subst f5_))
  refine hK.out _ _ trivial (fun hHeld => ?_)
  clear hK K
  refine norm_ (a' := ?_) ?_ ?_
  rotate_left
  ·show Act.put _ (some 11) _ = _
   simp only [Act.put, List.setIfInBounds_toArray, List.set_cons_zero, List.set_cons_succ, i64_w, i32_w]
   rfl
  refine one_ (i := 10) (N := some 16) #[true, true, true, true, true, true, true, true, true, true, true, false] rfl rfl (one_of HT_.out (by kernel_rfl)) (by decide) (fun K hK => ?_)
  refine goes_ Try.func60 (by kernel_rfl) rfl #[.slice A0 l0.length c0, .slice Ao9 t181.length co9, .int .i64 (wrap64 ((ji4) - 1))] (by rfl) rfl rfl (by (try simp only [List.map_toArray, List.map_cons, List.map_nil]); first | done | (simp only [hji4]; rfl) | rfl | (simp only [List.length_drop, List.length_take]; rfl)) ?_
  with_reducible refine (impl_determinant.calls k _ _ l0 _ _ t181 (wrap64 ((ji4) - 1)) t184 _ ?side1 ?side2 ?side3 ?side4 A6.out).mono ?_
  (case side1 => exact Cz ((Kd.C_below HR0.out HB.out)))
  (case side2 => exact HC0.out)
  (case side3 => exact Cz ((Kd.R_reads' HO183.out).2.2))
  (case side4 => exact (Kd.R_reads' HO183.out).2.1)
  rintro e w10 ⟨rfl, hb⟩
  refine ⟨_, rfl, ?_⟩
  replace HO183 := Aside0.mk (Kd.R_below (Rz HO183) hb)
  replace HB := Aside0.mk (below_step (Lz HB) hb)
  (try clear hb)
  (try clear hb2)
  (try clear hk)
  (try clear hi)
  refine hK.out _ _ trivial (fun hHeld => ?_)
  clear hK K
  refine norm_ (a' := ?_) ?_ ?_
  rotate_left
  ·show Act.put _ (some 16) _ = _
   simp only [Act.put, List.setIfInBounds_toArray, List.set_cons_zero, List.set_cons_succ, i64_w, i32_w]
   rfl
  refine pureT_ 11 2 HT_ ?_
  refine done_ (done_of HT_.out (by kernel_rfl)) ?_
  try go_wp2
  go_ret
  exact ⟨by first | rfl | (simp [errW_none, errW_some] <;> rfl) | (simp only [← hji4]; first | rfl | (simp [errW_none, errW_some] <;> rfl)) | (simp [*, errW_none, errW_some] <;> rfl), by exact Lz HB⟩
 replace c3 := Bool.eq_false_iff.mpr c3
 subst c3
 have H1 : (some 0) = some r := by rw [if_neg (show ¬ (false = true) by decide)] at H; exact H
 clear H
 have H := H1
 clear H1
 obtain rfl := Option.some.inj H
 go_enter Try.func28, Try.ntmps28
 go_wp2_with (first | ((with_reducible refine gate_callee (f := 18) rfl ?_); refine goesM_ (some 4) rfl rfl Try.func18 (by kernel_rfl) rfl #[.slice A0 l0.length c0] rfl ?_; (with_reducible refine (impl_MatrixOk.calls k _ _ l0 false _ ?side1 ?side2 A2.out).mono ?_); (case side1 => exact Cz (HR0.out)); (case side2 => exact HC0.out); rintro e w' ⟨rfl, ⟨nd, rfl⟩⟩; refine ⟨_, rfl, ?_⟩))
 go_ret
 exact ⟨by first | rfl | (simp [errW_none, errW_some] <;> rfl) | (simp [*, errW_none, errW_some] <;> rfl), by exact Lz HB⟩
mutual
def laws_FnExactDeterminant.j0 : Nat → List (List Int) → Option (Bool)
 | 0, _ => none
 | k + 1, x0 => (laws_toIntSS.f k x0).bind fun t186 => ((spec_Determinant.f k t186).bind fun t189 => ((laws_toIntSS.f k x0).bind fun t190 => ((impl_Determinant.f k t190).bind fun t193 => (if t193 = t189 then (laws_FnExactDeterminant.j1 k x0 t190) else (some false)))))
def laws_FnExactDeterminant.j1 : Nat → List (List Int) → List (List Int) → Option (Bool)
 | 0, _, _ => none
 | k + 1, x0, x5 => (laws_toIntSS.f k x0).bind fun t194 => ((laws_eqIntSS.f k x5 t194).bind fun t197 => (if t197 = true then (some true) else (some false)))
end
def laws_FnExactDeterminant.f (k : Nat) (l0 : List (List Int)) : Option (Bool) := (laws_szIntSS.f k l0 1048576).bind fun t185 => (if t185 < 0 then (some true) else (laws_FnExactDeterminant.j0 k l0))
set_option maxHeartbeats 8000000 in
set_option maxRecDepth 100000 in
theorem laws_FnExactDeterminant.calls (k : Nat) (A0 : Option Addr) (c0 : Nat) (l0 : List (List Int)) (r : Bool) (w : World) (hr0 : Kd.C (Kd.slice 3 (Kd.int .i64)) w A0 l0.length l0) (hc0 : l0.length ≤ c0) (h : laws_FnExactDeterminant.f k l0 = some r) :
  Calls Try.prog 5 #[.slice A0 l0.length c0] w fun e w' => e = .returned (.bool r) ∧ Below w.heap.size w w' := by
 have HR0 := Aside0.mk hr0
 have HC0 := Aside0.mk hc0
 clear hr0 hc0
 have HB := Aside0.mk (Below.refl w.heap.size w)
 have H : ((laws_szIntSS.f k l0 1048576).bind fun t185 => (if t185 < 0 then (some true) else (laws_FnExactDeterminant.j0 k l0))) = some r := h
 clear h
 replace H := Option.bind_eq_some_iff.mp H
 obtain ⟨t185, A20, H⟩ := H
 replace H : (if t185 < 0 then (some true) else (laws_FnExactDeterminant.j0 k l0)) = some r := H
 have A2 := Aside0.mk A20
 clear A20
 have HC3 := Aside0.mk H
 clear H
 go_enter Try.func5, Try.ntmps5
 go_upto_if 11 with (first | ((with_reducible refine gate_callee (f := 15) rfl ?_); refine goesM_ (some 9) rfl rfl Try.func15 (by kernel_rfl) rfl #[.slice A0 l0.length c0, .int .i64 1048576] rfl ?_; (with_reducible refine (laws_szIntSS.calls k _ _ l0 1048576 t185 _ ?side1 ?side2 A2.out).mono ?_); (case side1 => exact Cz (HR0.out)); (case side2 => exact HC0.out); rintro e w' ⟨rfl, ⟨nd, rfl⟩⟩; refine ⟨_, rfl, ?_⟩))
 (try simp only [Act.put, List.setIfInBounds_toArray, List.set_cons_zero, List.set_cons_succ])
 go_cut [] (fun wc => ∃ (kq : Nat), Aside0 (laws_FnExactDeterminant.j0 kq l0 = some r) ∧ Aside0 (kq ≤ k) ∧ Aside0 (Below w.heap.size w wc))
 case first =>
  have H := HC3.out
  clear HC3
  by_cases c4 : t185 < 0
  ·rw [if_pos c4] at H
   have c4b0 : decide (t185 < 0) = true := decide_eq_true c4
   clear c4
   (first | rw [c4b0] | (simp only [i64_w, i32_w]; rw [c4b0]) | skip)
   obtain rfl := Option.some.inj H
   go_wp2
   go_ret
   exact ⟨by first | rfl | (simp [errW_none, errW_some] <;> rfl) | (simp [*, errW_none, errW_some] <;> rfl), by exact Lz HB⟩
  rw [if_neg c4] at H
  have c4b0 : decide (t185 < 0) = false := decide_eq_false c4
  clear c4
  (first | rw [c4b0] | (simp only [i64_w, i32_w]; rw [c4b0]) | skip)
  have H' := Aside0.mk H
  clear H
  go_wp2
  go_meet
  case rel => exact ⟨_, H', ⟨by first | omega | exact Nat.le_refl _⟩, ⟨by exact Lz HB⟩⟩
 case rest =>
  clear HC3
  try clear c4
  try clear c4b0
  obtain ⟨kq, HA, HJ2, HB⟩ := hcut
  cases kq with
  | zero => exact absurd HA.out (by simp [laws_FnExactDeterminant.j0])
  | succ kj2 =>
   have H := HA.out
   clear HA
   simp only [laws_FnExactDeterminant.j0] at H
   replace H := Option.bind_eq_some_iff.mp H
   obtain ⟨t186, A50, H⟩ := H
   replace H : ((spec_Determinant.f kj2 t186).bind fun t189 => ((laws_toIntSS.f kj2 l0).bind fun t190 => ((impl_Determinant.f kj2 t190).bind fun t193 => (if t193 = t189 then (laws_FnExactDeterminant.j1 kj2 l0 t190) else (some false))))) = some r := H
   have A5 := Aside0.mk A50
   clear A50
   replace H := Option.bind_eq_some_iff.mp H
   obtain ⟨t189, A60, H⟩ := H
   replace H : ((laws_toIntSS.f kj2 l0).bind fun t190 => ((impl_Determinant.f kj2 t190).bind fun t193 => (if t193 = t189 then (laws_FnExactDeterminant.j1 kj2 l0 t190) else (some false)))) = some r := H
   have A6 := Aside0.mk A60
   clear A60
   replace H := Option.bind_eq_some_iff.mp H
   obtain ⟨t190, A70, H⟩ := H
   replace H : ((impl_Determinant.f kj2 t190).bind fun t193 => (if t193 = t189 then (laws_FnExactDeterminant.j1 kj2 l0 t190) else (some false))) = some r := H
   have A7 := Aside0.mk A70
   clear A70
   replace H := Option.bind_eq_some_iff.mp H
   obtain ⟨t193, A80, H⟩ := H
   replace H : (if t193 = t189 then (laws_FnExactDeterminant.j1 kj2 l0 t190) else (some false)) = some r := H
   have A8 := Aside0.mk A80
   clear A80
   have HC9 := Aside0.mk H
   clear H
   go_upto_if 21 with (first | ((with_reducible refine gate_callee (f := 17) rfl ?_); refine goesM_ (some 13) rfl rfl Try.func17 (by kernel_rfl) rfl #[.slice A0 l0.length c0] rfl ?_; (with_reducible refine (laws_toIntSS.calls kj2 _ _ l0 t186 _ ?side1 ?side2 A5.out).mono ?_); (case side1 => exact Cz ((Kd.C_below HR0.out HB.out))); (case side2 => exact HC0.out); rintro e w10 ⟨v187, rfl, ho0, hb⟩; refine ⟨_, rfl, ?_⟩; have HO188 := Aside0.mk (Kd.S_lower ho0 (below_size (Lz HB))); replace HB := Aside0.mk (below_step (Lz HB) hb); (try clear hb); (try clear ho0); obtain ⟨Ao11, co11, eo11⟩ := Kd.S_slice HO188.out; subst eo11) | ((with_reducible refine gate_callee (f := 27) rfl ?_); refine goesM_ (some 14) rfl rfl Try.func27 (by kernel_rfl) rfl #[.slice Ao11 t186.length co11] rfl ?_; (with_reducible refine (spec_Determinant.calls kj2 _ _ t186 t189 _ ?side1 ?side2 A6.out).mono ?_); (case side1 => exact Cz ((Kd.S_reads' HO188.out).2.2)); (case side2 => exact (Kd.S_reads' HO188.out).2.1); rintro e w12 ⟨rfl, hb⟩; refine ⟨_, rfl, ?_⟩; replace HO188 := Aside0.mk (Kd.S_below (by (with_reducible repeat (first | apply Kd.S_alloc | apply Kd.S_drewN | apply Kd.S_drew)); exact HO188.out) hb); replace HB := Aside0.mk (below_step (Lz HB) hb); (try clear hb); (try clear hb2); (try clear hk); (try clear hi)) | ((with_reducible refine gate_callee (f := 17) rfl ?_); refine goesM_ (some 16) rfl rfl Try.func17 (by kernel_rfl) rfl #[.slice A0 l0.length c0] rfl ?_; (with_reducible refine (laws_toIntSS.calls kj2 _ _ l0 t190 _ ?side1 ?side2 A7.out).mono ?_); (case side1 => exact Cz ((Kd.C_below HR0.out HB.out))); (case side2 => exact HC0.out); rintro e w13 ⟨v191, rfl, ho0, hb⟩; refine ⟨_, rfl, ?_⟩; have HO192 := Aside0.mk (Kd.S_lower (Kd.S_new' ho0 (Kd.S_lt (by (with_reducible repeat (first | apply Kd.S_alloc | apply Kd.S_drewN | apply Kd.S_drew)); exact HO188.out))) (below_size (Lz HB))); replace HO188 := Aside0.mk (Kd.S_elder' (by (with_reducible repeat (first | apply Kd.S_alloc | apply Kd.S_drewN | apply Kd.S_drew)); exact HO188.out) (Kd.S_base ho0) hb); replace HB := Aside0.mk (below_step (Lz HB) hb); (try clear hb); (try clear ho0); obtain ⟨Ao14, co14, eo14⟩ := Kd.S_slice HO192.out; subst eo14) | ((with_reducible refine gate_callee (f := 28) rfl ?_); refine goesM_ (some 18) rfl rfl Try.func28 (by kernel_rfl) rfl #[.slice Ao14 t190.length co14] rfl ?_; (with_reducible refine (impl_Determinant.calls kj2 _ _ t190 t193 _ ?side1 ?side2 A8.out).mono ?_); (case side1 => exact Cz ((Kd.S_reads' HO192.out).2.2)); (case side2 => exact (Kd.S_reads' HO192.out).2.1); rintro e w15 ⟨rfl, hb⟩; refine ⟨_, rfl, ?_⟩; replace HO188 := Aside0.mk (Kd.S_below (by (with_reducible repeat (first | apply Kd.S_alloc | apply Kd.S_drewN | apply Kd.S_drew)); exact HO188.out) hb); replace HO192 := Aside0.mk (Kd.S_below (by (with_reducible repeat (first | apply Kd.S_alloc | apply Kd.S_drewN | apply Kd.S_drew)); exact HO192.out) hb); replace HB := Aside0.mk (below_step (Lz HB) hb); (try clear hb); (try clear hb2); (try clear hk); (try clear hi)))
   (try simp only [Act.put, List.setIfInBounds_toArray, List.set_cons_zero, List.set_cons_succ])
   go_cut [] (fun wc => ∃ (kq : Nat), Aside0 (laws_FnExactDeterminant.j1 kq l0 t190 = some r) ∧ Aside0 (kq ≤ kj2) ∧ Aside0 (Kd.S (Kd.slice 3 (Kd.int .i64)) 27 wc w.heap.size (fun _ => True) (.slice Ao14 t190.length co14) t190) ∧ Aside0 (Below w.heap.size w wc))
   case first =>
    have H := HC9.out
    clear HC9
    by_cases c16 : t193 = t189
    ·rw [if_pos c16] at H
     have c16b0 : (t193 == t189) = true := beq_iff_eq.mpr c16
     have c16b1 : (t193 != t189) = false := bne_eq_false_iff_eq.mpr c16
     clear c16
     (first | rw [c16b0] | (simp only [i64_w, i32_w]; rw [c16b0]) | skip)
     have H' := Aside0.mk H
     clear H
     go_wp2
     go_meet
     case rel => exact ⟨_, H', ⟨by have := HJ2.out; first | omega | exact Nat.le_refl _⟩, ⟨by (with_reducible repeat (first | apply Kd.S_alloc | apply Kd.S_drewN | apply Kd.S_drew)); exact Kd.S_mono HO192.out (fun _ hk => trivial)⟩, ⟨by exact Lz HB⟩⟩
    rw [if_neg c16] at H
    have c16b0 : (t193 == t189) = false := beq_eq_false_iff_ne.mpr c16
    have c16b1 : (t193 != t189) = true := bne_iff_ne.mpr c16
    (first | rw [c16b0] | (simp only [i64_w, i32_w]; rw [c16b0]) | skip)
    obtain rfl := Option.some.inj H
    go_wp2
    go_ret
    exact ⟨by first | rfl | (simp [errW_none, errW_some] <;> rfl) | (simp [*, errW_none, errW_some] <;> rfl), by exact Lz HB⟩
   case rest =>
    clear HC9
    try clear c4
    try clear c4b0
    try clear c16
    try clear c16b0
    try clear c16b1
    obtain ⟨kq, HA, HJ8, HO_5, HB⟩ := hcut
    cases kq with
    | zero => exact absurd HA.out (by simp [laws_FnExactDeterminant.j1])
    | succ kj8 =>
     have H := HA.out
     clear HA
     simp only [laws_FnExactDeterminant.j1] at H
     replace H := Option.bind_eq_some_iff.mp H
     obtain ⟨t194, A170, H⟩ := H
     replace H : ((laws_eqIntSS.f kj8 t190 t194).bind fun t197 => (if t197 = true then (some true) else (some false))) = some r := H
     have A17 := Aside0.mk A170
     clear A170
     replace H := Option.bind_eq_some_iff.mp H
     obtain ⟨t197, A180, H⟩ := H
     replace H : (if t197 = true then (some true) else (some false)) = some r := H
     have A18 := Aside0.mk A180
     clear A180
     by_cases c19 : t197 = true
     ·subst c19
      have H1 : (some true) = some r := by rw [if_pos rfl] at H; exact H
      clear H
      have H := H1
      clear H1
      obtain rfl := Option.some.inj H
      go_wp2_with (first | ((with_reducible refine gate_callee (f := 17) rfl ?_); refine goesM_ (some 24) rfl rfl Try.func17 (by kernel_rfl) rfl #[.slice A0 l0.length c0] rfl ?_; (with_reducible refine (laws_toIntSS.calls kj8 _ _ l0 t194 _ ?side1 ?side2 A17.out).mono ?_); (case side1 => exact Cz ((Kd.C_below HR0.out HB.out))); (case side2 => exact HC0.out); rintro e w20 ⟨v195, rfl, ho0, hb⟩; refine ⟨_, rfl, ?_⟩; have HO196 := Aside0.mk (Kd.S_lower (Kd.S_new' ho0 (Kd.S_lt (by (with_reducible repeat (first | apply Kd.S_alloc | apply Kd.S_drewN | apply Kd.S_drew)); exact HO_5.out))) (below_size (Lz HB))); replace HO_5 := Aside0.mk (Kd.S_elder' (by (with_reducible repeat (first | apply Kd.S_alloc | apply Kd.S_drewN | apply Kd.S_drew)); exact HO_5.out) (Kd.S_base ho0) hb); replace HB := Aside0.mk (below_step (Lz HB) hb); (try clear hb); (try clear ho0); obtain ⟨Ao21, co21, eo21⟩ := Kd.S_slice HO196.out; subst eo21) | ((with_reducible refine gate_callee (f := 19) rfl ?_); refine goesM_ (some 25) rfl rfl Try.func19 (by kernel_rfl) rfl #[.slice Ao14 t190.length co14, .slice Ao21 t194.length co21] rfl ?_; (with_reducible refine (laws_eqIntSS.calls kj8 _ _ t190 _ _ t194 true _ ?side1 ?side2 ?side3 ?side4 A18.out).mono ?_); (case side1 => exact Cz ((Kd.S_reads' HO_5.out).2.2)); (case side2 => exact (Kd.S_reads' HO_5.out).2.1); (case side3 => exact Cz ((Kd.S_reads' HO196.out).2.2)); (case side4 => exact (Kd.S_reads' HO196.out).2.1); rintro e w' ⟨rfl, ⟨nd, rfl⟩⟩; refine ⟨_, rfl, ?_⟩))
      go_ret
      exact ⟨by first | rfl | (simp [errW_none, errW_some] <;> rfl) | (simp [*, errW_none, errW_some] <;> rfl), by exact Lz HB⟩
     replace c19 := Bool.eq_false_iff.mpr c19
     subst c19
     have H1 : (some false) = some r := by rw [if_neg (show ¬ (false = true) by decide)] at H; exact H
     clear H
     have H := H1
     clear H1
     obtain rfl := Option.some.inj H
     go_wp2_with (first | ((with_reducible refine gate_callee (f := 17) rfl ?_); refine goesM_ (some 24) rfl rfl Try.func17 (by kernel_rfl) rfl #[.slice A0 l0.length c0] rfl ?_; (with_reducible refine (laws_toIntSS.calls kj8 _ _ l0 t194 _ ?side1 ?side2 A17.out).mono ?_); (case side1 => exact Cz ((Kd.C_below HR0.out HB.out))); (case side2 => exact HC0.out); rintro e w22 ⟨v195, rfl, ho0, hb⟩; refine ⟨_, rfl, ?_⟩; have HO196 := Aside0.mk (Kd.S_lower (Kd.S_new' ho0 (Kd.S_lt (by (with_reducible repeat (first | apply Kd.S_alloc | apply Kd.S_drewN | apply Kd.S_drew)); exact HO_5.out))) (below_size (Lz HB))); replace HO_5 := Aside0.mk (Kd.S_elder' (by (with_reducible repeat (first | apply Kd.S_alloc | apply Kd.S_drewN | apply Kd.S_drew)); exact HO_5.out) (Kd.S_base ho0) hb); replace HB := Aside0.mk (below_step (Lz HB) hb); (try clear hb); (try clear ho0); obtain ⟨Ao23, co23, eo23⟩ := Kd.S_slice HO196.out; subst eo23) | ((with_reducible refine gate_callee (f := 19) rfl ?_); refine goesM_ (some 25) rfl rfl Try.func19 (by kernel_rfl) rfl #[.slice Ao14 t190.length co14, .slice Ao23 t194.length co23] rfl ?_; (with_reducible refine (laws_eqIntSS.calls kj8 _ _ t190 _ _ t194 false _ ?side1 ?side2 ?side3 ?side4 A18.out).mono ?_); (case side1 => exact Cz ((Kd.S_reads' HO_5.out).2.2)); (case side2 => exact (Kd.S_reads' HO_5.out).2.1); (case side3 => exact Cz ((Kd.S_reads' HO196.out).2.2)); (case side4 => exact (Kd.S_reads' HO196.out).2.1); rintro e w' ⟨rfl, ⟨nd, rfl⟩⟩; refine ⟨_, rfl, ?_⟩))
     go_ret
     exact ⟨by first | rfl | (simp [errW_none, errW_some] <;> rfl) | (simp [*, errW_none, errW_some] <;> rfl), by exact Lz HB⟩
end Go.Proofs.Ytchkndeeaoohpaa.P
end
section
namespace Go.Proofs.Ytchkndeeaoohpaa.Pure
open Go.RowKit Go.Proofs.Ytchkndeeaoohpaa.P Go.Proofs.YtchkndeeaoohpaaW.PrintWords Go.Proofs.YtchkndeeaoohpaaW.PrintLast Go.Proofs.YtchkndeeaoohpaaW.PrintMore
def StatFnExactDeterminant : Prop := ∀ (l0 : List (List (Int))), (l0.length ≤ maxLen ∧ ∀ x2 ∈ l0, x2.length ≤ maxLen ∧ ∀ x2_ ∈ x2, (Lit.int .i64 x2_).wf = true) → ∃ k, laws_FnExactDeterminant.f k l0 = some true
end Go.Proofs.Ytchkndeeaoohpaa.Pure
end
section
set_option linter.unusedVariables false
set_option linter.unusedSimpArgs false
namespace Go.Proofs.Ytchkndeeaoohpaa.Pure
open Go.RowKit Go.Proofs.Ytchkndeeaoohpaa.P Go.Proofs.YtchkndeeaoohpaaW.PrintWords Go.Proofs.YtchkndeeaoohpaaW.PrintLast Go.Proofs.YtchkndeeaoohpaaW.PrintMore Go.Proofs.Ytchkndeeaoohpaa.Base Go.Proofs.Ytchkndeeaoohpaa.Det Go.Proofs.Ytchkndeeaoohpaa.Bits Go.Proofs.Ytchkndeeaoohpaa.Loops
def rowX (m : List (List Int)) (r c : Int) : Int := rd (rd_L1 m r) c
theorem specDet_ev (m : List (List Int)) (n : Nat) (hn : n ≤ 6) (hm : m.length = n) (hr : ∀ r : Int, 0 ≤ r → r < n → (rd_L1 m r).length = n) :
    ∀ (R C : List Int), (∀ r ∈ R, 0 ≤ r ∧ r < n) → (∀ c ∈ C, 0 ≤ c ∧ c < n) → R.length < 1000 → C.length < 1000 → Ev (fun k => spec_l03Det.f k m R C) (dF (rowX m) R C) := by
  intro R
  induction R with
  | nil =>
    intro C _ _ _ _
    refine ev_succ ?_
    simp only [spec_l03Det.f]
    exact ev_ift (by rfl) (Ev.now _)
  | cons r R ih =>
    intro C hR hC hl hc
    obtain ⟨r0, r1⟩ := hR r List.mem_cons_self
    have e0 : rd (r :: R) 0 = r := rfl
    have hrow := hr r r0 r1
    have main : ∀ (post pre : List Int) (s g : Int), pre ++ post = C → Ev (fun k => spec_l03Det.l0 k m (r :: R) C s g C (C.length : Int) (pre.length : Int)) (dLoop (rowX m r) (dF (rowX m) R) pre post s g) := by
      intro post
      induction post with
      | nil =>
        intro pre s g hp
        have : pre.length = C.length := by rw [← hp]; simp
        refine ev_succ ?_
        simp only [spec_l03Det.l0, dLoop]
        exact ev_ifn (by omega) (Ev.now _)
      | cons c post ihp =>
        intro pre s g hp
        have hlen : pre.length + (post.length + 1) = C.length := by rw [← hp]; simp
        have hd : C.drop pre.length = c :: post := by rw [← hp]; simp
        have ht : C.take pre.length = pre := by rw [← hp]; simp
        have hd1 : C.drop (pre.length + 1) = post := drop_next hd
        have hcm := hC c (by rw [← hp]; simp)
        have h1 := fun s' g' => ihp (pre ++ [c]) s' g' (by rw [← hp]; simp)
        simp only [List.length_append, List.length_cons, List.length_nil, Nat.zero_add] at h1
        refine ev_succ ?_
        simp only [spec_l03Det.l0, dLoop, e0, rd_drop hd, wrap_succ (show pre.length < 4611686018427387904 by omega), Int.toNat_natCast, ht, hd1, Option.bind_some, List.nil_append, List.drop_succ_cons, List.drop_zero]
        refine ev_ift (by omega) (ev_ift (by omega) (ev_ift (by omega) (ev_ift (by simp only [List.length_cons]; omega) (ev_ift (by omega) (ev_ift (by omega) (ev_ift (by omega) (ev_ift (by omega) ?_)))))))
        by_cases hx : rowX m r c = 0
        · rw [if_pos hx]
          exact ev_ift hx (h1 _ _)
        · rw [if_neg hx]
          refine ev_ifn hx (ev_ift (by omega) (ev_ift (by first | omega | (simp; omega) | simp) (ev_ift (by omega) (ev_ift (by omega) (ev_ift (by omega) (ev_ift (by simp only [List.length_cons]; omega) ?_))))))
          exact Ev.bind (ih (pre ++ post) (fun r' hr' => hR r' (List.mem_cons_of_mem _ hr')) (fun c' hc' => hC c' (by rw [← hp]; simp only [List.mem_append, List.mem_cons] at hc' ⊢; rcases hc' with h | h; exact Or.inl h; exact Or.inr (Or.inr h))) (by simp only [List.length_cons] at hl; omega) (by simp only [List.length_append]; omega)) (h1 _ _)
    refine ev_succ ?_
    simp only [spec_l03Det.f]
    refine ev_ifn (by simp only [List.length_cons]; omega) ?_
    exact main C [] 0 1 rfl
theorem implDet_ev (m : List (List Int)) (n : Nat) (hn : n ≤ 6) (hm : m.length = n) (hr : ∀ r : Int, 0 ≤ r → r < n → (rd_L1 m r).length = n) :
    ∀ (R : List Int) (S : Nat), (∀ r ∈ R, 0 ≤ r ∧ r < n) → S < 64 → R.length < 1000 → Ev (fun k => impl_determinant.f k m R (S : Int)) (dF (rowX m) R (colsR S 0 n)) := by
  intro R
  induction R with
  | nil =>
    intro S _ _ _
    refine ev_succ ?_
    simp only [impl_determinant.f]
    exact ev_ift (by rfl) (Ev.now _)
  | cons r R ih =>
    intro S hR hS hl
    obtain ⟨r0, r1⟩ := hR r List.mem_cons_self
    have e0 : rd (r :: R) 0 = r := rfl
    have hrow := hr r r0 r1
    have main : ∀ (d j : Nat) (s g : Int), j + d = n → Ev (fun k => impl_determinant.l0 k m (r :: R) (S : Int) s g (rd_L1 m r) ((rd_L1 m r).length : Int) (j : Int)) (dLoop (rowX m r) (dF (rowX m) R) (colsR S 0 j) (colsR S j d) s g) := by
      intro d
      induction d with
      | zero =>
        intro j s g hj
        refine ev_succ ?_
        simp only [impl_determinant.l0, colsR_zero, dLoop]
        exact ev_ifn (by omega) (Ev.now _)
      | succ d ihd =>
        intro j s g hj
        have h1 := fun s' g' => ihd (j + 1) s' g' (by omega)
        refine ev_succ ?_
        rw [colsR_succ]
        simp only [impl_determinant.l0, wrap_succ (show j < 4611686018427387904 by omega), bit_of S j (by omega) (by omega), andNot_clr S j hS (by omega), List.drop_succ_cons, List.drop_zero]
        refine ev_ift (by omega) (ev_ift (by omega) (ev_ift (by omega) ?_))
        rw [colsR_snoc] at h1
        by_cases hb : S.testBit j = true
        · rw [if_pos hb] at h1 ⊢
          rw [if_pos hb]
          refine ev_ifn (by omega) ?_
          rw [List.singleton_append]
          simp only [dLoop]
          by_cases hx : rowX m r (j : Int) = 0
          · rw [if_pos hx]
            exact ev_ift hx (h1 _ _)
          · rw [if_neg hx]
            refine ev_ifn hx (ev_ift (by simp only [List.length_cons]; omega) ?_)
            have h2 := ih (clr S j) (fun r' hr' => hR r' (List.mem_cons_of_mem _ hr')) (clr_lt S j hS) (by simp only [List.length_cons] at hl; omega)
            rw [show n = j + 1 + d by omega, colsR_clr S j d hS (by omega)] at h2
            exact Ev.bind h2 (h1 _ _)
        · rw [if_neg hb] at h1 ⊢
          rw [if_neg hb]
          rw [List.append_nil] at h1
          exact ev_ift rfl (h1 _ _)
    refine ev_succ ?_
    simp only [impl_determinant.f, e0]
    refine ev_ifn (by simp only [List.length_cons]; omega) (ev_ift (by simp only [List.length_cons]; omega) (ev_ift (by omega) (ev_ift (by omega) ?_)))
    exact main n 0 0 1 (by omega)
end Go.Proofs.Ytchkndeeaoohpaa.Pure
end
section
set_option linter.unusedVariables false
set_option linter.unusedSimpArgs false
namespace Go.Proofs.Ytchkndeeaoohpaa.Pure
open Go.RowKit Go.Proofs.Ytchkndeeaoohpaa.P Go.Proofs.YtchkndeeaoohpaaW.PrintWords Go.Proofs.YtchkndeeaoohpaaW.PrintLast Go.Proofs.YtchkndeeaoohpaaW.PrintMore Go.Proofs.Ytchkndeeaoohpaa.Base Go.Proofs.Ytchkndeeaoohpaa.Loops
theorem range_build (m : Nat) (F : Nat → Int) (g : Nat → List Int → Int → Option (List Int)) (hend : ∀ x : List Int, Ev (fun k => g k x (m : Int)) x)
    (hstep : ∀ (x : List Int) (i : Nat), i < m → x.length = i → ∀ r, Ev (fun k => g k (x ++ [F i]) ((i + 1 : Nat) : Int)) r → Ev (fun k => g k x (i : Int)) r) :
    Ev (fun k => g k [] 0) ((List.range m).map F) := by
  have main : ∀ (d i : Nat), i + d = m → Ev (fun k => g k ((List.range i).map F) (i : Int)) ((List.range m).map F) := by
    intro d
    induction d with
    | zero => intro i hi; obtain rfl : i = m := by omega
              exact hend _
    | succ d ih =>
      intro i hi
      refine hstep _ i (by omega) (by simp) _ ?_
      have h := ih (i + 1) (by omega)
      rw [List.range_succ, List.map_append] at h
      exact h
  exact main m 0 (by omega)
end Go.Proofs.Ytchkndeeaoohpaa.Pure
end
section
set_option linter.unusedVariables false
set_option linter.unusedSimpArgs false
namespace Go.Proofs.Ytchkndeeaoohpaa.Pure
open Go.RowKit Go.Proofs.Ytchkndeeaoohpaa.P Go.Proofs.YtchkndeeaoohpaaW.PrintWords Go.Proofs.YtchkndeeaoohpaaW.PrintLast Go.Proofs.YtchkndeeaoohpaaW.PrintMore Go.Proofs.Ytchkndeeaoohpaa.Base Go.Proofs.Ytchkndeeaoohpaa.Det Go.Proofs.Ytchkndeeaoohpaa.Bits Go.Proofs.Ytchkndeeaoohpaa.Loops
theorem bits_none {S i : Nat} (h : S / 2 ^ i = 0) (d : Nat) : colsR S i d = [] := by
  unfold colsR
  rw [List.map_eq_nil_iff, List.filter_eq_nil_iff]
  intro j hj
  rw [List.mem_range'_1] at hj
  have hlt : S < 2 ^ i := by
    rcases Nat.lt_or_ge S (2 ^ i) with h' | h'
    · exact h'
    · have := Nat.div_pos h' (Nat.two_pow_pos i); omega
  simp [Nat.testBit_lt_two_pow (Nat.lt_of_lt_of_le hlt (Nat.pow_le_pow_right (by decide) hj.1))]
theorem bitsOf_ev (S : Nat) (hS : S < 64) : Ev (fun k => impl_bitsOf.f k (S : Int)) (colsR S 0 6) := by
  have main : ∀ (d i : Nat), i + d = 6 → Ev (fun k => impl_bitsOf.l0 k (S : Int) (colsR S 0 i) (i : Int)) (colsR S 0 6) := by
    intro d
    induction d with
    | zero =>
      intro i hi
      obtain rfl : i = 6 := by omega
      refine ev_succ ?_
      simp only [impl_bitsOf.l0, shr_nat S 6 (by omega)]
      have : S / 2 ^ 6 = 0 := Nat.div_eq_of_lt (by simpa using hS)
      exact ev_ift (by omega) (ev_ifn (by rw [this]; omega) (Ev.now _))
    | succ d ih =>
      intro i hi
      have h1 := ih (i + 1) (by omega)
      have hl := colsR_len S 0 i
      refine ev_succ ?_
      simp only [impl_bitsOf.l0, bit_of S i (by omega) (by omega), wrap_succ (show i < 4611686018427387904 by omega)]
      rw [shr_nat S i (by omega)]
      refine ev_ift (by omega) ?_
      by_cases hz : S / 2 ^ i = 0
      · have e : colsR S 0 6 = colsR S 0 i := by
          have := colsR_split S i (6 - i)
          rw [bits_none hz, List.append_nil] at this
          rw [← this]; congr 1; omega
        rw [e]
        exact ev_ifn (by rw [hz]; omega) (Ev.now _)
      · refine ev_ift (Int.natCast_pos.2 (Nat.pos_of_ne_zero hz)) ?_
        rw [colsR_snoc] at h1
        by_cases hb : S.testBit i = true
        · rw [if_pos hb] at h1 ⊢
          exact ev_ift rfl (ev_ift (by omega) h1)
        · rw [if_neg hb] at h1 ⊢
          rw [List.append_nil] at h1
          exact ev_ifn (by omega) h1
  exact main 6 0 (by omega)
theorem full_bits (n : Nat) (hn : n ≤ 6) : colsR (2 ^ n - 1) 0 6 = (List.range n).map (fun i : Nat => (i : Int)) ∧ colsR (2 ^ n - 1) 0 n = (List.range n).map (fun i : Nat => (i : Int)) ∧ 2 ^ n - 1 < 64 := by
  have h : ∀ n : Fin 7, colsR (2 ^ n.val - 1) 0 6 = (List.range n.val).map (fun i : Nat => (i : Int)) ∧ colsR (2 ^ n.val - 1) 0 n.val = (List.range n.val).map (fun i : Nat => (i : Int)) ∧ 2 ^ n.val - 1 < 64 := by decide +kernel
  exact h ⟨n, by omega⟩
theorem shl_full (n : Nat) (hn : n ≤ 6) : wrap64 (shl .i64 1 (n : Int) - 1) = ((2 ^ n - 1 : Nat) : Int) := by
  rw [shl_nat n (by omega)]
  have : 2 ^ n ≤ 64 := by have := Nat.pow_le_pow_right (n := 2) (by decide) hn; simpa using this
  have hp := Nat.two_pow_pos n
  unfold wrap64; omega
theorem rowLen {m : List (List Int)} (h : matB m = true) (r : Int) (h0 : 0 ≤ r) (h1 : r < m.length) : (rd_L1 m r).length = m.length := by
  obtain ⟨_, hr⟩ := matB_facts h
  obtain ⟨i, rfl⟩ : ∃ i : Nat, r = i := ⟨r.toNat, by omega⟩
  have hi : i < m.length := by omega
  have : rd_L1 m (i : Int) = m[i] := by
    unfold rd_L1
    rw [Int.toNat_natCast, List.getD_eq_getElem?_getD, List.getElem?_eq_getElem hi]; rfl
  rw [this]
  exact (hr _ (List.getElem_mem hi)).1
theorem specAll_ev (n : Nat) (hn : n ≤ 6) : Ev (fun k => spec_l03All.f k (n : Int)) ((List.range n).map (fun i : Nat => (i : Int))) := by
  simp only [spec_l03All.f]
  refine range_build n (fun i : Nat => (i : Int)) (fun k x i => spec_l03All.l0 k (n : Int) x i) (fun x => ev_succ ?_) (fun x i hi hx r h => ev_succ ?_)
  · simp only [spec_l03All.l0]
    exact ev_ifn (by omega) (Ev.now _)
  · simp only [spec_l03All.l0, wrap_succ (show i < 4611686018427387904 by omega)]
    exact ev_ift (by omega) (ev_ift (by omega) h)
theorem determinant_both (m : List (List Int)) (hl : m.length < 4611686018427387904) (hr : ∀ r ∈ m, r.length < 4611686018427387904) : ∃ v : Int, Ev (fun k => impl_Determinant.f k m) v ∧ Ev (fun k => spec_Determinant.f k m) v ∧ True := by
  have h1 := implMat_ev m hl hr
  have h2 := specMat_ev m hl hr
  simp only [impl_Determinant.f, spec_Determinant.f]
  cases e : matB m with
  | false =>
    rw [e] at h1 h2
    exact ⟨0, Ev.bind h1 (ev_iff (Ev.now _)), Ev.bind h2 (ev_iff (Ev.now _)), trivial⟩
  | true =>
    rw [e] at h1 h2
    obtain ⟨h6, _⟩ := matB_facts e
    obtain ⟨f1, f2, f3⟩ := full_bits m.length h6
    have hb := bitsOf_ev (2 ^ m.length - 1) f3
    rw [f1] at hb
    have hmem : ∀ r ∈ (List.range m.length).map (fun i : Nat => (i : Int)), 0 ≤ r ∧ r < (m.length : Int) := by
      intro r hr
      rw [List.mem_map] at hr
      obtain ⟨i, hi, rfl⟩ := hr
      rw [List.mem_range] at hi
      omega
    have hi := implDet_ev m m.length h6 rfl (fun r a b => rowLen e r a b) ((List.range m.length).map (fun i : Nat => (i : Int))) (2 ^ m.length - 1) hmem f3 (by simp; omega)
    rw [f2] at hi
    have hs := specDet_ev m m.length h6 rfl (fun r a b => rowLen e r a b) ((List.range m.length).map (fun i : Nat => (i : Int))) ((List.range m.length).map (fun i : Nat => (i : Int))) hmem hmem (by simp; omega) (by simp; omega)
    have ha := specAll_ev m.length h6
    rw [shl_full m.length h6]
    exact ⟨_, Ev.bind h1 (ev_ift rfl (Ev.bind hb (Ev.bind hi (Ev.now _)))), Ev.bind h2 (ev_ift rfl (Ev.bind ha (Ev.bind ha (Ev.bind hs (Ev.now _))))), trivial⟩
theorem FnExactDeterminant : StatFnExactDeterminant := by
  intro l ⟨hl, hr⟩
  have hl' : l.length ≤ 9223372036854775807 := by unfold maxLen at hl; omega
  have hr' : ∀ r ∈ l, r.length ≤ 9223372036854775807 := fun r h => by have := (hr r h).1; unfold maxLen at this; omega
  refine Ev.rounds (r := true) ?_
  obtain ⟨v, es, hv⟩ := szIntSS_ex l hl' hr'
  unfold laws_FnExactDeterminant.f
  refine Ev.bind es ?_
  by_cases c : v < 0
  · exact ev_ift c (Ev.now _)
  · refine ev_ifn c ?_
    obtain ⟨h1, h2⟩ := hv (by omega)
    have hL : l.length < 4611686018427387904 := by omega
    have hR : ∀ r ∈ l, r.length < 4611686018427387904 := fun r h => by have := h2 r h; omega
    have tt := toIntSS_ev l h1 h2
    have ee := eqIntSS_ev l hL hR
    obtain ⟨b, g1, g2, _⟩ := determinant_both l hL hR
    repeat (first
      | exact Ev.now _
      | dsimp only
      | (with_reducible refine Ev.bind tt ?_) | (with_reducible refine Ev.bind ee ?_) | (with_reducible refine Ev.bind g1 ?_) | (with_reducible refine Ev.bind g2 ?_)
      | with_reducible refine ev_ift (by first | rfl | omega) ?_
      | with_reducible refine ev_ifn (by omega) ?_
      | with_reducible refine ev_ifb ?_
      | with_reducible refine ev_ifnn ?_
      | with_reducible refine ev_iff ?_
      | (refine ev_succ ?_; simp only [if_true, laws_FnExactDeterminant.j0, laws_FnExactDeterminant.j1])
      )
end Go.Proofs.Ytchkndeeaoohpaa.Pure
end
