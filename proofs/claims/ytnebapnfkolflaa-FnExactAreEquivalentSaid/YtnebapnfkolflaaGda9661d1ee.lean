/- Functions of the program as plain Lean functions and that the machine's calls answer as they do, the words of the print that these use, lemmas and plain proofs of laws. Put together by a program of this work that leaves out what nothing uses; Lean checks it. -/
import Derived.Test.YtnebapnfkolflaaG22d13e2a39
import Derived.Test.YtnebapnfkolflaaG1badb9adf4
import Derived.Test.YtnebapnfkolflaaG5b76c7e540
import Derived.Test.YtnebapnfkolflaaG75207c7d9f
import Derived.Test.YtnebapnfkolflaaGf176365a05
section
namespace Go.Proofs.Ytnebapnfkolflaa.P
open Go.RowKit Go.Proofs.YtnebapnfkolflaaW.PrintWords Go.Proofs.YtnebapnfkolflaaW.PrintLast Go.Proofs.YtnebapnfkolflaaW.PrintMore
attribute [local go_sem] max2_int min2_int max_two min_two max_three min_three max_four min_four
set_option linter.unusedVariables false
set_option linter.unusedSimpArgs false
mutual
def laws_FnExactAreEquivalent.j0 : Nat → List Int → List Int → Int → List (S95) → Option (Bool)
 | 0, _, _, _, _ => none
 | k + 1, x1, x2, x749000, x749001 => if (x2.length : Int) > 1048576 then (some true) else (laws_FnExactAreEquivalent.j1 k x1 x2 x749000 x749001)
def laws_FnExactAreEquivalent.j1 : Nat → List Int → List Int → Int → List (S95) → Option (Bool)
 | 0, _, _, _, _ => none
 | k + 1, x1, x2, x749000, x749001 => (laws_szGraph.f x749000 x749001 1048576).bind fun t749 => (if t749 < 0 then (some true) else (laws_FnExactAreEquivalent.j2 k x1 x2 x749000 x749001))
def laws_FnExactAreEquivalent.j2 : Nat → List Int → List Int → Int → List (S95) → Option (Bool)
 | 0, _, _, _, _ => none
 | k + 1, x1, x2, x749000, x749001 => (laws_toGraph.f k x749000 x749001).bind fun bt750 => ((laws_toIntS.f k x1).bind fun t754 => ((laws_toIntS.f k x2).bind fun t757 => ((spec_AreEquivalent.f k bt750.1 bt750.2 t754 t757).bind fun t760 => ((laws_toGraph.f k x749000 x749001).bind fun bt761 => ((laws_toIntS.f k x1).bind fun t766 => ((laws_toIntS.f k x2).bind fun t769 => ((impl_AreEquivalent.f k bt761.1 bt761.2 t766 t769).bind fun t772 => (if (t772 != t760) = true then (some false) else (laws_FnExactAreEquivalent.j3 k x1 x2 t766 t769 x749000 x749001 bt761.1 bt761.2)))))))))
def laws_FnExactAreEquivalent.j3 : Nat → List Int → List Int → List Int → List Int → Int → List (S95) → Int → List (S70) → Option (Bool)
 | 0, _, _, _, _, _, _, _, _ => none
 | k + 1, x1, x2, x10, x11, x749000, x749001, x766000, x766001 => (laws_toGraph.f k x749000 x749001).bind fun bt773 => ((laws_eqGraph.f k x766000 x766001 bt773.1 bt773.2).bind fun t777 => (if t777 = true then (laws_FnExactAreEquivalent.j4 k x1 x2 x10 x11) else (some false)))
def laws_FnExactAreEquivalent.j4 : Nat → List Int → List Int → List Int → List Int → Option (Bool)
 | 0, _, _, _, _ => none
 | k + 1, x1, x2, x10, x11 => (laws_toIntS.f k x1).bind fun t778 => ((laws_eqIntS.f k x10 t778).bind fun t781 => (if t781 = true then (laws_FnExactAreEquivalent.j5 k x2 x11) else (some false)))
def laws_FnExactAreEquivalent.j5 : Nat → List Int → List Int → Option (Bool)
 | 0, _, _ => none
 | k + 1, x2, x11 => (laws_toIntS.f k x2).bind fun t782 => ((laws_eqIntS.f k x11 t782).bind fun t785 => (if t785 = true then (some true) else (some false)))
end
def laws_FnExactAreEquivalent.f (k : Nat) (a0_0 : Int) (l0_1 : List (S95)) (l1 : List Int) (l2 : List Int) : Option (Bool) := if (l1.length : Int) > 1048576 then (some true) else (laws_FnExactAreEquivalent.j0 k l1 l2 a0_0 l0_1)
set_option maxHeartbeats 8000000 in
set_option maxRecDepth 100000 in
theorem laws_FnExactAreEquivalent.calls (k : Nat) (a0_0 : Int) (A0_1 : Option Addr) (c0_1 : Nat) (l0_1 : List (S95)) (A1 : Option Addr) (c1 : Nat) (l1 : List Int) (A2 : Option Addr) (c2 : Nat) (l2 : List Int) (r : Bool) (w : World) (hr0_1 : Kd.C k95 w A0_1 l0_1.length l0_1) (hc0_1 : l0_1.length ≤ c0_1) (hr1 : Kd.C (Kd.int .i64) w A1 l1.length l1) (hc1 : l1.length ≤ c1) (hr2 : Kd.C (Kd.int .i64) w A2 l2.length l2) (hc2 : l2.length ≤ c2) (h : laws_FnExactAreEquivalent.f k a0_0 l0_1 l1 l2 = some r) :
  Calls Try.prog 13 #[.agg #[.int .i64 a0_0, .slice A0_1 l0_1.length c0_1], .slice A1 l1.length c1, .slice A2 l2.length c2] w fun e w' => e = .returned (.bool r) ∧ Below w.heap.size w w' := by
 have hu37 := Try.underlying37
 have hu25 := Try.underlying25
 have HR0_1 := Aside0.mk hr0_1
 have HC0_1 := Aside0.mk hc0_1
 clear hr0_1 hc0_1
 have HR1 := Aside0.mk hr1
 have HC1 := Aside0.mk hc1
 clear hr1 hc1
 have HR2 := Aside0.mk hr2
 have HC2 := Aside0.mk hc2
 clear hr2 hc2
 have HB := Aside0.mk (Below.refl w.heap.size w)
 have H : (if (l1.length : Int) > 1048576 then (some true) else (laws_FnExactAreEquivalent.j0 k l1 l2 a0_0 l0_1)) = some r := h
 clear h
 have HC4 := Aside0.mk H
 clear H
 go_enter Try.func13, Try.ntmps13
 go_upto_if 15 with (first | ((with_reducible refine gate_dst (N := 3) rfl ?_); refine box_event ?hg (N := 3) ?hd (cs := #[.int .i64 a0_0, .slice A0_1 l0_1.length c0_1]) (t := 37) ?hr ?_; (case hd => rfl); (case hg => rfl); (case hr => first | (go_simp; done) | (go_simp; rfl)); intro gb748 hg w5 hbox hb; have BK748 := Aside0.mk (hbox); have GW748 := Aside0.mk ((by rw [hg]; exact (below_size (Lz HB)) : w.heap.size ≤ gb748)); have GE748 := Aside0.mk ((by rw [hg]; exact (below_size (Lz HB)) : w.heap.size ≤ gb748)); replace HB := Aside0.mk (below_step (Lz HB) hb); clear hb hbox hg))
 (try simp only [Act.put, List.setIfInBounds_toArray, List.set_cons_zero, List.set_cons_succ])
 go_cut [] (fun wc => ∃ (kq : Nat), Aside0 (laws_FnExactAreEquivalent.j0 kq l1 l2 a0_0 l0_1 = some r) ∧ Aside0 (kq ≤ k) ∧ Aside0 (wc.heap[gb748]? = some (.cells #[.int .i64 a0_0, (.slice A0_1 l0_1.length c0_1)] 37 (0, 0))) ∧ Aside0 (Below w.heap.size w wc))
 case first =>
  have H := HC4.out
  clear HC4
  by_cases c6 : (l1.length : Int) > 1048576
  ·rw [if_pos c6] at H
   have c6b0 : decide (1048576 < (l1.length : Int)) = true := decide_eq_true c6
   have c6b1 : decide (1048576 < l1.length) = true := decide_eq_true (by omega)
   clear c6
   (first | rw [c6b0] | (simp only [i64_w, i32_w]; rw [c6b0]) | skip)
   obtain rfl := Option.some.inj H
   go_wp2
   go_ret
   exact ⟨by first | rfl | (simp [errW_none, errW_some] <;> rfl) | (simp [*, errW_none, errW_some] <;> rfl), by exact Lz1 HB GE748⟩
  rw [if_neg c6] at H
  have c6b0 : decide (1048576 < (l1.length : Int)) = false := decide_eq_false c6
  have c6b1 : decide (1048576 < l1.length) = false := decide_eq_false (by omega)
  clear c6
  (first | rw [c6b0] | (simp only [i64_w, i32_w]; rw [c6b0]) | skip)
  have H' := Aside0.mk H
  clear H
  go_wp2
  go_meet
  case rel => exact ⟨_, H', ⟨by first | omega | exact Nat.le_refl _⟩, ⟨by exact Bz BK748⟩, ⟨by exact Lz1 HB GE748⟩⟩
 case rest =>
  clear HC4
  try clear c1
  try clear c2
  try clear c6
  try clear c6b0
  try clear c6b1
  obtain ⟨kq, HA, HJ3, BK748, HB⟩ := hcut
  cases kq with
  | zero => exact absurd HA.out (by simp [laws_FnExactAreEquivalent.j0])
  | succ kj3 =>
   have H := HA.out
   clear HA
   simp only [laws_FnExactAreEquivalent.j0] at H
   have HC7 := Aside0.mk H
   clear H
   go_upto_if 18 with (fail)
   go_cut [] (fun wc => ∃ (kq : Nat), Aside0 (laws_FnExactAreEquivalent.j1 kq l1 l2 a0_0 l0_1 = some r) ∧ Aside0 (kq ≤ kj3) ∧ Aside0 (wc.heap[gb748]? = some (.cells #[.int .i64 a0_0, (.slice A0_1 l0_1.length c0_1)] 37 (0, 0))) ∧ Aside0 (Below w.heap.size w wc))
   case first =>
    have H := HC7.out
    clear HC7
    by_cases c8 : (l2.length : Int) > 1048576
    ·rw [if_pos c8] at H
     have c8b0 : decide (1048576 < (l2.length : Int)) = true := decide_eq_true c8
     have c8b1 : decide (1048576 < l2.length) = true := decide_eq_true (by omega)
     clear c8
     (first | rw [c8b0] | (simp only [i64_w, i32_w]; rw [c8b0]) | skip)
     obtain rfl := Option.some.inj H
     go_wp2
     go_ret
     exact ⟨by first | rfl | (simp [errW_none, errW_some] <;> rfl) | (simp [*, errW_none, errW_some] <;> rfl), by exact Lz1 HB GE748⟩
    rw [if_neg c8] at H
    have c8b0 : decide (1048576 < (l2.length : Int)) = false := decide_eq_false c8
    have c8b1 : decide (1048576 < l2.length) = false := decide_eq_false (by omega)
    clear c8
    (first | rw [c8b0] | (simp only [i64_w, i32_w]; rw [c8b0]) | skip)
    have H' := Aside0.mk H
    clear H
    go_wp2
    go_meet
    case rel => exact ⟨_, H', ⟨by have := HJ3.out; first | omega | exact Nat.le_refl _⟩, ⟨by exact Bz BK748⟩, ⟨by exact Lz1 HB GE748⟩⟩
   case rest =>
    clear HC7
    try clear c1
    try clear c2
    try clear c6
    try clear c6b0
    try clear c6b1
    try clear c8
    try clear c8b0
    try clear c8b1
    obtain ⟨kq, HA, HJ6, BK748, HB⟩ := hcut
    cases kq with
    | zero => exact absurd HA.out (by simp [laws_FnExactAreEquivalent.j1])
    | succ kj6 =>
     have H := HA.out
     clear HA
     simp only [laws_FnExactAreEquivalent.j1] at H
     replace H := Option.bind_eq_some_iff.mp H
     obtain ⟨t749, A90, H⟩ := H
     replace H : (if t749 < 0 then (some true) else (laws_FnExactAreEquivalent.j2 kj6 l1 l2 a0_0 l0_1)) = some r := H
     have A9 := Aside0.mk A90
     clear A90
     have HC10 := Aside0.mk H
     clear H
     have hcz11_0 : wc.cell? ⟨gb748, 0, none⟩ = some (.int .i64 a0_0) := (blk_cell BK748.out 0).trans rfl
     have hcz11_1 : wc.cell? ⟨gb748, 1, none⟩ = some (.slice A0_1 l0_1.length c0_1) := (blk_cell BK748.out 1).trans rfl
     have hfz11_0 := blk_frozen BK748.out 0
     have hfz11_1 := blk_frozen BK748.out 1
     go_upto_if 23 with (first | ((with_reducible refine gate_callee (f := 23) rfl ?_); refine goesM_ (some 21) rfl rfl Try.func23 (by kernel_rfl) rfl #[.agg #[.int .i64 a0_0, .slice A0_1 l0_1.length c0_1], .int .i64 1048576] rfl ?_; (with_reducible refine (laws_szGraph.calls a0_0 _ _ l0_1 1048576 t749 _ ?side1 ?side2 A9.out).mono ?_); (case side1 => exact Cz ((Kd.C_below HR0_1.out HB.out))); (case side2 => exact HC0_1.out); rintro e w12 ⟨rfl, hb⟩; refine ⟨_, rfl, ?_⟩; replace BK748 := Aside0.mk (blk_below (g := gb748) (o := .cells #[.int .i64 a0_0, .slice A0_1 l0_1.length c0_1] 37 (0, 0)) (Bz BK748) hb); replace HB := Aside0.mk (below_step (by exact Lz1 HB GE748) hb); (try clear hb); (try clear hb2); (try clear hk); (try clear hi)))
     (try simp only [Act.put, List.setIfInBounds_toArray, List.set_cons_zero, List.set_cons_succ])
     go_cut [] (fun wc => ∃ (kq : Nat), Aside0 (laws_FnExactAreEquivalent.j2 kq l1 l2 a0_0 l0_1 = some r) ∧ Aside0 (kq ≤ kj6) ∧ Aside0 (wc.heap[gb748]? = some (.cells #[.int .i64 a0_0, (.slice A0_1 l0_1.length c0_1)] 37 (0, 0))) ∧ Aside0 (Below w.heap.size w wc))
     case first =>
      have H := HC10.out
      clear HC10
      by_cases c13 : t749 < 0
      ·rw [if_pos c13] at H
       have c13b0 : decide (t749 < 0) = true := decide_eq_true c13
       clear c13
       (first | rw [c13b0] | (simp only [i64_w, i32_w]; rw [c13b0]) | skip)
       obtain rfl := Option.some.inj H
       go_wp2
       go_ret
       exact ⟨by first | rfl | (simp [errW_none, errW_some] <;> rfl) | (simp [*, errW_none, errW_some] <;> rfl), by exact Lz1 HB GE748⟩
      rw [if_neg c13] at H
      have c13b0 : decide (t749 < 0) = false := decide_eq_false c13
      clear c13
      (first | rw [c13b0] | (simp only [i64_w, i32_w]; rw [c13b0]) | skip)
      have H' := Aside0.mk H
      clear H
      go_wp2
      go_meet
      case rel => exact ⟨_, H', ⟨by have := HJ3.out; have := HJ6.out; first | omega | exact Nat.le_refl _⟩, ⟨by exact Bz BK748⟩, ⟨by exact Lz1 HB GE748⟩⟩
     case rest =>
      clear HC10
      try clear c1
      try clear c2
      try clear c6
      try clear c6b0
      try clear c6b1
      try clear c8
      try clear c8b0
      try clear c8b1
      try clear c13
      try clear c13b0
      obtain ⟨kq, HA, HJ9, BK748, HB⟩ := hcut
      cases kq with
      | zero => exact absurd HA.out (by simp [laws_FnExactAreEquivalent.j2])
      | succ kj9 =>
       have H := HA.out
       clear HA
       simp only [laws_FnExactAreEquivalent.j2] at H
       replace H := Option.bind_eq_some_iff.mp H
       obtain ⟨⟨t750, t751⟩, A140, H⟩ := H
       replace H : ((laws_toIntS.f kj9 l1).bind fun t754 => ((laws_toIntS.f kj9 l2).bind fun t757 => ((spec_AreEquivalent.f kj9 t750 t751 t754 t757).bind fun t760 => ((laws_toGraph.f kj9 a0_0 l0_1).bind fun bt761 => ((laws_toIntS.f kj9 l1).bind fun t766 => ((laws_toIntS.f kj9 l2).bind fun t769 => ((impl_AreEquivalent.f kj9 bt761.1 bt761.2 t766 t769).bind fun t772 => (if (t772 != t760) = true then (some false) else (laws_FnExactAreEquivalent.j3 kj9 l1 l2 t766 t769 a0_0 l0_1 bt761.1 bt761.2))))))))) = some r := H
       have A14 := Aside0.mk A140
       clear A140
       replace H := Option.bind_eq_some_iff.mp H
       obtain ⟨t754, A150, H⟩ := H
       replace H : ((laws_toIntS.f kj9 l2).bind fun t757 => ((spec_AreEquivalent.f kj9 t750 t751 t754 t757).bind fun t760 => ((laws_toGraph.f kj9 a0_0 l0_1).bind fun bt761 => ((laws_toIntS.f kj9 l1).bind fun t766 => ((laws_toIntS.f kj9 l2).bind fun t769 => ((impl_AreEquivalent.f kj9 bt761.1 bt761.2 t766 t769).bind fun t772 => (if (t772 != t760) = true then (some false) else (laws_FnExactAreEquivalent.j3 kj9 l1 l2 t766 t769 a0_0 l0_1 bt761.1 bt761.2)))))))) = some r := H
       have A15 := Aside0.mk A150
       clear A150
       replace H := Option.bind_eq_some_iff.mp H
       obtain ⟨t757, A160, H⟩ := H
       replace H : ((spec_AreEquivalent.f kj9 t750 t751 t754 t757).bind fun t760 => ((laws_toGraph.f kj9 a0_0 l0_1).bind fun bt761 => ((laws_toIntS.f kj9 l1).bind fun t766 => ((laws_toIntS.f kj9 l2).bind fun t769 => ((impl_AreEquivalent.f kj9 bt761.1 bt761.2 t766 t769).bind fun t772 => (if (t772 != t760) = true then (some false) else (laws_FnExactAreEquivalent.j3 kj9 l1 l2 t766 t769 a0_0 l0_1 bt761.1 bt761.2))))))) = some r := H
       have A16 := Aside0.mk A160
       clear A160
       replace H := Option.bind_eq_some_iff.mp H
       obtain ⟨t760, A170, H⟩ := H
       replace H : ((laws_toGraph.f kj9 a0_0 l0_1).bind fun bt761 => ((laws_toIntS.f kj9 l1).bind fun t766 => ((laws_toIntS.f kj9 l2).bind fun t769 => ((impl_AreEquivalent.f kj9 bt761.1 bt761.2 t766 t769).bind fun t772 => (if (t772 != t760) = true then (some false) else (laws_FnExactAreEquivalent.j3 kj9 l1 l2 t766 t769 a0_0 l0_1 bt761.1 bt761.2)))))) = some r := H
       have A17 := Aside0.mk A170
       clear A170
       replace H := Option.bind_eq_some_iff.mp H
       obtain ⟨⟨t761, t762⟩, A180, H⟩ := H
       replace H : ((laws_toIntS.f kj9 l1).bind fun t766 => ((laws_toIntS.f kj9 l2).bind fun t769 => ((impl_AreEquivalent.f kj9 t761 t762 t766 t769).bind fun t772 => (if (t772 != t760) = true then (some false) else (laws_FnExactAreEquivalent.j3 kj9 l1 l2 t766 t769 a0_0 l0_1 t761 t762))))) = some r := H
       have A18 := Aside0.mk A180
       clear A180
       replace H := Option.bind_eq_some_iff.mp H
       obtain ⟨t766, A190, H⟩ := H
       replace H : ((laws_toIntS.f kj9 l2).bind fun t769 => ((impl_AreEquivalent.f kj9 t761 t762 t766 t769).bind fun t772 => (if (t772 != t760) = true then (some false) else (laws_FnExactAreEquivalent.j3 kj9 l1 l2 t766 t769 a0_0 l0_1 t761 t762)))) = some r := H
       have A19 := Aside0.mk A190
       clear A190
       replace H := Option.bind_eq_some_iff.mp H
       obtain ⟨t769, A200, H⟩ := H
       replace H : ((impl_AreEquivalent.f kj9 t761 t762 t766 t769).bind fun t772 => (if (t772 != t760) = true then (some false) else (laws_FnExactAreEquivalent.j3 kj9 l1 l2 t766 t769 a0_0 l0_1 t761 t762))) = some r := H
       have A20 := Aside0.mk A200
       clear A200
       replace H := Option.bind_eq_some_iff.mp H
       obtain ⟨t772, A210, H⟩ := H
       replace H : (if (t772 != t760) = true then (some false) else (laws_FnExactAreEquivalent.j3 kj9 l1 l2 t766 t769 a0_0 l0_1 t761 t762)) = some r := H
       have A21 := Aside0.mk A210
       clear A210
       have HC22 := Aside0.mk H
       clear H
       have hcz23_0 : wc.cell? ⟨gb748, 0, none⟩ = some (.int .i64 a0_0) := (blk_cell BK748.out 0).trans rfl
       have hcz23_1 : wc.cell? ⟨gb748, 1, none⟩ = some (.slice A0_1 l0_1.length c0_1) := (blk_cell BK748.out 1).trans rfl
       have hfz23_0 := blk_frozen BK748.out 0
       have hfz23_1 := blk_frozen BK748.out 1
       go_upto_if 43 with (first | ((with_reducible refine gate_callee (f := 25) rfl ?_); refine goesM_ (some 25) rfl rfl Try.func25 (by kernel_rfl) rfl #[.agg #[.int .i64 a0_0, .slice A0_1 l0_1.length c0_1]] rfl ?_; (with_reducible refine (laws_toGraph.calls kj9 a0_0 _ _ l0_1 t750 t751 _ ?side1 ?side2 A14.out).mono ?_); (case side1 => exact Cz ((Kd.C_below HR0_1.out HB.out))); (case side2 => exact HC0_1.out); rintro e w24 ⟨v752, rfl, ho0, hb⟩; refine ⟨_, rfl, ?_⟩; have HO753 := Aside0.mk (Kd.R_lower ho0 (below_size (by exact Lz1 HB GE748))); replace BK748 := Aside0.mk (blk_below (g := gb748) (o := .cells #[.int .i64 a0_0, .slice A0_1 l0_1.length c0_1] 37 (0, 0)) (Bz BK748) hb); replace HB := Aside0.mk (below_step (by exact Lz1 HB GE748) hb); (try clear hb); (try clear ho0)) | ((with_reducible refine gate_callee (f := 26) rfl ?_); refine goesM_ (some 27) rfl rfl Try.func26 (by kernel_rfl) rfl #[.slice A1 l1.length c1] rfl ?_; (with_reducible refine (laws_toIntS.calls kj9 _ _ l1 t754 _ ?side1 ?side2 A15.out).mono ?_); (case side1 => exact Cz ((Kd.C_below HR1.out HB.out))); (case side2 => exact HC1.out); rintro e w25 ⟨v755, rfl, ho0, hb⟩; refine ⟨_, rfl, ?_⟩; replace HO753 := Aside0.mk (Kd.R_below (Rz HO753) hb); have HO756 := Aside0.mk (Kd.R_lower ho0 (below_size (by exact Lz1 HB GE748))); replace BK748 := Aside0.mk (blk_below (g := gb748) (o := .cells #[.int .i64 a0_0, .slice A0_1 l0_1.length c0_1] 37 (0, 0)) (Bz BK748) hb); replace HB := Aside0.mk (below_step (by exact Lz1 HB GE748) hb); (try clear hb); (try clear ho0)) | ((with_reducible refine gate_callee (f := 26) rfl ?_); refine goesM_ (some 29) rfl rfl Try.func26 (by kernel_rfl) rfl #[.slice A2 l2.length c2] rfl ?_; (with_reducible refine (laws_toIntS.calls kj9 _ _ l2 t757 _ ?side1 ?side2 A16.out).mono ?_); (case side1 => exact Cz ((Kd.C_below HR2.out HB.out))); (case side2 => exact HC2.out); rintro e w26 ⟨v758, rfl, ho0, hb⟩; refine ⟨_, rfl, ?_⟩; replace HO753 := Aside0.mk (Kd.R_below (Rz HO753) hb); have HO759 := Aside0.mk (Kd.R_lower (Kd.R_new' ho0 (Kd.R_lt (Rz HO756))) (below_size (by exact Lz1 HB GE748))); replace HO756 := Aside0.mk (Kd.R_elder' (Rz HO756) (Kd.R_base ho0) hb); replace BK748 := Aside0.mk (blk_below (g := gb748) (o := .cells #[.int .i64 a0_0, .slice A0_1 l0_1.length c0_1] 37 (0, 0)) (Bz BK748) hb); replace HB := Aside0.mk (below_step (by exact Lz1 HB GE748) hb); (try clear hb); (try clear ho0); obtain ⟨Ao27, co27, eo27⟩ := Kd.R_slice HO753.out; subst eo27; obtain ⟨Ao28, co28, eo28⟩ := Kd.R_slice HO756.out; subst eo28; obtain ⟨Ao29, co29, eo29⟩ := Kd.R_slice HO759.out; subst eo29) | ((with_reducible refine gate_callee (f := 47) rfl ?_); refine goesM_ (some 30) rfl rfl Try.func47 (by kernel_rfl) rfl #[.agg #[.int .i64 t750, .slice Ao27 t751.length co27], .slice Ao28 t754.length co28, .slice Ao29 t757.length co29] rfl ?_; (with_reducible refine (spec_AreEquivalent.calls kj9 t750 _ _ t751 _ _ t754 _ _ t757 t760 _ ?side1 ?side2 ?side3 ?side4 ?side5 ?side6 A17.out).mono ?_); (case side1 => exact Cz ((Kd.R_reads' HO753.out).2.2)); (case side2 => exact (Kd.R_reads' HO753.out).2.1); (case side3 => exact Cz ((Kd.R_reads' HO756.out).2.2)); (case side4 => exact (Kd.R_reads' HO756.out).2.1); (case side5 => exact Cz ((Kd.R_reads' HO759.out).2.2)); (case side6 => exact (Kd.R_reads' HO759.out).2.1); rintro e w30 ⟨rfl, hb⟩; refine ⟨_, rfl, ?_⟩; replace HO753 := Aside0.mk (Kd.R_below (Rz HO753) hb); replace HO756 := Aside0.mk (Kd.R_below (Rz HO756) hb); replace HO759 := Aside0.mk (Kd.R_below (Rz HO759) hb); replace BK748 := Aside0.mk (blk_below (g := gb748) (o := .cells #[.int .i64 a0_0, .slice A0_1 l0_1.length c0_1] 37 (0, 0)) (Bz BK748) hb); replace HB := Aside0.mk (below_step (by exact Lz1 HB GE748) hb); (try clear hb); (try clear hb2); (try clear hk); (try clear hi); have hcz31_0 : w30.cell? ⟨gb748, 0, none⟩ = some (.int .i64 a0_0) := (blk_cell BK748.out 0).trans rfl; have hcz31_1 : w30.cell? ⟨gb748, 1, none⟩ = some (.slice A0_1 l0_1.length c0_1) := (blk_cell BK748.out 1).trans rfl; have hfz31_0 := blk_frozen BK748.out 0; have hfz31_1 := blk_frozen BK748.out 1) | ((with_reducible refine gate_callee (f := 25) rfl ?_); refine goesM_ (some 32) rfl rfl Try.func25 (by kernel_rfl) rfl #[.agg #[.int .i64 a0_0, .slice A0_1 l0_1.length c0_1]] rfl ?_; (with_reducible refine (laws_toGraph.calls kj9 a0_0 _ _ l0_1 t761 t762 _ ?side1 ?side2 A18.out).mono ?_); (case side1 => exact Cz ((Kd.C_below HR0_1.out HB.out))); (case side2 => exact HC0_1.out); rintro e w32 ⟨v763, rfl, ho0, hb⟩; refine ⟨_, rfl, ?_⟩; replace HO756 := Aside0.mk (Kd.R_below (Rz HO756) hb); replace HO759 := Aside0.mk (Kd.R_below (Rz HO759) hb); have HO764 := Aside0.mk (Kd.R_lower (Kd.R_new' ho0 (Kd.R_lt (Rz HO753))) (below_size (by exact Lz1 HB GE748))); replace HO753 := Aside0.mk (Kd.R_elder' (Rz HO753) (Kd.R_base ho0) hb); replace BK748 := Aside0.mk (blk_below (g := gb748) (o := .cells #[.int .i64 a0_0, .slice A0_1 l0_1.length c0_1] 37 (0, 0)) (Bz BK748) hb); replace HB := Aside0.mk (below_step (by exact Lz1 HB GE748) hb); (try clear hb); (try clear ho0)) | ((with_reducible refine gate_dst (N := 9) rfl ?_); refine box_event ?hg (N := 9) ?hd (cs := #[.int .i64 0, .slice none 0 0]) (t := 25) ?hr ?_; (case hd => rfl); (case hg => rfl); (case hr => first | (go_simp; done) | (go_simp; rfl)); intro gb765 hg w33 hbox hb; replace HO753 := Aside0.mk (Kd.R_below (Rz HO753) hb); replace HO756 := Aside0.mk (Kd.R_below (Rz HO756) hb); replace HO759 := Aside0.mk (Kd.R_below (Rz HO759) hb); replace HO764 := Aside0.mk (Kd.R_below (Rz HO764) hb); have BK765 := Aside0.mk (hbox); have GW765 := Aside0.mk ((by rw [hg]; exact (below_size (by exact Lz1 HB GE748)) : w.heap.size ≤ gb765)); have GE765 := Aside0.mk ((by rw [hg]; exact (below_size (by exact Lz1 HB GE748)) : w.heap.size ≤ gb765)); replace HB := Aside0.mk (below_step (by exact Lz1 HB GE748) hb); have NB748_765 := Aside0.mk ((by rw [hg]; exact Nat.ne_of_lt (blk_lt (g := gb748) (o := .cells #[.int .i64 a0_0, .slice A0_1 l0_1.length c0_1] 37 (0, 0)) (Bz BK748)) : gb748 ≠ gb765)); have NB765_748 := Aside0.mk ((by rw [hg]; exact Nat.ne_of_gt (blk_lt (g := gb748) (o := .cells #[.int .i64 a0_0, .slice A0_1 l0_1.length c0_1] 37 (0, 0)) (Bz BK748)) : gb765 ≠ gb748)); replace BK748 := Aside0.mk (blk_below (g := gb748) (o := .cells #[.int .i64 a0_0, .slice A0_1 l0_1.length c0_1] 37 (0, 0)) (Bz BK748) hb); clear hb hbox hg; have hnb34 := NB765_748.out; have hnc34 := NB748_765.out; have hcz35_0 : w33.cell? ⟨gb765, 0, none⟩ = some (.int .i64 0) := (blk_cell BK765.out 0).trans rfl; have hcz35_1 : w33.cell? ⟨gb765, 1, none⟩ = some (.slice none 0 0) := (blk_cell BK765.out 1).trans rfl; have hfz35_0 := blk_frozen BK765.out 0; have hfz35_1 := blk_frozen BK765.out 1; obtain ⟨Ao36, co36, eo36⟩ := Kd.R_slice HO764.out; subst eo36) | ((with_reducible refine gate_callee (f := 26) rfl ?_); refine goesM_ (some 34) rfl rfl Try.func26 (by kernel_rfl) rfl #[.slice A1 l1.length c1] rfl ?_; (with_reducible refine (laws_toIntS.calls kj9 _ _ l1 t766 _ ?side1 ?side2 A19.out).mono ?_); (case side1 => exact Kd.C_below HR1.out (by exact Lz2 HB GE748 GE765)); (case side2 => exact HC1.out); rintro e w37 ⟨v767, rfl, ho0, hb⟩; refine ⟨_, rfl, ?_⟩; replace HO753 := Aside0.mk (Kd.R_below (by (with_reducible repeat (first | apply Kd.R_alloc | apply Kd.R_drewN | apply Kd.R_drew)); exact (Kd.R_mono (Kd.R_far (p := ⟨gb765, 1, none⟩) (Kd.R_far (p := ⟨gb765, 0, none⟩) (Kd.R_types HO753.out BK765.out (by decide)) (fun _ hk => hk.2) (.int .i64 t761)) (fun _ hk => hk.2) (.slice Ao36 t762.length co36)) (fun _ h_ => h_.1))) hb); replace HO764 := Aside0.mk (Kd.R_below (by (with_reducible repeat (first | apply Kd.R_alloc | apply Kd.R_drewN | apply Kd.R_drew)); exact (Kd.R_mono (Kd.R_far (p := ⟨gb765, 1, none⟩) (Kd.R_far (p := ⟨gb765, 0, none⟩) (Kd.R_types HO764.out BK765.out (by decide)) (fun _ hk => hk.2) (.int .i64 t761)) (fun _ hk => hk.2) (.slice Ao36 t762.length co36)) (fun _ h_ => h_.1))) hb); have HO768 := Aside0.mk (Kd.R_lower (Kd.R_new' (Kd.R_new' ho0 (Kd.R_lt (by (with_reducible repeat (first | apply Kd.R_alloc | apply Kd.R_drewN | apply Kd.R_drew)); exact (Kd.R_mono (Kd.R_far (p := ⟨gb765, 1, none⟩) (Kd.R_far (p := ⟨gb765, 0, none⟩) (Kd.R_types HO756.out BK765.out (by decide)) (fun _ hk => hk.2) (.int .i64 t761)) (fun _ hk => hk.2) (.slice Ao36 t762.length co36)) (fun _ h_ => h_.1))))) (Kd.R_lt (by (with_reducible repeat (first | apply Kd.R_alloc | apply Kd.R_drewN | apply Kd.R_drew)); exact (Kd.R_mono (Kd.R_far (p := ⟨gb765, 1, none⟩) (Kd.R_far (p := ⟨gb765, 0, none⟩) (Kd.R_types HO759.out BK765.out (by decide)) (fun _ hk => hk.2) (.int .i64 t761)) (fun _ hk => hk.2) (.slice Ao36 t762.length co36)) (fun _ h_ => h_.1))))) (below_size (by exact Lz2 HB GE748 GE765))); replace HO756 := Aside0.mk (Kd.R_elder' (by (with_reducible repeat (first | apply Kd.R_alloc | apply Kd.R_drewN | apply Kd.R_drew)); exact (Kd.R_mono (Kd.R_far (p := ⟨gb765, 1, none⟩) (Kd.R_far (p := ⟨gb765, 0, none⟩) (Kd.R_types HO756.out BK765.out (by decide)) (fun _ hk => hk.2) (.int .i64 t761)) (fun _ hk => hk.2) (.slice Ao36 t762.length co36)) (fun _ h_ => h_.1))) (Kd.R_base ho0) hb); replace HO759 := Aside0.mk (Kd.R_elder' (by (with_reducible repeat (first | apply Kd.R_alloc | apply Kd.R_drewN | apply Kd.R_drew)); exact (Kd.R_mono (Kd.R_far (p := ⟨gb765, 1, none⟩) (Kd.R_far (p := ⟨gb765, 0, none⟩) (Kd.R_types HO759.out BK765.out (by decide)) (fun _ hk => hk.2) (.int .i64 t761)) (fun _ hk => hk.2) (.slice Ao36 t762.length co36)) (fun _ h_ => h_.1))) (Kd.R_base ho0) hb); replace BK748 := Aside0.mk (blk_below (g := gb748) (o := .cells #[.int .i64 a0_0, .slice A0_1 l0_1.length c0_1] 37 (0, 0)) (by (with_reducible repeat (first | refine blk_drewN ?_ _ | refine blk_drew ?_ | refine blk_alloc ?_ _)); refine blk_far ?_ NB748_765.out _; (with_reducible repeat (first | refine blk_drewN ?_ _ | refine blk_drew ?_ | refine blk_alloc ?_ _)); refine blk_far ?_ NB748_765.out _; exact Bz BK748) hb); replace BK765 := Aside0.mk (blk_below (g := gb765) (o := .cells #[.int .i64 t761, .slice Ao36 t762.length co36] 25 (0, 0)) (by (with_reducible repeat (first | refine blk_drewN ?_ _ | refine blk_drew ?_ | refine blk_alloc ?_ _)); refine blk_put (cs := #[.int .i64 t761, .slice none 0 0]) ?_ 1 _ rfl; (with_reducible repeat (first | refine blk_drewN ?_ _ | refine blk_drew ?_ | refine blk_alloc ?_ _)); refine blk_put (cs := #[.int .i64 0, .slice none 0 0]) ?_ 0 _ rfl; exact Bz BK765) hb); replace HB := Aside0.mk (below_step (by exact Lz2 HB GE748 GE765) hb); (try clear hb); (try clear ho0)) | ((with_reducible refine gate_callee (f := 26) rfl ?_); refine goesM_ (some 36) rfl rfl Try.func26 (by kernel_rfl) rfl #[.slice A2 l2.length c2] rfl ?_; (with_reducible refine (laws_toIntS.calls kj9 _ _ l2 t769 _ ?side1 ?side2 A20.out).mono ?_); (case side1 => exact Cz ((Kd.C_below HR2.out HB.out))); (case side2 => exact HC2.out); rintro e w38 ⟨v770, rfl, ho0, hb⟩; refine ⟨_, rfl, ?_⟩; replace HO753 := Aside0.mk (Kd.R_below (Rz HO753) hb); replace HO764 := Aside0.mk (Kd.R_below (Rz HO764) hb); have HO771 := Aside0.mk (Kd.R_lower (Kd.R_new' (Kd.R_new' (Kd.R_new' ho0 (Kd.R_lt (Rz HO756))) (Kd.R_lt (Rz HO759))) (Kd.R_lt (Rz HO768))) (below_size (by exact Lz2 HB GE748 GE765))); replace HO756 := Aside0.mk (Kd.R_elder' (Rz HO756) (Kd.R_base ho0) hb); replace HO759 := Aside0.mk (Kd.R_elder' (Rz HO759) (Kd.R_base ho0) hb); replace HO768 := Aside0.mk (Kd.R_elder' (Rz HO768) (Kd.R_base ho0) hb); replace BK748 := Aside0.mk (blk_below (g := gb748) (o := .cells #[.int .i64 a0_0, .slice A0_1 l0_1.length c0_1] 37 (0, 0)) (Bz BK748) hb); replace BK765 := Aside0.mk (blk_below (g := gb765) (o := .cells #[.int .i64 t761, .slice Ao36 t762.length co36] 25 (0, 0)) (Bz BK765) hb); replace HB := Aside0.mk (below_step (by exact Lz2 HB GE748 GE765) hb); (try clear hb); (try clear ho0); have hcz39_0 : w38.cell? ⟨gb765, 0, none⟩ = some (.int .i64 t761) := (blk_cell BK765.out 0).trans rfl; have hcz39_1 : w38.cell? ⟨gb765, 1, none⟩ = some (.slice Ao36 t762.length co36) := (blk_cell BK765.out 1).trans rfl; have hfz39_0 := blk_frozen BK765.out 0; have hfz39_1 := blk_frozen BK765.out 1; obtain ⟨Ao40, co40, eo40⟩ := Kd.R_slice HO768.out; subst eo40; obtain ⟨Ao41, co41, eo41⟩ := Kd.R_slice HO771.out; subst eo41) | ((with_reducible refine gate_callee (f := 48) rfl ?_); refine goesM_ (some 40) rfl rfl Try.func48 (by kernel_rfl) rfl #[.agg #[.int .i64 t761, .slice Ao36 t762.length co36], .slice Ao40 t766.length co40, .slice Ao41 t769.length co41] rfl ?_; (with_reducible refine (impl_AreEquivalent.calls kj9 t761 _ _ t762 _ _ t766 _ _ t769 t772 _ ?side1 ?side2 ?side3 ?side4 ?side5 ?side6 A21.out).mono ?_); (case side1 => exact Cz ((Kd.R_reads' HO764.out).2.2)); (case side2 => exact (Kd.R_reads' HO764.out).2.1); (case side3 => exact Cz ((Kd.R_reads' HO768.out).2.2)); (case side4 => exact (Kd.R_reads' HO768.out).2.1); (case side5 => exact Cz ((Kd.R_reads' HO771.out).2.2)); (case side6 => exact (Kd.R_reads' HO771.out).2.1); rintro e w42 ⟨rfl, hb⟩; refine ⟨_, rfl, ?_⟩; replace HO753 := Aside0.mk (Kd.R_below (Rz HO753) hb); replace HO756 := Aside0.mk (Kd.R_below (Rz HO756) hb); replace HO759 := Aside0.mk (Kd.R_below (Rz HO759) hb); replace HO764 := Aside0.mk (Kd.R_below (Rz HO764) hb); replace HO768 := Aside0.mk (Kd.R_below (Rz HO768) hb); replace HO771 := Aside0.mk (Kd.R_below (Rz HO771) hb); replace BK748 := Aside0.mk (blk_below (g := gb748) (o := .cells #[.int .i64 a0_0, .slice A0_1 l0_1.length c0_1] 37 (0, 0)) (Bz BK748) hb); replace BK765 := Aside0.mk (blk_below (g := gb765) (o := .cells #[.int .i64 t761, .slice Ao36 t762.length co36] 25 (0, 0)) (Bz BK765) hb); replace HB := Aside0.mk (below_step (by exact Lz2 HB GE748 GE765) hb); (try clear hb); (try clear hb2); (try clear hk); (try clear hi)))
       (try simp only [Act.put, List.setIfInBounds_toArray, List.set_cons_zero, List.set_cons_succ])
       go_cut [] (fun wc => ∃ (kq : Nat), Aside0 (laws_FnExactAreEquivalent.j3 kq l1 l2 t766 t769 a0_0 l0_1 t761 t762 = some r) ∧ Aside0 (kq ≤ kj9) ∧ Aside0 (Kd.R (Kd.int .i64) 3 wc w.heap.size (fun k_ => some k_ ≠ ((.slice Ao41 t769.length co41) : Value).ownBlock) (.slice Ao40 t766.length co40) t766) ∧ Aside0 (Kd.R (Kd.int .i64) 3 wc w.heap.size (fun k_ => some k_ ≠ ((.slice Ao40 t766.length co40) : Value).ownBlock) (.slice Ao41 t769.length co41) t769) ∧ Aside0 (Kd.R k70 70 wc w.heap.size (fun _ => True) (.slice Ao36 t762.length co36) t762) ∧ Aside0 (wc.heap[gb748]? = some (.cells #[.int .i64 a0_0, (.slice A0_1 l0_1.length c0_1)] 37 (0, 0))) ∧ Aside0 (wc.heap[gb765]? = some (.cells #[.int .i64 t761, (.slice Ao36 t762.length co36)] 25 (0, 0))) ∧ Aside0 (Below w.heap.size w wc))
       case first =>
        have H := HC22.out
        clear HC22
        by_cases c43 : (t772 != t760) = true
        ·rw [if_pos c43] at H
         have c43b0 : (t772 != t760) = true := c43
         (try (have c43b1 : decide (t772 = t760) = false := by simpa using c43))
         (try (have c43b2 : (t772 == t760) = false := by simpa using c43))
         (try (have c43b3 : ¬ (t772 = t760) := by simpa using c43))
         clear c43
         (first | rw [c43b0] | (simp only [i64_w, i32_w]; rw [c43b0]) |(simp only [c43b2, Bool.not_false, Bool.not_true]) | skip)
         obtain rfl := Option.some.inj H
         go_wp2
         go_ret
         exact ⟨by first | rfl | (simp [errW_none, errW_some] <;> rfl) | (simp [*, errW_none, errW_some] <;> rfl), by exact Lz2 HB GE748 GE765⟩
        rw [if_neg c43] at H
        have c43b0 : (t772 != t760) = false := by simpa using c43
        (try (have c43b1 : decide (t772 = t760) = true := by simpa using c43))
        (try (have c43b2 : (t772 == t760) = true := by simpa using c43))
        clear c43
        (first | rw [c43b0] | (simp only [i64_w, i32_w]; rw [c43b0]) |(simp only [c43b2, Bool.not_false, Bool.not_true]) | skip)
        have H' := Aside0.mk H
        clear H
        go_wp2
        go_meet
        case rel => exact ⟨_, H', ⟨by have := HJ3.out; have := HJ6.out; have := HJ9.out; first | omega | exact Nat.le_refl _⟩, ⟨by (with_reducible repeat (first | apply Kd.R_alloc | apply Kd.R_drewN | apply Kd.R_drew)); exact Kd.R_mono HO768.out (fun _ hk => hk.2)⟩, ⟨by (with_reducible repeat (first | apply Kd.R_alloc | apply Kd.R_drewN | apply Kd.R_drew)); exact Kd.R_mono HO771.out (fun _ hk => hk.2)⟩, ⟨by (with_reducible repeat (first | apply Kd.R_alloc | apply Kd.R_drewN | apply Kd.R_drew)); exact Kd.R_mono HO764.out (fun _ hk => trivial)⟩, ⟨by exact Bz BK748⟩, ⟨by exact Bz BK765⟩, ⟨by exact Lz2 HB GE748 GE765⟩⟩
       case rest =>
        clear HC22
        try clear c1
        try clear c2
        try clear c6
        try clear c6b0
        try clear c6b1
        try clear c8
        try clear c8b0
        try clear c8b1
        try clear c13
        try clear c13b0
        try clear c43
        try clear c43b0
        try clear c43b1
        try clear c43b2
        obtain ⟨kq, HA, HJ21, HO_10, HO_11, HO_766001, BK748, BK765, HB⟩ := hcut
        cases kq with
        | zero => exact absurd HA.out (by simp [laws_FnExactAreEquivalent.j3])
        | succ kj21 =>
         have H := HA.out
         clear HA
         simp only [laws_FnExactAreEquivalent.j3] at H
         replace H := Option.bind_eq_some_iff.mp H
         obtain ⟨⟨t773, t774⟩, A440, H⟩ := H
         replace H : ((laws_eqGraph.f kj21 t761 t762 t773 t774).bind fun t777 => (if t777 = true then (laws_FnExactAreEquivalent.j4 kj21 l1 l2 t766 t769) else (some false))) = some r := H
         have A44 := Aside0.mk A440
         clear A440
         replace H := Option.bind_eq_some_iff.mp H
         obtain ⟨t777, A450, H⟩ := H
         replace H : (if t777 = true then (laws_FnExactAreEquivalent.j4 kj21 l1 l2 t766 t769) else (some false)) = some r := H
         have A45 := Aside0.mk A450
         clear A450
         have HC46 := Aside0.mk H
         clear H
         try go_wp2
         replace HO_10 := Aside0.mk (Kd.R_drew HO_10.out)
         replace HO_11 := Aside0.mk (Kd.R_drew HO_11.out)
         replace HO_766001 := Aside0.mk (Kd.R_drew HO_766001.out)
         replace BK748 := Aside0.mk (blk_drew BK748.out)
         replace BK765 := Aside0.mk (blk_drew BK765.out)
         replace HB := Aside0.mk (below_drew1 HB.out)
         refine start_ (n := 5) (S := fun w' => w'.cell? ⟨gb765, 0, none⟩ = some (.int .i64 t761) ∧ w'.cell? ⟨gb765, 1, none⟩ = some (.slice Ao36 t762.length co36) ∧ w'.cell? ⟨gb748, 0, none⟩ = some (.int .i64 a0_0) ∧ w'.cell? ⟨gb748, 1, none⟩ = some (.slice A0_1 l0_1.length c0_1)) (ds := []) #[false, false, false, false, false] (by kernel_rfl) rfl rfl ⟨(blk_cell BK765.out 0).trans rfl, (blk_cell BK765.out 1).trans rfl, (blk_cell BK748.out 0).trans rfl, (blk_cell BK748.out 1).trans rfl⟩ (fun hHeld => ?_)
         generalize wc.drew = w47 at HO_10 HO_11 HO_766001 BK748 BK765 HB hHeld ⊢
         refine take_ (i := 0) (N := some 44) (v := ?_) (a' := ?_) #[true, false, false, false, false] rfl rfl (by kernel_rfl) (fun _ _ _ h => h) (Or.inl ⟨by rfl, ?_⟩) hHeld ?_ ?_
         rotate_left
         ·rintro w' ⟨s0, s1, s2, s3⟩
          go_simp
          with_reducible rfl
         rotate_left
         ·simp only [Act.put, List.setIfInBounds_toArray, List.set_cons_zero, List.set_cons_succ, i64_w, i32_w]
          rfl
         refine take_ (i := 1) (N := some 45) (v := ?_) (a' := ?_) #[true, true, false, false, false] rfl rfl (by kernel_rfl) (fun _ _ _ h => h) (Or.inl ⟨by rfl, ?_⟩) hHeld ?_ ?_
         rotate_left
         ·rintro w' ⟨s0, s1, s2, s3⟩
          go_simp
          with_reducible rfl
         rotate_left
         ·simp only [Act.put, List.setIfInBounds_toArray, List.set_cons_zero, List.set_cons_succ, i64_w, i32_w]
          rfl
         refine one_ (i := 2) (N := some 46) #[true, true, true, false, false] rfl rfl (by kernel_rfl) (by decide) (fun K hK => ?_)
         refine goes_ Try.func25 (by kernel_rfl) rfl #[.agg #[.int .i64 a0_0, .slice A0_1 l0_1.length c0_1]] (by rfl) rfl rfl (by (try simp only [List.map_toArray, List.map_cons, List.map_nil]); first | done | rfl | (simp only [List.length_drop, List.length_take]; rfl)) ?_
         with_reducible refine (laws_toGraph.calls kj21 a0_0 _ _ l0_1 t773 t774 _ ?side1 ?side2 A44.out).mono ?_
         (case side1 => exact Cz ((Kd.C_below HR0_1.out HB.out)))
         (case side2 => exact HC0_1.out)
         rintro e w48 ⟨v775, rfl, ho0, hb⟩
         refine ⟨_, rfl, ?_⟩
         replace HO_10 := Aside0.mk (Kd.R_below (Rz HO_10) hb)
         replace HO_11 := Aside0.mk (Kd.R_below (Rz HO_11) hb)
         have HO776 := Aside0.mk (Kd.R_lower (Kd.R_new' ho0 (Kd.R_lt (Rz HO_766001))) (below_size (by exact Lz2 HB GE748 GE765)))
         replace HO_766001 := Aside0.mk (Kd.R_elder' (Rz HO_766001) (Kd.R_base ho0) hb)
         replace BK748 := Aside0.mk (blk_below (g := gb748) (o := .cells #[.int .i64 a0_0, .slice A0_1 l0_1.length c0_1] 37 (0, 0)) (Bz BK748) hb)
         replace BK765 := Aside0.mk (blk_below (g := gb765) (o := .cells #[.int .i64 t761, .slice Ao36 t762.length co36] 25 (0, 0)) (Bz BK765) hb)
         replace HB := Aside0.mk (below_step (by exact Lz2 HB GE748 GE765) hb)
         (try clear hb)
         (try clear hb2)
         (try clear hk)
         (try clear hi)
         (try clear ho0)
         obtain ⟨Ao49, co49, eo49⟩ := Kd.R_slice HO776.out
         (first | subst eo49 | (injection eo49 with f1_ f2_ f3_; have f4_ := f1_.symm; have f5_ := f3_.symm; clear f1_ f2_ f3_; subst f4_; subst f5_))
         refine hK.out _ _ ⟨(blk_cell BK765.out 0).trans rfl, (blk_cell BK765.out 1).trans rfl, (blk_cell BK748.out 0).trans rfl, (blk_cell BK748.out 1).trans rfl⟩ (fun hHeld => ?_)
         clear hK K
         refine norm_ (a' := ?_) ?_ ?_
         rotate_left
         ·show Act.put _ (some 46) _ = _
          simp only [Act.put, List.setIfInBounds_toArray, List.set_cons_zero, List.set_cons_succ, i64_w, i32_w]
          rfl
         refine one_ (i := 3) (N := some 47) #[true, true, true, true, false] rfl rfl (by kernel_rfl) (by decide) (fun K hK => ?_)
         refine goes_ Try.func29 (by kernel_rfl) rfl #[.agg #[.int .i64 t761, .slice Ao36 t762.length co36], .agg #[.int .i64 t773, .slice Ao49 t774.length co49]] (by rfl) rfl rfl (by (try simp only [List.map_toArray, List.map_cons, List.map_nil]); first | done | rfl | (simp only [List.length_drop, List.length_take]; rfl)) ?_
         with_reducible refine (laws_eqGraph.calls kj21 t761 _ _ t762 t773 _ _ t774 t777 _ ?side1 ?side2 ?side3 ?side4 A45.out).mono ?_
         (case side1 => exact Cz ((Kd.R_reads' HO_766001.out).2.2))
         (case side2 => exact (Kd.R_reads' HO_766001.out).2.1)
         (case side3 => exact Cz ((Kd.R_reads' HO776.out).2.2))
         (case side4 => exact (Kd.R_reads' HO776.out).2.1)
         rintro e w50 ⟨rfl, hb⟩
         refine ⟨_, rfl, ?_⟩
         replace HO_10 := Aside0.mk (Kd.R_below (Rz HO_10) hb)
         replace HO_11 := Aside0.mk (Kd.R_below (Rz HO_11) hb)
         replace HO_766001 := Aside0.mk (Kd.R_below (Rz HO_766001) hb)
         replace HO776 := Aside0.mk (Kd.R_below (Rz HO776) hb)
         replace BK748 := Aside0.mk (blk_below (g := gb748) (o := .cells #[.int .i64 a0_0, .slice A0_1 l0_1.length c0_1] 37 (0, 0)) (Bz BK748) hb)
         replace BK765 := Aside0.mk (blk_below (g := gb765) (o := .cells #[.int .i64 t761, .slice Ao36 t762.length co36] 25 (0, 0)) (Bz BK765) hb)
         replace HB := Aside0.mk (below_step (by exact Lz2 HB GE748 GE765) hb)
         (try clear hb)
         (try clear hb2)
         (try clear hk)
         (try clear hi)
         refine hK.out _ _ ⟨(blk_cell BK765.out 0).trans rfl, (blk_cell BK765.out 1).trans rfl, (blk_cell BK748.out 0).trans rfl, (blk_cell BK748.out 1).trans rfl⟩ (fun hHeld => ?_)
         clear hK K
         refine norm_ (a' := ?_) ?_ ?_
         rotate_left
         ·show Act.put _ (some 47) _ = _
          simp only [Act.put, List.setIfInBounds_toArray, List.set_cons_zero, List.set_cons_succ, i64_w, i32_w]
          rfl
         refine pure_ (i := 4) (N := some 48) (v := ?_) (a' := ?_) #[true, true, true, true, true] rfl rfl (by kernel_rfl) (fun _ _ _ h => h) (Or.inl ⟨by rfl, ?_⟩) ?_ ?_
         rotate_left
         ·intro w'
          go_simp
          with_reducible rfl
         rotate_left
         ·simp only [Act.put, List.setIfInBounds_toArray, List.set_cons_zero, List.set_cons_succ, i64_w, i32_w]
          rfl
         refine done_ (by kernel_rfl) ?_
         go_upto_if 48 with (fail)
         go_cut [] (fun wc => ∃ (kq : Nat), Aside0 (laws_FnExactAreEquivalent.j4 kq l1 l2 t766 t769 = some r) ∧ Aside0 (kq ≤ kj21) ∧ Aside0 (Kd.R (Kd.int .i64) 3 wc w.heap.size (fun k_ => some k_ ≠ ((.slice Ao41 t769.length co41) : Value).ownBlock) (.slice Ao40 t766.length co40) t766) ∧ Aside0 (Kd.R (Kd.int .i64) 3 wc w.heap.size (fun k_ => some k_ ≠ ((.slice Ao40 t766.length co40) : Value).ownBlock) (.slice Ao41 t769.length co41) t769) ∧ Aside0 (Kd.R k70 70 wc w.heap.size (fun _ => True) (.slice Ao36 t762.length co36) t762) ∧ Aside0 (wc.heap[gb748]? = some (.cells #[.int .i64 a0_0, (.slice A0_1 l0_1.length c0_1)] 37 (0, 0))) ∧ Aside0 (wc.heap[gb765]? = some (.cells #[.int .i64 t761, (.slice Ao36 t762.length co36)] 25 (0, 0))) ∧ Aside0 (Below w.heap.size w wc))
         case first =>
          have H := HC46.out
          clear HC46
          by_cases c51 : t777 = true
          ·subst c51
           have H1 : (laws_FnExactAreEquivalent.j4 kj21 l1 l2 t766 t769) = some r := by rw [if_pos rfl] at H; exact H
           clear H
           have H := H1
           clear H1
           have H' := Aside0.mk H
           clear H
           go_wp2
           go_meet
           case rel => exact ⟨_, H', ⟨by have := HJ3.out; have := HJ6.out; have := HJ9.out; have := HJ21.out; first | omega | exact Nat.le_refl _⟩, ⟨by exact Rz HO_10⟩, ⟨by exact Rz HO_11⟩, ⟨by (with_reducible repeat (first | apply Kd.R_alloc | apply Kd.R_drewN | apply Kd.R_drew)); exact Kd.R_mono HO_766001.out (fun _ hk => trivial)⟩, ⟨by exact Bz BK748⟩, ⟨by exact Bz BK765⟩, ⟨by exact Lz2 HB GE748 GE765⟩⟩
          replace c51 := Bool.eq_false_iff.mpr c51
          subst c51
          have H1 : (some false) = some r := by rw [if_neg (show ¬ (false = true) by decide)] at H; exact H
          clear H
          have H := H1
          clear H1
          obtain rfl := Option.some.inj H
          go_wp2
          go_ret
          exact ⟨by first | rfl | (simp [errW_none, errW_some] <;> rfl) | (simp [*, errW_none, errW_some] <;> rfl), by exact Lz2 HB GE748 GE765⟩
         case rest =>
          clear HC46
          try clear c1
          try clear c2
          try clear c6
          try clear c6b0
          try clear c6b1
          try clear c8
          try clear c8b0
          try clear c8b1
          try clear c13
          try clear c13b0
          try clear c43
          try clear c43b0
          try clear c43b1
          try clear c43b2
          try clear c51
          obtain ⟨kq, HA, HJ45, HO_10, HO_11, HO_766001, BK748, BK765, HB⟩ := hcut
          cases kq with
          | zero => exact absurd HA.out (by simp [laws_FnExactAreEquivalent.j4])
          | succ kj45 =>
           have H := HA.out
           clear HA
           simp only [laws_FnExactAreEquivalent.j4] at H
           replace H := Option.bind_eq_some_iff.mp H
           obtain ⟨t778, A520, H⟩ := H
           replace H : ((laws_eqIntS.f kj45 t766 t778).bind fun t781 => (if t781 = true then (laws_FnExactAreEquivalent.j5 kj45 l2 t769) else (some false))) = some r := H
           have A52 := Aside0.mk A520
           clear A520
           replace H := Option.bind_eq_some_iff.mp H
           obtain ⟨t781, A530, H⟩ := H
           replace H : (if t781 = true then (laws_FnExactAreEquivalent.j5 kj45 l2 t769) else (some false)) = some r := H
           have A53 := Aside0.mk A530
           clear A530
           have HC54 := Aside0.mk H
           clear H
           go_upto_if 53 with (first | ((with_reducible refine gate_callee (f := 26) rfl ?_); refine goesM_ (some 51) rfl rfl Try.func26 (by kernel_rfl) rfl #[.slice A1 l1.length c1] rfl ?_; (with_reducible refine (laws_toIntS.calls kj45 _ _ l1 t778 _ ?side1 ?side2 A52.out).mono ?_); (case side1 => exact Cz ((Kd.C_below HR1.out HB.out))); (case side2 => exact HC1.out); rintro e w55 ⟨v779, rfl, ho0, hb⟩; refine ⟨_, rfl, ?_⟩; replace HO_766001 := Aside0.mk (Kd.R_below (Rz HO_766001) hb); have HO780 := Aside0.mk (Kd.R_lower (Kd.R_new' (Kd.R_new' ho0 (Kd.R_lt (Rz HO_10))) (Kd.R_lt (Rz HO_11))) (below_size (by exact Lz2 HB GE748 GE765))); replace HO_10 := Aside0.mk (Kd.R_elder' (Rz HO_10) (Kd.R_base ho0) hb); replace HO_11 := Aside0.mk (Kd.R_elder' (Rz HO_11) (Kd.R_base ho0) hb); replace BK748 := Aside0.mk (blk_below (g := gb748) (o := .cells #[.int .i64 a0_0, .slice A0_1 l0_1.length c0_1] 37 (0, 0)) (Bz BK748) hb); replace BK765 := Aside0.mk (blk_below (g := gb765) (o := .cells #[.int .i64 t761, .slice Ao36 t762.length co36] 25 (0, 0)) (Bz BK765) hb); replace HB := Aside0.mk (below_step (by exact Lz2 HB GE748 GE765) hb); (try clear hb); (try clear ho0); obtain ⟨Ao56, co56, eo56⟩ := Kd.R_slice HO780.out; subst eo56) | ((with_reducible refine gate_callee (f := 28) rfl ?_); refine goesM_ (some 52) rfl rfl Try.func28 (by kernel_rfl) rfl #[.slice Ao40 t766.length co40, .slice Ao56 t778.length co56] rfl ?_; (with_reducible refine (laws_eqIntS.calls kj45 _ _ t766 _ _ t778 t781 _ ?side1 ?side2 ?side3 ?side4 A53.out).mono ?_); (case side1 => exact Cz ((Kd.R_reads' HO_10.out).2.2)); (case side2 => exact (Kd.R_reads' HO_10.out).2.1); (case side3 => exact Cz ((Kd.R_reads' HO780.out).2.2)); (case side4 => exact (Kd.R_reads' HO780.out).2.1); rintro e w' ⟨rfl, ⟨nd, rfl⟩⟩; refine ⟨_, rfl, ?_⟩))
           (try simp only [Act.put, List.setIfInBounds_toArray, List.set_cons_zero, List.set_cons_succ])
           go_cut [] (fun wc => ∃ (kq : Nat), Aside0 (laws_FnExactAreEquivalent.j5 kq l2 t769 = some r) ∧ Aside0 (kq ≤ kj45) ∧ Aside0 (Kd.R (Kd.int .i64) 3 wc w.heap.size (fun _ => True) (.slice Ao41 t769.length co41) t769) ∧ Aside0 (Kd.R k70 70 wc w.heap.size (fun _ => True) (.slice Ao36 t762.length co36) t762) ∧ Aside0 (wc.heap[gb748]? = some (.cells #[.int .i64 a0_0, (.slice A0_1 l0_1.length c0_1)] 37 (0, 0))) ∧ Aside0 (wc.heap[gb765]? = some (.cells #[.int .i64 t761, (.slice Ao36 t762.length co36)] 25 (0, 0))) ∧ Aside0 (Below w.heap.size w wc))
           case first =>
            have H := HC54.out
            clear HC54
            by_cases c57 : t781 = true
            ·subst c57
             have H1 : (laws_FnExactAreEquivalent.j5 kj45 l2 t769) = some r := by rw [if_pos rfl] at H; exact H
             clear H
             have H := H1
             clear H1
             have H' := Aside0.mk H
             clear H
             go_wp2
             go_meet
             case rel => exact ⟨_, H', ⟨by have := HJ3.out; have := HJ6.out; have := HJ9.out; have := HJ21.out; have := HJ45.out; first | omega | exact Nat.le_refl _⟩, ⟨by (with_reducible repeat (first | apply Kd.R_alloc | apply Kd.R_drewN | apply Kd.R_drew)); exact Kd.R_mono HO_11.out (fun _ hk => trivial)⟩, ⟨by exact Rz HO_766001⟩, ⟨by exact Bz BK748⟩, ⟨by exact Bz BK765⟩, ⟨by exact Lz2 HB GE748 GE765⟩⟩
            replace c57 := Bool.eq_false_iff.mpr c57
            subst c57
            have H1 : (some false) = some r := by rw [if_neg (show ¬ (false = true) by decide)] at H; exact H
            clear H
            have H := H1
            clear H1
            obtain rfl := Option.some.inj H
            go_wp2
            go_ret
            exact ⟨by first | rfl | (simp [errW_none, errW_some] <;> rfl) | (simp [*, errW_none, errW_some] <;> rfl), by exact Lz2 HB GE748 GE765⟩
           case rest =>
            clear HC54
            try clear c1
            try clear c2
            try clear c6
            try clear c6b0
            try clear c6b1
            try clear c8
            try clear c8b0
            try clear c8b1
            try clear c13
            try clear c13b0
            try clear c43
            try clear c43b0
            try clear c43b1
            try clear c43b2
            try clear c51
            try clear c57
            obtain ⟨kq, HA, HJ53, HO_11, HO_766001, BK748, BK765, HB⟩ := hcut
            cases kq with
            | zero => exact absurd HA.out (by simp [laws_FnExactAreEquivalent.j5])
            | succ kj53 =>
             have H := HA.out
             clear HA
             simp only [laws_FnExactAreEquivalent.j5] at H
             replace H := Option.bind_eq_some_iff.mp H
             obtain ⟨t782, A580, H⟩ := H
             replace H : ((laws_eqIntS.f kj53 t769 t782).bind fun t785 => (if t785 = true then (some true) else (some false))) = some r := H
             have A58 := Aside0.mk A580
             clear A580
             replace H := Option.bind_eq_some_iff.mp H
             obtain ⟨t785, A590, H⟩ := H
             replace H : (if t785 = true then (some true) else (some false)) = some r := H
             have A59 := Aside0.mk A590
             clear A590
             by_cases c60 : t785 = true
             ·subst c60
              have H1 : (some true) = some r := by rw [if_pos rfl] at H; exact H
              clear H
              have H := H1
              clear H1
              obtain rfl := Option.some.inj H
              go_wp2_with (first | ((with_reducible refine gate_callee (f := 26) rfl ?_); refine goesM_ (some 56) rfl rfl Try.func26 (by kernel_rfl) rfl #[.slice A2 l2.length c2] rfl ?_; (with_reducible refine (laws_toIntS.calls kj53 _ _ l2 t782 _ ?side1 ?side2 A58.out).mono ?_); (case side1 => exact Cz ((Kd.C_below HR2.out HB.out))); (case side2 => exact HC2.out); rintro e w61 ⟨v783, rfl, ho0, hb⟩; refine ⟨_, rfl, ?_⟩; replace HO_766001 := Aside0.mk (Kd.R_below (Rz HO_766001) hb); have HO784 := Aside0.mk (Kd.R_lower (Kd.R_new' ho0 (Kd.R_lt (Rz HO_11))) (below_size (by exact Lz2 HB GE748 GE765))); replace HO_11 := Aside0.mk (Kd.R_elder' (Rz HO_11) (Kd.R_base ho0) hb); replace BK748 := Aside0.mk (blk_below (g := gb748) (o := .cells #[.int .i64 a0_0, .slice A0_1 l0_1.length c0_1] 37 (0, 0)) (Bz BK748) hb); replace BK765 := Aside0.mk (blk_below (g := gb765) (o := .cells #[.int .i64 t761, .slice Ao36 t762.length co36] 25 (0, 0)) (Bz BK765) hb); replace HB := Aside0.mk (below_step (by exact Lz2 HB GE748 GE765) hb); (try clear hb); (try clear ho0); obtain ⟨Ao62, co62, eo62⟩ := Kd.R_slice HO784.out; subst eo62) | ((with_reducible refine gate_callee (f := 28) rfl ?_); refine goesM_ (some 57) rfl rfl Try.func28 (by kernel_rfl) rfl #[.slice Ao41 t769.length co41, .slice Ao62 t782.length co62] rfl ?_; (with_reducible refine (laws_eqIntS.calls kj53 _ _ t769 _ _ t782 true _ ?side1 ?side2 ?side3 ?side4 A59.out).mono ?_); (case side1 => exact Cz ((Kd.R_reads' HO_11.out).2.2)); (case side2 => exact (Kd.R_reads' HO_11.out).2.1); (case side3 => exact Cz ((Kd.R_reads' HO784.out).2.2)); (case side4 => exact (Kd.R_reads' HO784.out).2.1); rintro e w' ⟨rfl, ⟨nd, rfl⟩⟩; refine ⟨_, rfl, ?_⟩))
              go_ret
              exact ⟨by first | rfl | (simp [errW_none, errW_some] <;> rfl) | (simp [*, errW_none, errW_some] <;> rfl), by exact Lz2 HB GE748 GE765⟩
             replace c60 := Bool.eq_false_iff.mpr c60
             subst c60
             have H1 : (some false) = some r := by rw [if_neg (show ¬ (false = true) by decide)] at H; exact H
             clear H
             have H := H1
             clear H1
             obtain rfl := Option.some.inj H
             go_wp2_with (first | ((with_reducible refine gate_callee (f := 26) rfl ?_); refine goesM_ (some 56) rfl rfl Try.func26 (by kernel_rfl) rfl #[.slice A2 l2.length c2] rfl ?_; (with_reducible refine (laws_toIntS.calls kj53 _ _ l2 t782 _ ?side1 ?side2 A58.out).mono ?_); (case side1 => exact Cz ((Kd.C_below HR2.out HB.out))); (case side2 => exact HC2.out); rintro e w63 ⟨v783, rfl, ho0, hb⟩; refine ⟨_, rfl, ?_⟩; replace HO_766001 := Aside0.mk (Kd.R_below (Rz HO_766001) hb); have HO784 := Aside0.mk (Kd.R_lower (Kd.R_new' ho0 (Kd.R_lt (Rz HO_11))) (below_size (by exact Lz2 HB GE748 GE765))); replace HO_11 := Aside0.mk (Kd.R_elder' (Rz HO_11) (Kd.R_base ho0) hb); replace BK748 := Aside0.mk (blk_below (g := gb748) (o := .cells #[.int .i64 a0_0, .slice A0_1 l0_1.length c0_1] 37 (0, 0)) (Bz BK748) hb); replace BK765 := Aside0.mk (blk_below (g := gb765) (o := .cells #[.int .i64 t761, .slice Ao36 t762.length co36] 25 (0, 0)) (Bz BK765) hb); replace HB := Aside0.mk (below_step (by exact Lz2 HB GE748 GE765) hb); (try clear hb); (try clear ho0); obtain ⟨Ao64, co64, eo64⟩ := Kd.R_slice HO784.out; subst eo64) | ((with_reducible refine gate_callee (f := 28) rfl ?_); refine goesM_ (some 57) rfl rfl Try.func28 (by kernel_rfl) rfl #[.slice Ao41 t769.length co41, .slice Ao64 t782.length co64] rfl ?_; (with_reducible refine (laws_eqIntS.calls kj53 _ _ t769 _ _ t782 false _ ?side1 ?side2 ?side3 ?side4 A59.out).mono ?_); (case side1 => exact Cz ((Kd.R_reads' HO_11.out).2.2)); (case side2 => exact (Kd.R_reads' HO_11.out).2.1); (case side3 => exact Cz ((Kd.R_reads' HO784.out).2.2)); (case side4 => exact (Kd.R_reads' HO784.out).2.1); rintro e w' ⟨rfl, ⟨nd, rfl⟩⟩; refine ⟨_, rfl, ?_⟩))
             go_ret
             exact ⟨by first | rfl | (simp [errW_none, errW_some] <;> rfl) | (simp [*, errW_none, errW_some] <;> rfl), by exact Lz2 HB GE748 GE765⟩
end Go.Proofs.Ytnebapnfkolflaa.P
end
section
namespace Go.Proofs.Ytnebapnfkolflaa.Pure
open Go.RowKit Go.Proofs.Ytnebapnfkolflaa.P Go.Proofs.YtnebapnfkolflaaW.PrintWords Go.Proofs.YtnebapnfkolflaaW.PrintLast Go.Proofs.YtnebapnfkolflaaW.PrintMore
def StatFnExactAreEquivalent : Prop := ∀ (a0_0 : Int) (l0_1 : List (S95)) (l1 : List (Int)) (l2 : List (Int)), ((Lit.int .i64 a0_0).wf = true ∧ (l0_1.length ≤ maxLen ∧ ∀ x4 ∈ l0_1, (Lit.int .i64 x4.f0).wf = true ∧ (Lit.int .i64 x4.f1).wf = true)) → (l1.length ≤ maxLen ∧ ∀ x2 ∈ l1, (Lit.int .i64 x2).wf = true) → (l2.length ≤ maxLen ∧ ∀ x2 ∈ l2, (Lit.int .i64 x2).wf = true) → ∃ k, laws_FnExactAreEquivalent.f k a0_0 l0_1 l1 l2 = some true
end Go.Proofs.Ytnebapnfkolflaa.Pure
end
section
set_option linter.unusedVariables false
set_option linter.unusedSimpArgs false
namespace Go.Proofs.Ytnebapnfkolflaa.Pure
open Go.RowKit Go.Proofs.Ytnebapnfkolflaa.P Go.Proofs.YtnebapnfkolflaaW.PrintWords Go.Proofs.YtnebapnfkolflaaW.PrintLast Go.Proofs.YtnebapnfkolflaaW.PrintMore Go.Proofs.Ytnebapnfkolflaa.Base Go.Proofs.Ytnebapnfkolflaa.Reduce Go.Proofs.Ytnebapnfkolflaa.Loops Go.Proofs.Ytnebapnfkolflaa.Bits
theorem FnExactAreEquivalent : StatFnExactAreEquivalent := by
  intro n l d1 d2 ⟨_, hl, _⟩ ⟨_, _⟩ ⟨_, _⟩
  refine Ev.rounds (r := true) ?_
  unfold laws_FnExactAreEquivalent.f
  by_cases hd1 : (d1.length : Int) > 1048576
  · repeat (first
      | exact Ev.now _
      | dsimp only
      | with_reducible refine ev_ift (by first | rfl | omega) ?_
      | with_reducible refine ev_ifn (by omega) ?_
      | with_reducible refine ev_ifb ?_
      | with_reducible refine ev_ifnn ?_
      | with_reducible refine ev_iff ?_
      | (refine ev_succ ?_; simp only [if_true, laws_FnExactAreEquivalent.j0, laws_FnExactAreEquivalent.j1, laws_FnExactAreEquivalent.j2, laws_FnExactAreEquivalent.j3, laws_FnExactAreEquivalent.j4, laws_FnExactAreEquivalent.j5])
      )
  by_cases hd2 : (d2.length : Int) > 1048576
  · repeat (first
      | exact Ev.now _
      | dsimp only
      | with_reducible refine ev_ift (by first | rfl | omega) ?_
      | with_reducible refine ev_ifn (by omega) ?_
      | with_reducible refine ev_ifb ?_
      | with_reducible refine ev_ifnn ?_
      | with_reducible refine ev_iff ?_
      | (refine ev_succ ?_; simp only [if_true, laws_FnExactAreEquivalent.j0, laws_FnExactAreEquivalent.j1, laws_FnExactAreEquivalent.j2, laws_FnExactAreEquivalent.j3, laws_FnExactAreEquivalent.j4, laws_FnExactAreEquivalent.j5])
      )
  have hs := szGraph_eq n l hl 1048576 (by omega) (by omega)
  by_cases h : (l.length : Int) ≤ 1048576
  · have es : Ev (fun _ : Nat => laws_szGraph.f n l 1048576) (1048576 - (l.length : Int)) := ev_const fun _ => by rw [hs, if_pos h]
    have tg := toGraph_ev n l (by omega)
    have hm := map_cv_length l
    have hL : (l.map cvE).length < 4611686018427387904 := by omega
    have hLd1 : d1.length < 4611686018427387904 := by omega
    have td1 := toIntS_ev d1 (by omega)
    have ed1 := eqIntS_ev d1 hLd1
    have hLd2 : d2.length < 4611686018427387904 := by omega
    have td2 := toIntS_ev d2 (by omega)
    have ed2 := eqIntS_ev d2 hLd2
    obtain ⟨b, g1, g2, _⟩ := areEquivalent_both n (l.map cvE) d1 d2 hL hLd1 hLd2
    have eg := eqGraph_ev n (l.map cvE) hL
    repeat (first
      | exact Ev.now _
      | dsimp only
      | (with_reducible refine Ev.bind es ?_) | (with_reducible refine Ev.bind tg ?_) | (with_reducible refine Ev.bind td1 ?_) | (with_reducible refine Ev.bind ed1 ?_) | (with_reducible refine Ev.bind td2 ?_) | (with_reducible refine Ev.bind ed2 ?_) | (with_reducible refine Ev.bind g1 ?_) | (with_reducible refine Ev.bind g2 ?_) | (with_reducible refine Ev.bind eg ?_)
      | with_reducible refine ev_ift (by first | rfl | omega) ?_
      | with_reducible refine ev_ifn (by omega) ?_
      | with_reducible refine ev_ifb ?_
      | with_reducible refine ev_ifnn ?_
      | with_reducible refine ev_iff ?_
      | (refine ev_succ ?_; simp only [if_true, laws_FnExactAreEquivalent.j0, laws_FnExactAreEquivalent.j1, laws_FnExactAreEquivalent.j2, laws_FnExactAreEquivalent.j3, laws_FnExactAreEquivalent.j4, laws_FnExactAreEquivalent.j5])
      )
  · have es : Ev (fun _ : Nat => laws_szGraph.f n l 1048576) (-1) := ev_const fun _ => by rw [hs, if_neg h]
    repeat (first
      | exact Ev.now _
      | dsimp only
      | (with_reducible refine Ev.bind es ?_)
      | with_reducible refine ev_ift (by first | rfl | omega) ?_
      | with_reducible refine ev_ifn (by omega) ?_
      | with_reducible refine ev_ifb ?_
      | with_reducible refine ev_ifnn ?_
      | with_reducible refine ev_iff ?_
      | (refine ev_succ ?_; simp only [if_true, laws_FnExactAreEquivalent.j0, laws_FnExactAreEquivalent.j1, laws_FnExactAreEquivalent.j2, laws_FnExactAreEquivalent.j3, laws_FnExactAreEquivalent.j4, laws_FnExactAreEquivalent.j5])
      )
end Go.Proofs.Ytnebapnfkolflaa.Pure
end
