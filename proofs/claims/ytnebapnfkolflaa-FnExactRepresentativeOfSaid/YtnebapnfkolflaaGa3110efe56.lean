/- Functions of the program as plain Lean functions and that the machine's calls answer as they do, the words of the print that these use, lemmas and plain proofs of laws. Put together by a program of this work that leaves out what nothing uses; Lean checks it. -/
import Derived.Test.YtnebapnfkolflaaGba58acd38e
import Derived.Test.YtnebapnfkolflaaGe1d48e96ce
import Derived.Test.YtnebapnfkolflaaGb6028519ae
import Derived.Test.YtnebapnfkolflaaGc3b3b645ff
import Derived.Test.YtnebapnfkolflaaG39afe4bd0c
section
namespace Go.Proofs.Ytnebapnfkolflaa.P
open Go.RowKit Go.Proofs.YtnebapnfkolflaaW.PrintWords Go.Proofs.YtnebapnfkolflaaW.PrintLast Go.Proofs.YtnebapnfkolflaaW.PrintMore
attribute [local go_sem] max2_int min2_int max_two min_two max_three min_three max_four min_four
set_option linter.unusedVariables false
set_option linter.unusedSimpArgs false
def spec_RepresentativeOf.f (k : Nat) (a0_0 : Int) (l0_1 : List (S70)) (l1 : List Int) : Option (List Int × Bool) := (spec_ReducedOf.f k a0_0 l0_1 l1 0).bind fun bt649 => (some (bt649.1, bt649.2))
set_option maxHeartbeats 8000000 in
set_option maxRecDepth 100000 in
theorem spec_RepresentativeOf.calls (k : Nat) (a0_0 : Int) (A0_1 : Option Addr) (c0_1 : Nat) (l0_1 : List (S70)) (A1 : Option Addr) (c1 : Nat) (l1 : List Int) (r1 : List Int) (r2 : Bool) (w : World) (hr0_1 : Kd.C k70 w A0_1 l0_1.length l0_1) (hc0_1 : l0_1.length ≤ c0_1) (hr1 : Kd.C (Kd.int .i64) w A1 l1.length l1) (hc1 : l1.length ≤ c1) (h : spec_RepresentativeOf.f k a0_0 l0_1 l1 = some (r1, r2)) :
  Calls Try.prog 45 #[.agg #[.int .i64 a0_0, .slice A0_1 l0_1.length c0_1], .slice A1 l1.length c1] w fun e w' => ∃ v0_ : Value, e = .returned (.tuple #[v0_, .bool r2]) ∧ Kd.R (Kd.int .i64) 3 w' w.heap.size (fun _ => True) v0_ r1 ∧ Below w.heap.size w w' := by
 have hu25 := Try.underlying25
 have HR0_1 := Aside0.mk hr0_1
 have HC0_1 := Aside0.mk hc0_1
 clear hr0_1 hc0_1
 have HR1 := Aside0.mk hr1
 have HC1 := Aside0.mk hc1
 clear hr1 hc1
 have HB := Aside0.mk (Below.refl w.heap.size w)
 have H : ((spec_ReducedOf.f k a0_0 l0_1 l1 0).bind fun bt649 => (some (bt649.1, bt649.2))) = some (r1, r2) := h
 clear h
 replace H := Option.bind_eq_some_iff.mp H
 obtain ⟨⟨t649, t652⟩, A30, H⟩ := H
 replace H : (some (t649, t652)) = some (r1, r2) := H
 have A3 := Aside0.mk A30
 clear A30
 simp only [Option.some.injEq, Prod.mk.injEq] at H
 obtain ⟨rfl, rfl⟩ := H
 go_enter Try.func45, Try.ntmps45
 go_wp2_with (first | ((with_reducible refine gate_dst (N := 2) rfl ?_); refine box_event ?hg (N := 2) ?hd (cs := #[.int .i64 a0_0, .slice A0_1 l0_1.length c0_1]) (t := 25) ?hr ?_; (case hd => rfl); (case hg => rfl); (case hr => first | (go_simp; done) | (go_simp; rfl)); intro gb648 hg w4 hbox hb; have BK648 := Aside0.mk (hbox); have GW648 := Aside0.mk ((by rw [hg]; exact (below_size (Lz HB)) : w.heap.size ≤ gb648)); have GE648 := Aside0.mk ((by rw [hg]; exact (below_size (Lz HB)) : w.heap.size ≤ gb648)); replace HB := Aside0.mk (below_step (Lz HB) hb); clear hb hbox hg; have hcz5_0 : w4.cell? ⟨gb648, 0, none⟩ = some (.int .i64 a0_0) := (blk_cell BK648.out 0).trans rfl; have hcz5_1 : w4.cell? ⟨gb648, 1, none⟩ = some (.slice A0_1 l0_1.length c0_1) := (blk_cell BK648.out 1).trans rfl; have hfz5_0 := blk_frozen BK648.out 0; have hfz5_1 := blk_frozen BK648.out 1) | ((with_reducible refine gate_callee (f := 41) rfl ?_); refine goesM_ (some 8) rfl rfl Try.func41 (by kernel_rfl) rfl #[.agg #[.int .i64 a0_0, .slice A0_1 l0_1.length c0_1], .slice A1 l1.length c1, .int .i64 0] rfl ?_; (with_reducible refine (spec_ReducedOf.calls k a0_0 _ _ l0_1 _ _ l1 0 t649 t652 _ ?side1 ?side2 ?side3 ?side4 A3.out).mono ?_); (case side1 => exact Cz ((Kd.C_below HR0_1.out HB.out))); (case side2 => exact HC0_1.out); (case side3 => exact Cz ((Kd.C_below HR1.out HB.out))); (case side4 => exact HC1.out); rintro e w6 ⟨v650, rfl, ho0, hb⟩; refine ⟨_, rfl, ?_⟩; have HO651 := Aside0.mk (Kd.R_lower ho0 (below_size (by exact Lz1 HB GE648))); replace BK648 := Aside0.mk (blk_below (g := gb648) (o := .cells #[.int .i64 a0_0, .slice A0_1 l0_1.length c0_1] 25 (0, 0)) (Bz BK648) hb); replace HB := Aside0.mk (below_step (by exact Lz1 HB GE648) hb); (try clear hb); (try clear ho0)))
 go_ret2
 exact ⟨_, by first | rfl | (simp [errW_none, errW_some] <;> rfl) | (simp [*, errW_none, errW_some] <;> rfl), by exact Rz HO651, by exact Lz1 HB GE648⟩
end Go.Proofs.Ytnebapnfkolflaa.P
end
section
namespace Go.Proofs.Ytnebapnfkolflaa.P
open Go.RowKit Go.Proofs.YtnebapnfkolflaaW.PrintWords Go.Proofs.YtnebapnfkolflaaW.PrintLast Go.Proofs.YtnebapnfkolflaaW.PrintMore
attribute [local go_sem] max2_int min2_int max_two min_two max_three min_three max_four min_four
set_option linter.unusedVariables false
set_option linter.unusedSimpArgs false
def impl_RepresentativeOf.f (k : Nat) (a0_0 : Int) (l0_1 : List (S70)) (l1 : List Int) : Option (List Int × Bool) := (impl_ReducedOf.f k a0_0 l0_1 l1 0).bind fun bt654 => (some (bt654.1, bt654.2))
set_option maxHeartbeats 8000000 in
set_option maxRecDepth 100000 in
theorem impl_RepresentativeOf.calls (k : Nat) (a0_0 : Int) (A0_1 : Option Addr) (c0_1 : Nat) (l0_1 : List (S70)) (A1 : Option Addr) (c1 : Nat) (l1 : List Int) (r1 : List Int) (r2 : Bool) (w : World) (hr0_1 : Kd.C k70 w A0_1 l0_1.length l0_1) (hc0_1 : l0_1.length ≤ c0_1) (hr1 : Kd.C (Kd.int .i64) w A1 l1.length l1) (hc1 : l1.length ≤ c1) (h : impl_RepresentativeOf.f k a0_0 l0_1 l1 = some (r1, r2)) :
  Calls Try.prog 46 #[.agg #[.int .i64 a0_0, .slice A0_1 l0_1.length c0_1], .slice A1 l1.length c1] w fun e w' => ∃ v0_ : Value, e = .returned (.tuple #[v0_, .bool r2]) ∧ Kd.R (Kd.int .i64) 3 w' w.heap.size (fun _ => True) v0_ r1 ∧ Below w.heap.size w w' := by
 have hu25 := Try.underlying25
 have HR0_1 := Aside0.mk hr0_1
 have HC0_1 := Aside0.mk hc0_1
 clear hr0_1 hc0_1
 have HR1 := Aside0.mk hr1
 have HC1 := Aside0.mk hc1
 clear hr1 hc1
 have HB := Aside0.mk (Below.refl w.heap.size w)
 have H : ((impl_ReducedOf.f k a0_0 l0_1 l1 0).bind fun bt654 => (some (bt654.1, bt654.2))) = some (r1, r2) := h
 clear h
 replace H := Option.bind_eq_some_iff.mp H
 obtain ⟨⟨t654, t657⟩, A30, H⟩ := H
 replace H : (some (t654, t657)) = some (r1, r2) := H
 have A3 := Aside0.mk A30
 clear A30
 simp only [Option.some.injEq, Prod.mk.injEq] at H
 obtain ⟨rfl, rfl⟩ := H
 go_enter Try.func46, Try.ntmps46
 go_wp2_with (first | ((with_reducible refine gate_dst (N := 2) rfl ?_); refine box_event ?hg (N := 2) ?hd (cs := #[.int .i64 a0_0, .slice A0_1 l0_1.length c0_1]) (t := 25) ?hr ?_; (case hd => rfl); (case hg => rfl); (case hr => first | (go_simp; done) | (go_simp; rfl)); intro gb653 hg w4 hbox hb; have BK653 := Aside0.mk (hbox); have GW653 := Aside0.mk ((by rw [hg]; exact (below_size (Lz HB)) : w.heap.size ≤ gb653)); have GE653 := Aside0.mk ((by rw [hg]; exact (below_size (Lz HB)) : w.heap.size ≤ gb653)); replace HB := Aside0.mk (below_step (Lz HB) hb); clear hb hbox hg; have hcz5_0 : w4.cell? ⟨gb653, 0, none⟩ = some (.int .i64 a0_0) := (blk_cell BK653.out 0).trans rfl; have hcz5_1 : w4.cell? ⟨gb653, 1, none⟩ = some (.slice A0_1 l0_1.length c0_1) := (blk_cell BK653.out 1).trans rfl; have hfz5_0 := blk_frozen BK653.out 0; have hfz5_1 := blk_frozen BK653.out 1) | ((with_reducible refine gate_callee (f := 42) rfl ?_); refine goesM_ (some 8) rfl rfl Try.func42 (by kernel_rfl) rfl #[.agg #[.int .i64 a0_0, .slice A0_1 l0_1.length c0_1], .slice A1 l1.length c1, .int .i64 0] rfl ?_; (with_reducible refine (impl_ReducedOf.calls k a0_0 _ _ l0_1 _ _ l1 0 t654 t657 _ ?side1 ?side2 ?side3 ?side4 A3.out).mono ?_); (case side1 => exact Cz ((Kd.C_below HR0_1.out HB.out))); (case side2 => exact HC0_1.out); (case side3 => exact Cz ((Kd.C_below HR1.out HB.out))); (case side4 => exact HC1.out); rintro e w6 ⟨v655, rfl, ho0, hb⟩; refine ⟨_, rfl, ?_⟩; have HO656 := Aside0.mk (Kd.R_lower ho0 (below_size (by exact Lz1 HB GE653))); replace BK653 := Aside0.mk (blk_below (g := gb653) (o := .cells #[.int .i64 a0_0, .slice A0_1 l0_1.length c0_1] 25 (0, 0)) (Bz BK653) hb); replace HB := Aside0.mk (below_step (by exact Lz1 HB GE653) hb); (try clear hb); (try clear ho0)))
 go_ret2
 exact ⟨_, by first | rfl | (simp [errW_none, errW_some] <;> rfl) | (simp [*, errW_none, errW_some] <;> rfl), by exact Rz HO656, by exact Lz1 HB GE653⟩
end Go.Proofs.Ytnebapnfkolflaa.P
end
section
namespace Go.Proofs.Ytnebapnfkolflaa.P
open Go.RowKit Go.Proofs.YtnebapnfkolflaaW.PrintWords Go.Proofs.YtnebapnfkolflaaW.PrintLast Go.Proofs.YtnebapnfkolflaaW.PrintMore
attribute [local go_sem] max2_int min2_int max_two min_two max_three min_three max_four min_four
set_option linter.unusedVariables false
set_option linter.unusedSimpArgs false
mutual
def laws_FnExactRepresentativeOf.j0 : Nat → List Int → Int → List (S95) → Option (Bool)
 | 0, _, _, _ => none
 | k + 1, x1, x659000, x659001 => (laws_szGraph.f x659000 x659001 1048576).bind fun t659 => (if t659 < 0 then (some true) else (laws_FnExactRepresentativeOf.j1 k x1 x659000 x659001))
def laws_FnExactRepresentativeOf.j1 : Nat → List Int → Int → List (S95) → Option (Bool)
 | 0, _, _, _ => none
 | k + 1, x1, x659000, x659001 => (laws_toGraph.f k x659000 x659001).bind fun bt660 => ((laws_toIntS.f k x1).bind fun t664 => ((spec_RepresentativeOf.f k bt660.1 bt660.2 t664).bind fun bt667 => ((laws_toGraph.f k x659000 x659001).bind fun bt671 => ((laws_toIntS.f k x1).bind fun t676 => ((impl_RepresentativeOf.f k bt671.1 bt671.2 t676).bind fun bt679 => ((laws_eqIntS.f k bt679.1 bt667.1).bind fun t683 => (if t683 = true then (laws_FnExactRepresentativeOf.j2 k x1 bt667.1 bt667.2 t676 bt679.1 bt679.2 (bt679.2 != bt667.2) x659000 x659001 bt671.1 bt671.2) else (laws_FnExactRepresentativeOf.j2 k x1 bt667.1 bt667.2 t676 bt679.1 bt679.2 true x659000 x659001 bt671.1 bt671.2))))))))
def laws_FnExactRepresentativeOf.j2 : Nat → List Int → List Int → Bool → List Int → List Int → Bool → Bool → Int → List (S95) → Int → List (S70) → Option (Bool)
 | 0, _, _, _, _, _, _, _, _, _, _, _ => none
 | k + 1, x1, x6, x7, x9, x10, x11, x51, x659000, x659001, x676000, x676001 => if x51 = true then (some false) else (laws_FnExactRepresentativeOf.j3 k x1 x6 x7 x9 x10 x11 x659000 x659001 x676000 x676001)
def laws_FnExactRepresentativeOf.j3 : Nat → List Int → List Int → Bool → List Int → List Int → Bool → Int → List (S95) → Int → List (S70) → Option (Bool)
 | 0, _, _, _, _, _, _, _, _, _, _ => none
 | k + 1, x1, x6, x7, x9, x10, x11, x659000, x659001, x676000, x676001 => (laws_toGraph.f k x659000 x659001).bind fun bt684 => ((laws_eqGraph.f k x676000 x676001 bt684.1 bt684.2).bind fun t688 => (if t688 = true then (laws_FnExactRepresentativeOf.j4 k x1 x6 x7 x9 x10 x11 x659000 x659001 x676000 x676001) else (some false)))
def laws_FnExactRepresentativeOf.j4 : Nat → List Int → List Int → Bool → List Int → List Int → Bool → Int → List (S95) → Int → List (S70) → Option (Bool)
 | 0, _, _, _, _, _, _, _, _, _, _ => none
 | k + 1, x1, x6, x7, x9, x10, x11, x659000, x659001, x676000, x676001 => (laws_toIntS.f k x1).bind fun t689 => ((laws_eqIntS.f k x9 t689).bind fun t692 => (if t692 = true then (laws_FnExactRepresentativeOf.j5 k x1 x6 x7 x9 x10 x11 x659000 x659001 x676000 x676001) else (some false)))
def laws_FnExactRepresentativeOf.j5 : Nat → List Int → List Int → Bool → List Int → List Int → Bool → Int → List (S95) → Int → List (S70) → Option (Bool)
 | 0, _, _, _, _, _, _, _, _, _, _ => none
 | k + 1, x1, x6, x7, x9, x10, x11, x659000, x659001, x676000, x676001 => (laws_markGraph.f k x676000 x676001 1).bind fun bt693 => ((laws_markIntS.f k x9 bt693.1).bind fun bt695 => (if bt695.1 < 0 then (laws_FnExactRepresentativeOf.j6 k x1 x6 x7 x10 true x659000 x659001) else ((laws_eqIntS.f k x10 x6).bind fun t697 => (if t697 = true then (laws_FnExactRepresentativeOf.j6 k x1 x6 x7 x10 (x11 != x7) x659000 x659001) else (laws_FnExactRepresentativeOf.j6 k x1 x6 x7 x10 true x659000 x659001)))))
def laws_FnExactRepresentativeOf.j6 : Nat → List Int → List Int → Bool → List Int → Bool → Int → List (S95) → Option (Bool)
 | 0, _, _, _, _, _, _, _ => none
 | k + 1, x1, x6, x7, x10, x80, x659000, x659001 => if x80 = true then (some false) else (laws_FnExactRepresentativeOf.j7 k x1 x6 x7 x10 x659000 x659001)
def laws_FnExactRepresentativeOf.j7 : Nat → List Int → List Int → Bool → List Int → Int → List (S95) → Option (Bool)
 | 0, _, _, _, _, _, _ => none
 | k + 1, x1, x6, x7, x10, x659000, x659001 => (laws_markIntS.f k x10 1).bind fun bt698 => ((laws_heldIntS.f k bt698.2 1).bind fun t700 => (if t700 < 0 then (some false) else (laws_FnExactRepresentativeOf.j8 k x1 x6 x7 bt698.2 bt698.1 t700 x659000 x659001)))
def laws_FnExactRepresentativeOf.j8 : Nat → List Int → List Int → Bool → List Int → Int → Int → Int → List (S95) → Option (Bool)
 | 0, _, _, _, _, _, _, _, _ => none
 | k + 1, x1, x6, x7, x10, x13, x14, x659000, x659001 => if x14 = x13 then (laws_FnExactRepresentativeOf.j9 k x1 x6 x7 x10 x13 x659000 x659001) else (some false)
def laws_FnExactRepresentativeOf.j9 : Nat → List Int → List Int → Bool → List Int → Int → Int → List (S95) → Option (Bool)
 | 0, _, _, _, _, _, _, _ => none
 | k + 1, x1, x6, x7, x10, x13, x659000, x659001 => (laws_toGraph.f k x659000 x659001).bind fun bt701 => ((laws_toIntS.f k x1).bind fun t705 => ((impl_RepresentativeOf.f k bt701.1 bt701.2 t705).bind fun bt708 => ((laws_eqIntS.f k bt708.1 x6).bind fun t712 => (if t712 = true then (laws_FnExactRepresentativeOf.j10 k x10 x13 (bt708.2 != x7)) else (laws_FnExactRepresentativeOf.j10 k x10 x13 true)))))
def laws_FnExactRepresentativeOf.j10 : Nat → List Int → Int → Bool → Option (Bool)
 | 0, _, _, _ => none
 | k + 1, x10, x13, x108 => if x108 = true then (some false) else (laws_FnExactRepresentativeOf.j11 k x10 x13)
def laws_FnExactRepresentativeOf.j11 : Nat → List Int → Int → Option (Bool)
 | 0, _, _ => none
 | k + 1, x10, x13 => (laws_heldIntS.f k x10 1).bind fun t713 => (if t713 < 0 then (some false) else (laws_FnExactRepresentativeOf.j12 k x13 t713))
def laws_FnExactRepresentativeOf.j12 : Nat → Int → Int → Option (Bool)
 | 0, _, _ => none
 | k + 1, x13, x14 => if x14 = x13 then (some true) else (some false)
end
def laws_FnExactRepresentativeOf.f (k : Nat) (a0_0 : Int) (l0_1 : List (S95)) (l1 : List Int) : Option (Bool) := if (l1.length : Int) > 1048576 then (some true) else (laws_FnExactRepresentativeOf.j0 k l1 a0_0 l0_1)
set_option maxHeartbeats 8000000 in
set_option maxRecDepth 100000 in
theorem laws_FnExactRepresentativeOf.calls (k : Nat) (a0_0 : Int) (A0_1 : Option Addr) (c0_1 : Nat) (l0_1 : List (S95)) (A1 : Option Addr) (c1 : Nat) (l1 : List Int) (r : Bool) (w : World) (hr0_1 : Kd.C k95 w A0_1 l0_1.length l0_1) (hc0_1 : l0_1.length ≤ c0_1) (hr1 : Kd.C (Kd.int .i64) w A1 l1.length l1) (hc1 : l1.length ≤ c1) (h : laws_FnExactRepresentativeOf.f k a0_0 l0_1 l1 = some r) :
  Calls Try.prog 12 #[.agg #[.int .i64 a0_0, .slice A0_1 l0_1.length c0_1], .slice A1 l1.length c1] w fun e w' => e = .returned (.bool r) ∧ Below w.heap.size w w' := by
 have hu37 := Try.underlying37
 have hu25 := Try.underlying25
 have HR0_1 := Aside0.mk hr0_1
 have HC0_1 := Aside0.mk hc0_1
 clear hr0_1 hc0_1
 have HR1 := Aside0.mk hr1
 have HC1 := Aside0.mk hc1
 clear hr1 hc1
 have HB := Aside0.mk (Below.refl w.heap.size w)
 have H : (if (l1.length : Int) > 1048576 then (some true) else (laws_FnExactRepresentativeOf.j0 k l1 a0_0 l0_1)) = some r := h
 clear h
 have HC3 := Aside0.mk H
 clear H
 go_enter Try.func12, Try.ntmps12
 go_upto_if 19 with (first | ((with_reducible refine gate_dst (N := 2) rfl ?_); refine box_event ?hg (N := 2) ?hd (cs := #[.int .i64 a0_0, .slice A0_1 l0_1.length c0_1]) (t := 37) ?hr ?_; (case hd => rfl); (case hg => rfl); (case hr => first | (go_simp; done) | (go_simp; rfl)); intro gb658 hg w4 hbox hb; have BK658 := Aside0.mk (hbox); have GW658 := Aside0.mk ((by rw [hg]; exact (below_size (Lz HB)) : w.heap.size ≤ gb658)); have GE658 := Aside0.mk ((by rw [hg]; exact (below_size (Lz HB)) : w.heap.size ≤ gb658)); replace HB := Aside0.mk (below_step (Lz HB) hb); clear hb hbox hg))
 (try simp only [Act.put, List.setIfInBounds_toArray, List.set_cons_zero, List.set_cons_succ])
 go_cut [] (fun wc => ∃ (kq : Nat), Aside0 (laws_FnExactRepresentativeOf.j0 kq l1 a0_0 l0_1 = some r) ∧ Aside0 (kq ≤ k) ∧ Aside0 (wc.heap[gb658]? = some (.cells #[.int .i64 a0_0, (.slice A0_1 l0_1.length c0_1)] 37 (0, 0))) ∧ Aside0 (Below w.heap.size w wc))
 case first =>
  have H := HC3.out
  clear HC3
  by_cases c5 : (l1.length : Int) > 1048576
  ·rw [if_pos c5] at H
   have c5b0 : decide (1048576 < (l1.length : Int)) = true := decide_eq_true c5
   (try simp only [hl676001_57, hl10_73] at c5b0)
   have c5b1 : decide (1048576 < l1.length) = true := decide_eq_true (by omega)
   (try simp only [hl676001_57, hl10_73] at c5b1)
   clear c5
   (first | rw [c5b0] | (simp only [i64_w, i32_w]; rw [c5b0]) | skip)
   obtain rfl := Option.some.inj H
   go_wp2
   go_ret
   exact ⟨by first | rfl | (simp [errW_none, errW_some] <;> rfl) | (simp [*, errW_none, errW_some] <;> rfl), by exact Lz1 HB GE658⟩
  rw [if_neg c5] at H
  have c5b0 : decide (1048576 < (l1.length : Int)) = false := decide_eq_false c5
  (try simp only [hl676001_57, hl10_73] at c5b0)
  have c5b1 : decide (1048576 < l1.length) = false := decide_eq_false (by omega)
  (try simp only [hl676001_57, hl10_73] at c5b1)
  clear c5
  (first | rw [c5b0] | (simp only [i64_w, i32_w]; rw [c5b0]) | skip)
  have H' := Aside0.mk H
  clear H
  go_wp2
  go_meet
  case rel => exact ⟨_, H', ⟨by first | omega | exact Nat.le_refl _⟩, ⟨by exact Bz BK658⟩, ⟨by exact Lz1 HB GE658⟩⟩
 case rest =>
  clear HC3
  try clear c1
  try clear c5
  try clear c5b0
  try clear c5b1
  obtain ⟨kq, HA, HJ2, BK658, HB⟩ := hcut
  cases kq with
  | zero => exact absurd HA.out (by simp [laws_FnExactRepresentativeOf.j0])
  | succ kj2 =>
   have H := HA.out
   clear HA
   simp only [laws_FnExactRepresentativeOf.j0] at H
   replace H := Option.bind_eq_some_iff.mp H
   obtain ⟨t659, A60, H⟩ := H
   replace H : (if t659 < 0 then (some true) else (laws_FnExactRepresentativeOf.j1 kj2 l1 a0_0 l0_1)) = some r := H
   have A6 := Aside0.mk A60
   clear A60
   have HC7 := Aside0.mk H
   clear H
   have hcz8_0 : wc.cell? ⟨gb658, 0, none⟩ = some (.int .i64 a0_0) := (blk_cell BK658.out 0).trans rfl
   have hcz8_1 : wc.cell? ⟨gb658, 1, none⟩ = some (.slice A0_1 l0_1.length c0_1) := (blk_cell BK658.out 1).trans rfl
   have hfz8_0 := blk_frozen BK658.out 0
   have hfz8_1 := blk_frozen BK658.out 1
   go_upto_if 24 with (first | ((with_reducible refine gate_callee (f := 23) rfl ?_); refine goesM_ (some 22) rfl rfl Try.func23 (by kernel_rfl) rfl #[.agg #[.int .i64 a0_0, .slice A0_1 l0_1.length c0_1], .int .i64 1048576] rfl ?_; (with_reducible refine (laws_szGraph.calls a0_0 _ _ l0_1 1048576 t659 _ ?side1 ?side2 A6.out).mono ?_); (case side1 => exact Cz ((Kd.C_below HR0_1.out HB.out))); (case side2 => exact HC0_1.out); rintro e w9 ⟨rfl, hb⟩; refine ⟨_, rfl, ?_⟩; replace BK658 := Aside0.mk (blk_below (g := gb658) (o := .cells #[.int .i64 a0_0, .slice A0_1 l0_1.length c0_1] 37 (0, 0)) (Bz BK658) hb); replace HB := Aside0.mk (below_step (by exact Lz1 HB GE658) hb); (try clear hb); (try clear hb2); (try clear hk); (try clear hi)))
   (try simp only [Act.put, List.setIfInBounds_toArray, List.set_cons_zero, List.set_cons_succ])
   go_cut [] (fun wc => ∃ (kq : Nat), Aside0 (laws_FnExactRepresentativeOf.j1 kq l1 a0_0 l0_1 = some r) ∧ Aside0 (kq ≤ kj2) ∧ Aside0 (wc.heap[gb658]? = some (.cells #[.int .i64 a0_0, (.slice A0_1 l0_1.length c0_1)] 37 (0, 0))) ∧ Aside0 (Below w.heap.size w wc))
   case first =>
    have H := HC7.out
    clear HC7
    by_cases c10 : t659 < 0
    ·rw [if_pos c10] at H
     have c10b0 : decide (t659 < 0) = true := decide_eq_true c10
     clear c10
     (first | rw [c10b0] | (simp only [i64_w, i32_w]; rw [c10b0]) | skip)
     obtain rfl := Option.some.inj H
     go_wp2
     go_ret
     exact ⟨by first | rfl | (simp [errW_none, errW_some] <;> rfl) | (simp [*, errW_none, errW_some] <;> rfl), by exact Lz1 HB GE658⟩
    rw [if_neg c10] at H
    have c10b0 : decide (t659 < 0) = false := decide_eq_false c10
    clear c10
    (first | rw [c10b0] | (simp only [i64_w, i32_w]; rw [c10b0]) | skip)
    have H' := Aside0.mk H
    clear H
    go_wp2
    go_meet
    case rel => exact ⟨_, H', ⟨by have := HJ2.out; first | omega | exact Nat.le_refl _⟩, ⟨by exact Bz BK658⟩, ⟨by exact Lz1 HB GE658⟩⟩
   case rest =>
    clear HC7
    try clear c1
    try clear c5
    try clear c5b0
    try clear c5b1
    try clear c10
    try clear c10b0
    obtain ⟨kq, HA, HJ6, BK658, HB⟩ := hcut
    cases kq with
    | zero => exact absurd HA.out (by simp [laws_FnExactRepresentativeOf.j1])
    | succ kj6 =>
     have H := HA.out
     clear HA
     simp only [laws_FnExactRepresentativeOf.j1] at H
     replace H := Option.bind_eq_some_iff.mp H
     obtain ⟨⟨t660, t661⟩, A110, H⟩ := H
     replace H : ((laws_toIntS.f kj6 l1).bind fun t664 => ((spec_RepresentativeOf.f kj6 t660 t661 t664).bind fun bt667 => ((laws_toGraph.f kj6 a0_0 l0_1).bind fun bt671 => ((laws_toIntS.f kj6 l1).bind fun t676 => ((impl_RepresentativeOf.f kj6 bt671.1 bt671.2 t676).bind fun bt679 => ((laws_eqIntS.f kj6 bt679.1 bt667.1).bind fun t683 => (if t683 = true then (laws_FnExactRepresentativeOf.j2 kj6 l1 bt667.1 bt667.2 t676 bt679.1 bt679.2 (bt679.2 != bt667.2) a0_0 l0_1 bt671.1 bt671.2) else (laws_FnExactRepresentativeOf.j2 kj6 l1 bt667.1 bt667.2 t676 bt679.1 bt679.2 true a0_0 l0_1 bt671.1 bt671.2)))))))) = some r := H
     have A11 := Aside0.mk A110
     clear A110
     replace H := Option.bind_eq_some_iff.mp H
     obtain ⟨t664, A120, H⟩ := H
     replace H : ((spec_RepresentativeOf.f kj6 t660 t661 t664).bind fun bt667 => ((laws_toGraph.f kj6 a0_0 l0_1).bind fun bt671 => ((laws_toIntS.f kj6 l1).bind fun t676 => ((impl_RepresentativeOf.f kj6 bt671.1 bt671.2 t676).bind fun bt679 => ((laws_eqIntS.f kj6 bt679.1 bt667.1).bind fun t683 => (if t683 = true then (laws_FnExactRepresentativeOf.j2 kj6 l1 bt667.1 bt667.2 t676 bt679.1 bt679.2 (bt679.2 != bt667.2) a0_0 l0_1 bt671.1 bt671.2) else (laws_FnExactRepresentativeOf.j2 kj6 l1 bt667.1 bt667.2 t676 bt679.1 bt679.2 true a0_0 l0_1 bt671.1 bt671.2))))))) = some r := H
     have A12 := Aside0.mk A120
     clear A120
     replace H := Option.bind_eq_some_iff.mp H
     obtain ⟨⟨t667, t670⟩, A130, H⟩ := H
     replace H : ((laws_toGraph.f kj6 a0_0 l0_1).bind fun bt671 => ((laws_toIntS.f kj6 l1).bind fun t676 => ((impl_RepresentativeOf.f kj6 bt671.1 bt671.2 t676).bind fun bt679 => ((laws_eqIntS.f kj6 bt679.1 t667).bind fun t683 => (if t683 = true then (laws_FnExactRepresentativeOf.j2 kj6 l1 t667 t670 t676 bt679.1 bt679.2 (bt679.2 != t670) a0_0 l0_1 bt671.1 bt671.2) else (laws_FnExactRepresentativeOf.j2 kj6 l1 t667 t670 t676 bt679.1 bt679.2 true a0_0 l0_1 bt671.1 bt671.2)))))) = some r := H
     have A13 := Aside0.mk A130
     clear A130
     replace H := Option.bind_eq_some_iff.mp H
     obtain ⟨⟨t671, t672⟩, A140, H⟩ := H
     replace H : ((laws_toIntS.f kj6 l1).bind fun t676 => ((impl_RepresentativeOf.f kj6 t671 t672 t676).bind fun bt679 => ((laws_eqIntS.f kj6 bt679.1 t667).bind fun t683 => (if t683 = true then (laws_FnExactRepresentativeOf.j2 kj6 l1 t667 t670 t676 bt679.1 bt679.2 (bt679.2 != t670) a0_0 l0_1 t671 t672) else (laws_FnExactRepresentativeOf.j2 kj6 l1 t667 t670 t676 bt679.1 bt679.2 true a0_0 l0_1 t671 t672))))) = some r := H
     have A14 := Aside0.mk A140
     clear A140
     replace H := Option.bind_eq_some_iff.mp H
     obtain ⟨t676, A150, H⟩ := H
     replace H : ((impl_RepresentativeOf.f kj6 t671 t672 t676).bind fun bt679 => ((laws_eqIntS.f kj6 bt679.1 t667).bind fun t683 => (if t683 = true then (laws_FnExactRepresentativeOf.j2 kj6 l1 t667 t670 t676 bt679.1 bt679.2 (bt679.2 != t670) a0_0 l0_1 t671 t672) else (laws_FnExactRepresentativeOf.j2 kj6 l1 t667 t670 t676 bt679.1 bt679.2 true a0_0 l0_1 t671 t672)))) = some r := H
     have A15 := Aside0.mk A150
     clear A150
     replace H := Option.bind_eq_some_iff.mp H
     obtain ⟨⟨t679, t682⟩, A160, H⟩ := H
     replace H : ((laws_eqIntS.f kj6 t679 t667).bind fun t683 => (if t683 = true then (laws_FnExactRepresentativeOf.j2 kj6 l1 t667 t670 t676 t679 t682 (t682 != t670) a0_0 l0_1 t671 t672) else (laws_FnExactRepresentativeOf.j2 kj6 l1 t667 t670 t676 t679 t682 true a0_0 l0_1 t671 t672))) = some r := H
     have A16 := Aside0.mk A160
     clear A160
     have HC17 := Aside0.mk H
     clear H
     have hcz18_0 : wc.cell? ⟨gb658, 0, none⟩ = some (.int .i64 a0_0) := (blk_cell BK658.out 0).trans rfl
     have hcz18_1 : wc.cell? ⟨gb658, 1, none⟩ = some (.slice A0_1 l0_1.length c0_1) := (blk_cell BK658.out 1).trans rfl
     have hfz18_0 := blk_frozen BK658.out 0
     have hfz18_1 := blk_frozen BK658.out 1
     go_upto_region 11 with (first | ((with_reducible refine gate_callee (f := 25) rfl ?_); refine goesM_ (some 27) rfl rfl Try.func25 (by kernel_rfl) rfl #[.agg #[.int .i64 a0_0, .slice A0_1 l0_1.length c0_1]] rfl ?_; (with_reducible refine (laws_toGraph.calls kj6 a0_0 _ _ l0_1 t660 t661 _ ?side1 ?side2 A11.out).mono ?_); (case side1 => exact Cz ((Kd.C_below HR0_1.out HB.out))); (case side2 => exact HC0_1.out); rintro e w19 ⟨v662, rfl, ho0, hb⟩; refine ⟨_, rfl, ?_⟩; have HO663 := Aside0.mk (Kd.R_lower ho0 (below_size (by exact Lz1 HB GE658))); replace BK658 := Aside0.mk (blk_below (g := gb658) (o := .cells #[.int .i64 a0_0, .slice A0_1 l0_1.length c0_1] 37 (0, 0)) (Bz BK658) hb); replace HB := Aside0.mk (below_step (by exact Lz1 HB GE658) hb); (try clear hb); (try clear ho0)) | ((with_reducible refine gate_callee (f := 26) rfl ?_); refine goesM_ (some 29) rfl rfl Try.func26 (by kernel_rfl) rfl #[.slice A1 l1.length c1] rfl ?_; (with_reducible refine (laws_toIntS.calls kj6 _ _ l1 t664 _ ?side1 ?side2 A12.out).mono ?_); (case side1 => exact Cz ((Kd.C_below HR1.out HB.out))); (case side2 => exact HC1.out); rintro e w20 ⟨v665, rfl, ho0, hb⟩; refine ⟨_, rfl, ?_⟩; replace HO663 := Aside0.mk (Kd.R_below (Rz HO663) hb); have HO666 := Aside0.mk (Kd.R_lower ho0 (below_size (by exact Lz1 HB GE658))); replace BK658 := Aside0.mk (blk_below (g := gb658) (o := .cells #[.int .i64 a0_0, .slice A0_1 l0_1.length c0_1] 37 (0, 0)) (Bz BK658) hb); replace HB := Aside0.mk (below_step (by exact Lz1 HB GE658) hb); (try clear hb); (try clear ho0); obtain ⟨Ao21, co21, eo21⟩ := Kd.R_slice HO663.out; subst eo21; obtain ⟨Ao22, co22, eo22⟩ := Kd.R_slice HO666.out; subst eo22) | ((with_reducible refine gate_callee (f := 45) rfl ?_); refine goesM_ (some 30) rfl rfl Try.func45 (by kernel_rfl) rfl #[.agg #[.int .i64 t660, .slice Ao21 t661.length co21], .slice Ao22 t664.length co22] rfl ?_; (with_reducible refine (spec_RepresentativeOf.calls kj6 t660 _ _ t661 _ _ t664 t667 t670 _ ?side1 ?side2 ?side3 ?side4 A13.out).mono ?_); (case side1 => exact Cz ((Kd.R_reads' HO663.out).2.2)); (case side2 => exact (Kd.R_reads' HO663.out).2.1); (case side3 => exact Cz ((Kd.R_reads' HO666.out).2.2)); (case side4 => exact (Kd.R_reads' HO666.out).2.1); rintro e w23 ⟨v668, rfl, ho0, hb⟩; refine ⟨_, rfl, ?_⟩; replace HO663 := Aside0.mk (Kd.R_below (Rz HO663) hb); have HO669 := Aside0.mk (Kd.R_lower (Kd.R_new' ho0 (Kd.R_lt (Rz HO666))) (below_size (by exact Lz1 HB GE658))); replace HO666 := Aside0.mk (Kd.R_elder' (Rz HO666) (Kd.R_base ho0) hb); replace BK658 := Aside0.mk (blk_below (g := gb658) (o := .cells #[.int .i64 a0_0, .slice A0_1 l0_1.length c0_1] 37 (0, 0)) (Bz BK658) hb); replace HB := Aside0.mk (below_step (by exact Lz1 HB GE658) hb); (try clear hb); (try clear ho0); have hcz24_0 : w23.cell? ⟨gb658, 0, none⟩ = some (.int .i64 a0_0) := (blk_cell BK658.out 0).trans rfl; have hcz24_1 : w23.cell? ⟨gb658, 1, none⟩ = some (.slice A0_1 l0_1.length c0_1) := (blk_cell BK658.out 1).trans rfl; have hfz24_0 := blk_frozen BK658.out 0; have hfz24_1 := blk_frozen BK658.out 1) | ((with_reducible refine gate_callee (f := 25) rfl ?_); refine goesM_ (some 34) rfl rfl Try.func25 (by kernel_rfl) rfl #[.agg #[.int .i64 a0_0, .slice A0_1 l0_1.length c0_1]] rfl ?_; (with_reducible refine (laws_toGraph.calls kj6 a0_0 _ _ l0_1 t671 t672 _ ?side1 ?side2 A14.out).mono ?_); (case side1 => exact Cz ((Kd.C_below HR0_1.out HB.out))); (case side2 => exact HC0_1.out); rintro e w25 ⟨v673, rfl, ho0, hb⟩; refine ⟨_, rfl, ?_⟩; replace HO666 := Aside0.mk (Kd.R_below (Rz HO666) hb); replace HO669 := Aside0.mk (Kd.R_below (Rz HO669) hb); have HO674 := Aside0.mk (Kd.R_lower (Kd.R_new' ho0 (Kd.R_lt (Rz HO663))) (below_size (by exact Lz1 HB GE658))); replace HO663 := Aside0.mk (Kd.R_elder' (Rz HO663) (Kd.R_base ho0) hb); replace BK658 := Aside0.mk (blk_below (g := gb658) (o := .cells #[.int .i64 a0_0, .slice A0_1 l0_1.length c0_1] 37 (0, 0)) (Bz BK658) hb); replace HB := Aside0.mk (below_step (by exact Lz1 HB GE658) hb); (try clear hb); (try clear ho0)) | ((with_reducible refine gate_dst (N := 8) rfl ?_); refine box_event ?hg (N := 8) ?hd (cs := #[.int .i64 0, .slice none 0 0]) (t := 25) ?hr ?_; (case hd => rfl); (case hg => rfl); (case hr => first | (go_simp; done) | (go_simp; rfl)); intro gb675 hg w26 hbox hb; replace HO663 := Aside0.mk (Kd.R_below (Rz HO663) hb); replace HO666 := Aside0.mk (Kd.R_below (Rz HO666) hb); replace HO669 := Aside0.mk (Kd.R_below (Rz HO669) hb); replace HO674 := Aside0.mk (Kd.R_below (Rz HO674) hb); have BK675 := Aside0.mk (hbox); have GW675 := Aside0.mk ((by rw [hg]; exact (below_size (by exact Lz1 HB GE658)) : w.heap.size ≤ gb675)); have GE675 := Aside0.mk ((by rw [hg]; exact (below_size (by exact Lz1 HB GE658)) : w.heap.size ≤ gb675)); replace HB := Aside0.mk (below_step (by exact Lz1 HB GE658) hb); have NB658_675 := Aside0.mk ((by rw [hg]; exact Nat.ne_of_lt (blk_lt (g := gb658) (o := .cells #[.int .i64 a0_0, .slice A0_1 l0_1.length c0_1] 37 (0, 0)) (Bz BK658)) : gb658 ≠ gb675)); have NB675_658 := Aside0.mk ((by rw [hg]; exact Nat.ne_of_gt (blk_lt (g := gb658) (o := .cells #[.int .i64 a0_0, .slice A0_1 l0_1.length c0_1] 37 (0, 0)) (Bz BK658)) : gb675 ≠ gb658)); replace BK658 := Aside0.mk (blk_below (g := gb658) (o := .cells #[.int .i64 a0_0, .slice A0_1 l0_1.length c0_1] 37 (0, 0)) (Bz BK658) hb); clear hb hbox hg; have hnb27 := NB675_658.out; have hnc27 := NB658_675.out; have hcz28_0 : w26.cell? ⟨gb675, 0, none⟩ = some (.int .i64 0) := (blk_cell BK675.out 0).trans rfl; have hcz28_1 : w26.cell? ⟨gb675, 1, none⟩ = some (.slice none 0 0) := (blk_cell BK675.out 1).trans rfl; have hfz28_0 := blk_frozen BK675.out 0; have hfz28_1 := blk_frozen BK675.out 1; obtain ⟨Ao29, co29, eo29⟩ := Kd.R_slice HO674.out; subst eo29) | ((with_reducible refine gate_callee (f := 26) rfl ?_); refine goesM_ (some 36) rfl rfl Try.func26 (by kernel_rfl) rfl #[.slice A1 l1.length c1] rfl ?_; (with_reducible refine (laws_toIntS.calls kj6 _ _ l1 t676 _ ?side1 ?side2 A15.out).mono ?_); (case side1 => exact Kd.C_below HR1.out (by exact Lz2 HB GE658 GE675)); (case side2 => exact HC1.out); rintro e w30 ⟨v677, rfl, ho0, hb⟩; refine ⟨_, rfl, ?_⟩; replace HO663 := Aside0.mk (Kd.R_below (by (with_reducible repeat (first | apply Kd.R_alloc | apply Kd.R_drewN | apply Kd.R_drew)); exact (Kd.R_mono (Kd.R_far (p := ⟨gb675, 1, none⟩) (Kd.R_far (p := ⟨gb675, 0, none⟩) (Kd.R_types HO663.out BK675.out (by decide)) (fun _ hk => hk.2) (.int .i64 t671)) (fun _ hk => hk.2) (.slice Ao29 t672.length co29)) (fun _ h_ => h_.1))) hb); replace HO674 := Aside0.mk (Kd.R_below (by (with_reducible repeat (first | apply Kd.R_alloc | apply Kd.R_drewN | apply Kd.R_drew)); exact (Kd.R_mono (Kd.R_far (p := ⟨gb675, 1, none⟩) (Kd.R_far (p := ⟨gb675, 0, none⟩) (Kd.R_types HO674.out BK675.out (by decide)) (fun _ hk => hk.2) (.int .i64 t671)) (fun _ hk => hk.2) (.slice Ao29 t672.length co29)) (fun _ h_ => h_.1))) hb); have HO678 := Aside0.mk (Kd.R_lower (Kd.R_new' (Kd.R_new' ho0 (Kd.R_lt (by (with_reducible repeat (first | apply Kd.R_alloc | apply Kd.R_drewN | apply Kd.R_drew)); exact (Kd.R_mono (Kd.R_far (p := ⟨gb675, 1, none⟩) (Kd.R_far (p := ⟨gb675, 0, none⟩) (Kd.R_types HO666.out BK675.out (by decide)) (fun _ hk => hk.2) (.int .i64 t671)) (fun _ hk => hk.2) (.slice Ao29 t672.length co29)) (fun _ h_ => h_.1))))) (Kd.R_lt (by (with_reducible repeat (first | apply Kd.R_alloc | apply Kd.R_drewN | apply Kd.R_drew)); exact (Kd.R_mono (Kd.R_far (p := ⟨gb675, 1, none⟩) (Kd.R_far (p := ⟨gb675, 0, none⟩) (Kd.R_types HO669.out BK675.out (by decide)) (fun _ hk => hk.2) (.int .i64 t671)) (fun _ hk => hk.2) (.slice Ao29 t672.length co29)) (fun _ h_ => h_.1))))) (below_size (by exact Lz2 HB GE658 GE675))); replace HO666 := Aside0.mk (Kd.R_elder' (by (with_reducible repeat (first | apply Kd.R_alloc | apply Kd.R_drewN | apply Kd.R_drew)); exact (Kd.R_mono (Kd.R_far (p := ⟨gb675, 1, none⟩) (Kd.R_far (p := ⟨gb675, 0, none⟩) (Kd.R_types HO666.out BK675.out (by decide)) (fun _ hk => hk.2) (.int .i64 t671)) (fun _ hk => hk.2) (.slice Ao29 t672.length co29)) (fun _ h_ => h_.1))) (Kd.R_base ho0) hb); replace HO669 := Aside0.mk (Kd.R_elder' (by (with_reducible repeat (first | apply Kd.R_alloc | apply Kd.R_drewN | apply Kd.R_drew)); exact (Kd.R_mono (Kd.R_far (p := ⟨gb675, 1, none⟩) (Kd.R_far (p := ⟨gb675, 0, none⟩) (Kd.R_types HO669.out BK675.out (by decide)) (fun _ hk => hk.2) (.int .i64 t671)) (fun _ hk => hk.2) (.slice Ao29 t672.length co29)) (fun _ h_ => h_.1))) (Kd.R_base ho0) hb); replace BK658 := Aside0.mk (blk_below (g := gb658) (o := .cells #[.int .i64 a0_0, .slice A0_1 l0_1.length c0_1] 37 (0, 0)) (by (with_reducible repeat (first | refine blk_drewN ?_ _ | refine blk_drew ?_ | refine blk_alloc ?_ _)); refine blk_far ?_ NB658_675.out _; (with_reducible repeat (first | refine blk_drewN ?_ _ | refine blk_drew ?_ | refine blk_alloc ?_ _)); refine blk_far ?_ NB658_675.out _; exact Bz BK658) hb); replace BK675 := Aside0.mk (blk_below (g := gb675) (o := .cells #[.int .i64 t671, .slice Ao29 t672.length co29] 25 (0, 0)) (by (with_reducible repeat (first | refine blk_drewN ?_ _ | refine blk_drew ?_ | refine blk_alloc ?_ _)); refine blk_put (cs := #[.int .i64 t671, .slice none 0 0]) ?_ 1 _ rfl; (with_reducible repeat (first | refine blk_drewN ?_ _ | refine blk_drew ?_ | refine blk_alloc ?_ _)); refine blk_put (cs := #[.int .i64 0, .slice none 0 0]) ?_ 0 _ rfl; exact Bz BK675) hb); replace HB := Aside0.mk (below_step (by exact Lz2 HB GE658 GE675) hb); (try clear hb); (try clear ho0); have hcz31_0 : w30.cell? ⟨gb675, 0, none⟩ = some (.int .i64 t671) := (blk_cell BK675.out 0).trans rfl; have hcz31_1 : w30.cell? ⟨gb675, 1, none⟩ = some (.slice Ao29 t672.length co29) := (blk_cell BK675.out 1).trans rfl; have hfz31_0 := blk_frozen BK675.out 0; have hfz31_1 := blk_frozen BK675.out 1; obtain ⟨Ao32, co32, eo32⟩ := Kd.R_slice HO678.out; subst eo32) | ((with_reducible refine gate_callee (f := 46) rfl ?_); refine goesM_ (some 40) rfl rfl Try.func46 (by kernel_rfl) rfl #[.agg #[.int .i64 t671, .slice Ao29 t672.length co29], .slice Ao32 t676.length co32] rfl ?_; (with_reducible refine (impl_RepresentativeOf.calls kj6 t671 _ _ t672 _ _ t676 t679 t682 _ ?side1 ?side2 ?side3 ?side4 A16.out).mono ?_); (case side1 => exact Cz ((Kd.R_reads' HO674.out).2.2)); (case side2 => exact (Kd.R_reads' HO674.out).2.1); (case side3 => exact Cz ((Kd.R_reads' HO678.out).2.2)); (case side4 => exact (Kd.R_reads' HO678.out).2.1); rintro e w33 ⟨v680, rfl, ho0, hb⟩; refine ⟨_, rfl, ?_⟩; replace HO663 := Aside0.mk (Kd.R_below (Rz HO663) hb); replace HO674 := Aside0.mk (Kd.R_below (Rz HO674) hb); have HO681 := Aside0.mk (Kd.R_lower (Kd.R_new' (Kd.R_new' (Kd.R_new' ho0 (Kd.R_lt (Rz HO666))) (Kd.R_lt (Rz HO669))) (Kd.R_lt (Rz HO678))) (below_size (by exact Lz2 HB GE658 GE675))); replace HO666 := Aside0.mk (Kd.R_elder' (Rz HO666) (Kd.R_base ho0) hb); replace HO669 := Aside0.mk (Kd.R_elder' (Rz HO669) (Kd.R_base ho0) hb); replace HO678 := Aside0.mk (Kd.R_elder' (Rz HO678) (Kd.R_base ho0) hb); replace BK658 := Aside0.mk (blk_below (g := gb658) (o := .cells #[.int .i64 a0_0, .slice A0_1 l0_1.length c0_1] 37 (0, 0)) (Bz BK658) hb); replace BK675 := Aside0.mk (blk_below (g := gb675) (o := .cells #[.int .i64 t671, .slice Ao29 t672.length co29] 25 (0, 0)) (Bz BK675) hb); replace HB := Aside0.mk (below_step (by exact Lz2 HB GE658 GE675) hb); (try clear hb); (try clear ho0)))
     (try simp only [Act.put, List.setIfInBounds_toArray, List.set_cons_zero, List.set_cons_succ])
     go_cut [51] (fun v51 wc => ∃ (kq : Nat) (x51_16 : Bool), v51 = .bool x51_16 ∧ Aside0 (laws_FnExactRepresentativeOf.j2 kq l1 t667 t670 t676 t679 t682 x51_16 a0_0 l0_1 t671 t672 = some r) ∧ Aside0 (kq ≤ kj6) ∧ Aside0 (Kd.R (Kd.int .i64) 3 wc w.heap.size (fun k_ => some k_ ≠ ((.slice Ao32 t676.length co32) : Value).ownBlock ∧ some k_ ≠ (v680 : Value).ownBlock) v668 t667) ∧ Aside0 (Kd.R (Kd.int .i64) 3 wc w.heap.size (fun k_ => some k_ ≠ (v668 : Value).ownBlock ∧ some k_ ≠ (v680 : Value).ownBlock) (.slice Ao32 t676.length co32) t676) ∧ Aside0 (Kd.R (Kd.int .i64) 3 wc w.heap.size (fun k_ => some k_ ≠ (v668 : Value).ownBlock ∧ some k_ ≠ ((.slice Ao32 t676.length co32) : Value).ownBlock) v680 t679) ∧ Aside0 (Kd.R k70 70 wc w.heap.size (fun _ => True) (.slice Ao29 t672.length co29) t672) ∧ Aside0 (wc.heap[gb658]? = some (.cells #[.int .i64 a0_0, (.slice A0_1 l0_1.length c0_1)] 37 (0, 0))) ∧ Aside0 (wc.heap[gb675]? = some (.cells #[.int .i64 t671, (.slice Ao29 t672.length co29)] 25 (0, 0))) ∧ Aside0 (Below w.heap.size w wc))
     case first =>
      have H := HC17.out
      clear HC17
      replace H := Option.bind_eq_some_iff.mp H
      obtain ⟨t683, A340, H⟩ := H
      replace H : (if t683 = true then (laws_FnExactRepresentativeOf.j2 kj6 l1 t667 t670 t676 t679 t682 (t682 != t670) a0_0 l0_1 t671 t672) else (laws_FnExactRepresentativeOf.j2 kj6 l1 t667 t670 t676 t679 t682 true a0_0 l0_1 t671 t672)) = some r := H
      have A34 := Aside0.mk A340
      clear A340
      by_cases c35 : t683 = true
      ·subst c35
       have H1 : (laws_FnExactRepresentativeOf.j2 kj6 l1 t667 t670 t676 t679 t682 (t682 != t670) a0_0 l0_1 t671 t672) = some r := by rw [if_pos rfl] at H; exact H
       clear H
       have H := H1
       clear H1
       have H' := Aside0.mk H
       clear H
       obtain ⟨Ao36, co36, eo36⟩ := Kd.R_slice HO681.out
       subst eo36
       obtain ⟨Ao37, co37, eo37⟩ := Kd.R_slice HO669.out
       subst eo37
       go_wp2_with (first | ((with_reducible refine gate_callee (f := 28) rfl ?_); refine goesM_ (some 45) rfl rfl Try.func28 (by kernel_rfl) rfl #[.slice Ao36 t679.length co36, .slice Ao37 t667.length co37] rfl ?_; (with_reducible refine (laws_eqIntS.calls kj6 _ _ t679 _ _ t667 true _ ?side1 ?side2 ?side3 ?side4 A34.out).mono ?_); (case side1 => exact Cz ((Kd.R_reads' HO681.out).2.2)); (case side2 => exact (Kd.R_reads' HO681.out).2.1); (case side3 => exact Cz ((Kd.R_reads' HO669.out).2.2)); (case side4 => exact (Kd.R_reads' HO669.out).2.1); rintro e w' ⟨rfl, ⟨nd, rfl⟩⟩; refine ⟨_, rfl, ?_⟩))
       go_meet
       case rel => exact ⟨_, ((t682 != t670)), (by first | rfl | (simp; done) | (simp [*]; done)), H', ⟨by have := HJ2.out; have := HJ6.out; first | omega | exact Nat.le_refl _⟩, ⟨by (with_reducible repeat (first | apply Kd.R_alloc | apply Kd.R_drewN | apply Kd.R_drew)); exact Kd.R_mono HO669.out (fun _ hk => ⟨hk.1.2, hk.2⟩)⟩, ⟨by (with_reducible repeat (first | apply Kd.R_alloc | apply Kd.R_drewN | apply Kd.R_drew)); exact Kd.R_mono HO678.out (fun _ hk => ⟨hk.1.2, hk.2⟩)⟩, ⟨by (with_reducible repeat (first | apply Kd.R_alloc | apply Kd.R_drewN | apply Kd.R_drew)); exact Kd.R_mono HO681.out (fun _ hk => ⟨hk.1.2, hk.2⟩)⟩, ⟨by (with_reducible repeat (first | apply Kd.R_alloc | apply Kd.R_drewN | apply Kd.R_drew)); exact Kd.R_mono HO674.out (fun _ hk => trivial)⟩, ⟨by exact Bz BK658⟩, ⟨by exact Bz BK675⟩, ⟨by exact Lz2 HB GE658 GE675⟩⟩
      replace c35 := Bool.eq_false_iff.mpr c35
      subst c35
      have H1 : (laws_FnExactRepresentativeOf.j2 kj6 l1 t667 t670 t676 t679 t682 true a0_0 l0_1 t671 t672) = some r := by rw [if_neg (show ¬ (false = true) by decide)] at H; exact H
      clear H
      have H := H1
      clear H1
      have H' := Aside0.mk H
      clear H
      obtain ⟨Ao38, co38, eo38⟩ := Kd.R_slice HO681.out
      subst eo38
      obtain ⟨Ao39, co39, eo39⟩ := Kd.R_slice HO669.out
      subst eo39
      go_wp2_with (first | ((with_reducible refine gate_callee (f := 28) rfl ?_); refine goesM_ (some 45) rfl rfl Try.func28 (by kernel_rfl) rfl #[.slice Ao38 t679.length co38, .slice Ao39 t667.length co39] rfl ?_; (with_reducible refine (laws_eqIntS.calls kj6 _ _ t679 _ _ t667 false _ ?side1 ?side2 ?side3 ?side4 A34.out).mono ?_); (case side1 => exact Cz ((Kd.R_reads' HO681.out).2.2)); (case side2 => exact (Kd.R_reads' HO681.out).2.1); (case side3 => exact Cz ((Kd.R_reads' HO669.out).2.2)); (case side4 => exact (Kd.R_reads' HO669.out).2.1); rintro e w' ⟨rfl, ⟨nd, rfl⟩⟩; refine ⟨_, rfl, ?_⟩))
      go_meet
      case rel => exact ⟨_, (true), (by first | rfl | (simp; done) | (simp [*]; done)), H', ⟨by have := HJ2.out; have := HJ6.out; first | omega | exact Nat.le_refl _⟩, ⟨by (with_reducible repeat (first | apply Kd.R_alloc | apply Kd.R_drewN | apply Kd.R_drew)); exact Kd.R_mono HO669.out (fun _ hk => ⟨hk.1.2, hk.2⟩)⟩, ⟨by (with_reducible repeat (first | apply Kd.R_alloc | apply Kd.R_drewN | apply Kd.R_drew)); exact Kd.R_mono HO678.out (fun _ hk => ⟨hk.1.2, hk.2⟩)⟩, ⟨by (with_reducible repeat (first | apply Kd.R_alloc | apply Kd.R_drewN | apply Kd.R_drew)); exact Kd.R_mono HO681.out (fun _ hk => ⟨hk.1.2, hk.2⟩)⟩, ⟨by (with_reducible repeat (first | apply Kd.R_alloc | apply Kd.R_drewN | apply Kd.R_drew)); exact Kd.R_mono HO674.out (fun _ hk => trivial)⟩, ⟨by exact Bz BK658⟩, ⟨by exact Bz BK675⟩, ⟨by exact Lz2 HB GE658 GE675⟩⟩
     case rest =>
      clear HC17
      try clear c1
      try clear c5
      try clear c5b0
      try clear c5b1
      try clear c10
      try clear c10b0
      try clear c35
      obtain ⟨kq, x51_16, rfl, HA, HJ16, HO_6, HO_9, HO_10, HO_676001, BK658, BK675, HB⟩ := hcut
      cases kq with
      | zero => exact absurd HA.out (by simp [laws_FnExactRepresentativeOf.j2])
      | succ kj16 =>
       have H := HA.out
       clear HA
       simp only [laws_FnExactRepresentativeOf.j2] at H
       have HC40 := Aside0.mk H
       clear H
       go_upto_if 51 with (fail)
       go_cut [] (fun wc => ∃ (kq : Nat), Aside0 (laws_FnExactRepresentativeOf.j3 kq l1 t667 t670 t676 t679 t682 a0_0 l0_1 t671 t672 = some r) ∧ Aside0 (kq ≤ kj16) ∧ Aside0 (Kd.R (Kd.int .i64) 3 wc w.heap.size (fun k_ => some k_ ≠ ((.slice Ao32 t676.length co32) : Value).ownBlock ∧ some k_ ≠ (v680 : Value).ownBlock) v668 t667) ∧ Aside0 (Kd.R (Kd.int .i64) 3 wc w.heap.size (fun k_ => some k_ ≠ (v668 : Value).ownBlock ∧ some k_ ≠ (v680 : Value).ownBlock) (.slice Ao32 t676.length co32) t676) ∧ Aside0 (Kd.R (Kd.int .i64) 3 wc w.heap.size (fun k_ => some k_ ≠ (v668 : Value).ownBlock ∧ some k_ ≠ ((.slice Ao32 t676.length co32) : Value).ownBlock) v680 t679) ∧ Aside0 (Kd.R k70 70 wc w.heap.size (fun _ => True) (.slice Ao29 t672.length co29) t672) ∧ Aside0 (wc.heap[gb658]? = some (.cells #[.int .i64 a0_0, (.slice A0_1 l0_1.length c0_1)] 37 (0, 0))) ∧ Aside0 (wc.heap[gb675]? = some (.cells #[.int .i64 t671, (.slice Ao29 t672.length co29)] 25 (0, 0))) ∧ Aside0 (Below w.heap.size w wc))
       case first =>
        have H := HC40.out
        clear HC40
        by_cases c41 : x51_16 = true
        ·subst c41
         have H1 : (some false) = some r := by rw [if_pos rfl] at H; exact H
         clear H
         have H := H1
         clear H1
         obtain rfl := Option.some.inj H
         go_wp2
         go_ret
         exact ⟨by first | rfl | (simp [errW_none, errW_some] <;> rfl) | (simp [*, errW_none, errW_some] <;> rfl), by exact Lz2 HB GE658 GE675⟩
        replace c41 := Bool.eq_false_iff.mpr c41
        subst c41
        have H1 : (laws_FnExactRepresentativeOf.j3 kj16 l1 t667 t670 t676 t679 t682 a0_0 l0_1 t671 t672) = some r := by rw [if_neg (show ¬ (false = true) by decide)] at H; exact H
        clear H
        have H := H1
        clear H1
        have H' := Aside0.mk H
        clear H
        go_wp2
        go_meet
        case rel => exact ⟨_, H', ⟨by have := HJ2.out; have := HJ6.out; have := HJ16.out; first | omega | exact Nat.le_refl _⟩, ⟨by exact Rz HO_6⟩, ⟨by exact Rz HO_9⟩, ⟨by exact Rz HO_10⟩, ⟨by exact Rz HO_676001⟩, ⟨by exact Bz BK658⟩, ⟨by exact Bz BK675⟩, ⟨by exact Lz2 HB GE658 GE675⟩⟩
       case rest =>
        clear HC40
        try clear c1
        try clear c5
        try clear c5b0
        try clear c5b1
        try clear c10
        try clear c10b0
        try clear c35
        try clear c41
        obtain ⟨kq, HA, HJ39, HO_6, HO_9, HO_10, HO_676001, BK658, BK675, HB⟩ := hcut
        cases kq with
        | zero => exact absurd HA.out (by simp [laws_FnExactRepresentativeOf.j3])
        | succ kj39 =>
         have H := HA.out
         clear HA
         simp only [laws_FnExactRepresentativeOf.j3] at H
         replace H := Option.bind_eq_some_iff.mp H
         obtain ⟨⟨t684, t685⟩, A420, H⟩ := H
         replace H : ((laws_eqGraph.f kj39 t671 t672 t684 t685).bind fun t688 => (if t688 = true then (laws_FnExactRepresentativeOf.j4 kj39 l1 t667 t670 t676 t679 t682 a0_0 l0_1 t671 t672) else (some false))) = some r := H
         have A42 := Aside0.mk A420
         clear A420
         replace H := Option.bind_eq_some_iff.mp H
         obtain ⟨t688, A430, H⟩ := H
         replace H : (if t688 = true then (laws_FnExactRepresentativeOf.j4 kj39 l1 t667 t670 t676 t679 t682 a0_0 l0_1 t671 t672) else (some false)) = some r := H
         have A43 := Aside0.mk A430
         clear A430
         have HC44 := Aside0.mk H
         clear H
         try go_wp2
         replace HO_6 := Aside0.mk (Kd.R_drew HO_6.out)
         replace HO_9 := Aside0.mk (Kd.R_drew HO_9.out)
         replace HO_10 := Aside0.mk (Kd.R_drew HO_10.out)
         replace HO_676001 := Aside0.mk (Kd.R_drew HO_676001.out)
         replace BK658 := Aside0.mk (blk_drew BK658.out)
         replace BK675 := Aside0.mk (blk_drew BK675.out)
         replace HB := Aside0.mk (below_drew1 HB.out)
         refine start_ (n := 5) (S := fun w' => w'.cell? ⟨gb675, 0, none⟩ = some (.int .i64 t671) ∧ w'.cell? ⟨gb675, 1, none⟩ = some (.slice Ao29 t672.length co29) ∧ w'.cell? ⟨gb658, 0, none⟩ = some (.int .i64 a0_0) ∧ w'.cell? ⟨gb658, 1, none⟩ = some (.slice A0_1 l0_1.length c0_1)) (ds := []) #[false, false, false, false, false] (by kernel_rfl) rfl rfl ⟨(blk_cell BK675.out 0).trans rfl, (blk_cell BK675.out 1).trans rfl, (blk_cell BK658.out 0).trans rfl, (blk_cell BK658.out 1).trans rfl⟩ (fun hHeld => ?_)
         generalize wc.drew = w45 at HO_6 HO_9 HO_10 HO_676001 BK658 BK675 HB hHeld ⊢
         refine take_ (i := 0) (N := some 52) (v := ?_) (a' := ?_) #[true, false, false, false, false] rfl rfl (by kernel_rfl) (fun _ _ _ h => h) (Or.inl ⟨by rfl, ?_⟩) hHeld ?_ ?_
         rotate_left
         ·rintro w' ⟨s0, s1, s2, s3⟩
          go_simp
          with_reducible rfl
         rotate_left
         ·simp only [Act.put, List.setIfInBounds_toArray, List.set_cons_zero, List.set_cons_succ, i64_w, i32_w]
          rfl
         refine take_ (i := 1) (N := some 53) (v := ?_) (a' := ?_) #[true, true, false, false, false] rfl rfl (by kernel_rfl) (fun _ _ _ h => h) (Or.inl ⟨by rfl, ?_⟩) hHeld ?_ ?_
         rotate_left
         ·rintro w' ⟨s0, s1, s2, s3⟩
          go_simp
          with_reducible rfl
         rotate_left
         ·simp only [Act.put, List.setIfInBounds_toArray, List.set_cons_zero, List.set_cons_succ, i64_w, i32_w]
          rfl
         refine one_ (i := 2) (N := some 54) #[true, true, true, false, false] rfl rfl (by kernel_rfl) (by decide) (fun K hK => ?_)
         refine goes_ Try.func25 (by kernel_rfl) rfl #[.agg #[.int .i64 a0_0, .slice A0_1 l0_1.length c0_1]] (by rfl) rfl rfl (by (try simp only [List.map_toArray, List.map_cons, List.map_nil]); first | done | rfl | (simp only [List.length_drop, List.length_take]; rfl)) ?_
         with_reducible refine (laws_toGraph.calls kj39 a0_0 _ _ l0_1 t684 t685 _ ?side1 ?side2 A42.out).mono ?_
         (case side1 => exact Cz ((Kd.C_below HR0_1.out HB.out)))
         (case side2 => exact HC0_1.out)
         rintro e w46 ⟨v686, rfl, ho0, hb⟩
         refine ⟨_, rfl, ?_⟩
         replace HO_6 := Aside0.mk (Kd.R_below (Rz HO_6) hb)
         replace HO_9 := Aside0.mk (Kd.R_below (Rz HO_9) hb)
         replace HO_10 := Aside0.mk (Kd.R_below (Rz HO_10) hb)
         have HO687 := Aside0.mk (Kd.R_lower (Kd.R_new' ho0 (Kd.R_lt (Rz HO_676001))) (below_size (by exact Lz2 HB GE658 GE675)))
         replace HO_676001 := Aside0.mk (Kd.R_elder' (Rz HO_676001) (Kd.R_base ho0) hb)
         replace BK658 := Aside0.mk (blk_below (g := gb658) (o := .cells #[.int .i64 a0_0, .slice A0_1 l0_1.length c0_1] 37 (0, 0)) (Bz BK658) hb)
         replace BK675 := Aside0.mk (blk_below (g := gb675) (o := .cells #[.int .i64 t671, .slice Ao29 t672.length co29] 25 (0, 0)) (Bz BK675) hb)
         replace HB := Aside0.mk (below_step (by exact Lz2 HB GE658 GE675) hb)
         (try clear hb)
         (try clear hb2)
         (try clear hk)
         (try clear hi)
         (try clear ho0)
         obtain ⟨Ao47, co47, eo47⟩ := Kd.R_slice HO687.out
         (first | subst eo47 | (injection eo47 with f1_ f2_ f3_; have f4_ := f1_.symm; have f5_ := f3_.symm; clear f1_ f2_ f3_; subst f4_; subst f5_))
         refine hK.out _ _ ⟨(blk_cell BK675.out 0).trans rfl, (blk_cell BK675.out 1).trans rfl, (blk_cell BK658.out 0).trans rfl, (blk_cell BK658.out 1).trans rfl⟩ (fun hHeld => ?_)
         clear hK K
         refine norm_ (a' := ?_) ?_ ?_
         rotate_left
         ·show Act.put _ (some 54) _ = _
          simp only [Act.put, List.setIfInBounds_toArray, List.set_cons_zero, List.set_cons_succ, i64_w, i32_w]
          rfl
         refine one_ (i := 3) (N := some 55) #[true, true, true, true, false] rfl rfl (by kernel_rfl) (by decide) (fun K hK => ?_)
         refine goes_ Try.func29 (by kernel_rfl) rfl #[.agg #[.int .i64 t671, .slice Ao29 t672.length co29], .agg #[.int .i64 t684, .slice Ao47 t685.length co47]] (by rfl) rfl rfl (by (try simp only [List.map_toArray, List.map_cons, List.map_nil]); first | done | rfl | (simp only [List.length_drop, List.length_take]; rfl)) ?_
         with_reducible refine (laws_eqGraph.calls kj39 t671 _ _ t672 t684 _ _ t685 t688 _ ?side1 ?side2 ?side3 ?side4 A43.out).mono ?_
         (case side1 => exact Cz ((Kd.R_reads' HO_676001.out).2.2))
         (case side2 => exact (Kd.R_reads' HO_676001.out).2.1)
         (case side3 => exact Cz ((Kd.R_reads' HO687.out).2.2))
         (case side4 => exact (Kd.R_reads' HO687.out).2.1)
         rintro e w48 ⟨rfl, hb⟩
         refine ⟨_, rfl, ?_⟩
         replace HO_6 := Aside0.mk (Kd.R_below (Rz HO_6) hb)
         replace HO_9 := Aside0.mk (Kd.R_below (Rz HO_9) hb)
         replace HO_10 := Aside0.mk (Kd.R_below (Rz HO_10) hb)
         replace HO_676001 := Aside0.mk (Kd.R_below (Rz HO_676001) hb)
         replace HO687 := Aside0.mk (Kd.R_below (Rz HO687) hb)
         replace BK658 := Aside0.mk (blk_below (g := gb658) (o := .cells #[.int .i64 a0_0, .slice A0_1 l0_1.length c0_1] 37 (0, 0)) (Bz BK658) hb)
         replace BK675 := Aside0.mk (blk_below (g := gb675) (o := .cells #[.int .i64 t671, .slice Ao29 t672.length co29] 25 (0, 0)) (Bz BK675) hb)
         replace HB := Aside0.mk (below_step (by exact Lz2 HB GE658 GE675) hb)
         (try clear hb)
         (try clear hb2)
         (try clear hk)
         (try clear hi)
         refine hK.out _ _ ⟨(blk_cell BK675.out 0).trans rfl, (blk_cell BK675.out 1).trans rfl, (blk_cell BK658.out 0).trans rfl, (blk_cell BK658.out 1).trans rfl⟩ (fun hHeld => ?_)
         clear hK K
         refine norm_ (a' := ?_) ?_ ?_
         rotate_left
         ·show Act.put _ (some 55) _ = _
          simp only [Act.put, List.setIfInBounds_toArray, List.set_cons_zero, List.set_cons_succ, i64_w, i32_w]
          rfl
         refine pure_ (i := 4) (N := some 56) (v := ?_) (a' := ?_) #[true, true, true, true, true] rfl rfl (by kernel_rfl) (fun _ _ _ h => h) (Or.inl ⟨by rfl, ?_⟩) ?_ ?_
         rotate_left
         ·intro w'
          go_simp
          with_reducible rfl
         rotate_left
         ·simp only [Act.put, List.setIfInBounds_toArray, List.set_cons_zero, List.set_cons_succ, i64_w, i32_w]
          rfl
         refine done_ (by kernel_rfl) ?_
         go_upto_if 56 with (fail)
         go_cut [] (fun wc => ∃ (kq : Nat), Aside0 (laws_FnExactRepresentativeOf.j4 kq l1 t667 t670 t676 t679 t682 a0_0 l0_1 t671 t672 = some r) ∧ Aside0 (kq ≤ kj39) ∧ Aside0 (Kd.R (Kd.int .i64) 3 wc w.heap.size (fun k_ => some k_ ≠ ((.slice Ao32 t676.length co32) : Value).ownBlock ∧ some k_ ≠ (v680 : Value).ownBlock) v668 t667) ∧ Aside0 (Kd.R (Kd.int .i64) 3 wc w.heap.size (fun k_ => some k_ ≠ (v668 : Value).ownBlock ∧ some k_ ≠ (v680 : Value).ownBlock) (.slice Ao32 t676.length co32) t676) ∧ Aside0 (Kd.R (Kd.int .i64) 3 wc w.heap.size (fun k_ => some k_ ≠ (v668 : Value).ownBlock ∧ some k_ ≠ ((.slice Ao32 t676.length co32) : Value).ownBlock) v680 t679) ∧ Aside0 (Kd.R k70 70 wc w.heap.size (fun _ => True) (.slice Ao29 t672.length co29) t672) ∧ Aside0 (wc.heap[gb658]? = some (.cells #[.int .i64 a0_0, (.slice A0_1 l0_1.length c0_1)] 37 (0, 0))) ∧ Aside0 (wc.heap[gb675]? = some (.cells #[.int .i64 t671, (.slice Ao29 t672.length co29)] 25 (0, 0))) ∧ Aside0 (Below w.heap.size w wc))
         case first =>
          have H := HC44.out
          clear HC44
          by_cases c49 : t688 = true
          ·subst c49
           have H1 : (laws_FnExactRepresentativeOf.j4 kj39 l1 t667 t670 t676 t679 t682 a0_0 l0_1 t671 t672) = some r := by rw [if_pos rfl] at H; exact H
           clear H
           have H := H1
           clear H1
           have H' := Aside0.mk H
           clear H
           go_wp2
           go_meet
           case rel => exact ⟨_, H', ⟨by have := HJ2.out; have := HJ6.out; have := HJ16.out; have := HJ39.out; first | omega | exact Nat.le_refl _⟩, ⟨by exact Rz HO_6⟩, ⟨by exact Rz HO_9⟩, ⟨by exact Rz HO_10⟩, ⟨by (with_reducible repeat (first | apply Kd.R_alloc | apply Kd.R_drewN | apply Kd.R_drew)); exact Kd.R_mono HO_676001.out (fun _ hk => trivial)⟩, ⟨by exact Bz BK658⟩, ⟨by exact Bz BK675⟩, ⟨by exact Lz2 HB GE658 GE675⟩⟩
          replace c49 := Bool.eq_false_iff.mpr c49
          subst c49
          have H1 : (some false) = some r := by rw [if_neg (show ¬ (false = true) by decide)] at H; exact H
          clear H
          have H := H1
          clear H1
          obtain rfl := Option.some.inj H
          go_wp2
          go_ret
          exact ⟨by first | rfl | (simp [errW_none, errW_some] <;> rfl) | (simp [*, errW_none, errW_some] <;> rfl), by exact Lz2 HB GE658 GE675⟩
         case rest =>
          clear HC44
          try clear c1
          try clear c5
          try clear c5b0
          try clear c5b1
          try clear c10
          try clear c10b0
          try clear c35
          try clear c41
          try clear c49
          obtain ⟨kq, HA, HJ43, HO_6, HO_9, HO_10, HO_676001, BK658, BK675, HB⟩ := hcut
          cases kq with
          | zero => exact absurd HA.out (by simp [laws_FnExactRepresentativeOf.j4])
          | succ kj43 =>
           have H := HA.out
           clear HA
           simp only [laws_FnExactRepresentativeOf.j4] at H
           replace H := Option.bind_eq_some_iff.mp H
           obtain ⟨t689, A500, H⟩ := H
           replace H : ((laws_eqIntS.f kj43 t676 t689).bind fun t692 => (if t692 = true then (laws_FnExactRepresentativeOf.j5 kj43 l1 t667 t670 t676 t679 t682 a0_0 l0_1 t671 t672) else (some false))) = some r := H
           have A50 := Aside0.mk A500
           clear A500
           replace H := Option.bind_eq_some_iff.mp H
           obtain ⟨t692, A510, H⟩ := H
           replace H : (if t692 = true then (laws_FnExactRepresentativeOf.j5 kj43 l1 t667 t670 t676 t679 t682 a0_0 l0_1 t671 t672) else (some false)) = some r := H
           have A51 := Aside0.mk A510
           clear A510
           have HC52 := Aside0.mk H
           clear H
           go_upto_if 61 with (first | ((with_reducible refine gate_callee (f := 26) rfl ?_); refine goesM_ (some 59) rfl rfl Try.func26 (by kernel_rfl) rfl #[.slice A1 l1.length c1] rfl ?_; (with_reducible refine (laws_toIntS.calls kj43 _ _ l1 t689 _ ?side1 ?side2 A50.out).mono ?_); (case side1 => exact Cz ((Kd.C_below HR1.out HB.out))); (case side2 => exact HC1.out); rintro e w53 ⟨v690, rfl, ho0, hb⟩; refine ⟨_, rfl, ?_⟩; replace HO_676001 := Aside0.mk (Kd.R_below (Rz HO_676001) hb); have HO691 := Aside0.mk (Kd.R_lower (Kd.R_new' (Kd.R_new' (Kd.R_new' ho0 (Kd.R_lt (Rz HO_6))) (Kd.R_lt (Rz HO_9))) (Kd.R_lt (Rz HO_10))) (below_size (by exact Lz2 HB GE658 GE675))); replace HO_6 := Aside0.mk (Kd.R_elder' (Rz HO_6) (Kd.R_base ho0) hb); replace HO_9 := Aside0.mk (Kd.R_elder' (Rz HO_9) (Kd.R_base ho0) hb); replace HO_10 := Aside0.mk (Kd.R_elder' (Rz HO_10) (Kd.R_base ho0) hb); replace BK658 := Aside0.mk (blk_below (g := gb658) (o := .cells #[.int .i64 a0_0, .slice A0_1 l0_1.length c0_1] 37 (0, 0)) (Bz BK658) hb); replace BK675 := Aside0.mk (blk_below (g := gb675) (o := .cells #[.int .i64 t671, .slice Ao29 t672.length co29] 25 (0, 0)) (Bz BK675) hb); replace HB := Aside0.mk (below_step (by exact Lz2 HB GE658 GE675) hb); (try clear hb); (try clear ho0); obtain ⟨Ao54, co54, eo54⟩ := Kd.R_slice HO691.out; subst eo54) | ((with_reducible refine gate_callee (f := 28) rfl ?_); refine goesM_ (some 60) rfl rfl Try.func28 (by kernel_rfl) rfl #[.slice Ao32 t676.length co32, .slice Ao54 t689.length co54] rfl ?_; (with_reducible refine (laws_eqIntS.calls kj43 _ _ t676 _ _ t689 t692 _ ?side1 ?side2 ?side3 ?side4 A51.out).mono ?_); (case side1 => exact Cz ((Kd.R_reads' HO_9.out).2.2)); (case side2 => exact (Kd.R_reads' HO_9.out).2.1); (case side3 => exact Cz ((Kd.R_reads' HO691.out).2.2)); (case side4 => exact (Kd.R_reads' HO691.out).2.1); rintro e w' ⟨rfl, ⟨nd, rfl⟩⟩; refine ⟨_, rfl, ?_⟩))
           (try simp only [Act.put, List.setIfInBounds_toArray, List.set_cons_zero, List.set_cons_succ])
           go_cut [] (fun wc => ∃ (kq : Nat), Aside0 (laws_FnExactRepresentativeOf.j5 kq l1 t667 t670 t676 t679 t682 a0_0 l0_1 t671 t672 = some r) ∧ Aside0 (kq ≤ kj43) ∧ Aside0 (Kd.R (Kd.int .i64) 3 wc w.heap.size (fun k_ => some k_ ≠ ((.slice Ao32 t676.length co32) : Value).ownBlock ∧ some k_ ≠ (v680 : Value).ownBlock) v668 t667) ∧ Aside0 (Kd.R (Kd.int .i64) 3 wc w.heap.size (fun k_ => some k_ ≠ (v668 : Value).ownBlock ∧ some k_ ≠ (v680 : Value).ownBlock) (.slice Ao32 t676.length co32) t676) ∧ Aside0 (Kd.R (Kd.int .i64) 3 wc w.heap.size (fun k_ => some k_ ≠ (v668 : Value).ownBlock ∧ some k_ ≠ ((.slice Ao32 t676.length co32) : Value).ownBlock) v680 t679) ∧ Aside0 (Kd.R k70 70 wc w.heap.size (fun _ => True) (.slice Ao29 t672.length co29) t672) ∧ Aside0 (wc.heap[gb658]? = some (.cells #[.int .i64 a0_0, (.slice A0_1 l0_1.length c0_1)] 37 (0, 0))) ∧ Aside0 (wc.heap[gb675]? = some (.cells #[.int .i64 t671, (.slice Ao29 t672.length co29)] 25 (0, 0))) ∧ Aside0 (Below w.heap.size w wc))
           case first =>
            have H := HC52.out
            clear HC52
            by_cases c55 : t692 = true
            ·subst c55
             have H1 : (laws_FnExactRepresentativeOf.j5 kj43 l1 t667 t670 t676 t679 t682 a0_0 l0_1 t671 t672) = some r := by rw [if_pos rfl] at H; exact H
             clear H
             have H := H1
             clear H1
             have H' := Aside0.mk H
             clear H
             go_wp2
             go_meet
             case rel => exact ⟨_, H', ⟨by have := HJ2.out; have := HJ6.out; have := HJ16.out; have := HJ39.out; have := HJ43.out; first | omega | exact Nat.le_refl _⟩, ⟨by (with_reducible repeat (first | apply Kd.R_alloc | apply Kd.R_drewN | apply Kd.R_drew)); exact Kd.R_mono HO_6.out (fun _ hk => ⟨hk.1.1, hk.1.2⟩)⟩, ⟨by (with_reducible repeat (first | apply Kd.R_alloc | apply Kd.R_drewN | apply Kd.R_drew)); exact Kd.R_mono HO_9.out (fun _ hk => ⟨hk.1.1, hk.1.2⟩)⟩, ⟨by (with_reducible repeat (first | apply Kd.R_alloc | apply Kd.R_drewN | apply Kd.R_drew)); exact Kd.R_mono HO_10.out (fun _ hk => ⟨hk.1.1, hk.1.2⟩)⟩, ⟨by exact Rz HO_676001⟩, ⟨by exact Bz BK658⟩, ⟨by exact Bz BK675⟩, ⟨by exact Lz2 HB GE658 GE675⟩⟩
            replace c55 := Bool.eq_false_iff.mpr c55
            subst c55
            have H1 : (some false) = some r := by rw [if_neg (show ¬ (false = true) by decide)] at H; exact H
            clear H
            have H := H1
            clear H1
            obtain rfl := Option.some.inj H
            go_wp2
            go_ret
            exact ⟨by first | rfl | (simp [errW_none, errW_some] <;> rfl) | (simp [*, errW_none, errW_some] <;> rfl), by exact Lz2 HB GE658 GE675⟩
           case rest =>
            clear HC52
            try clear c1
            try clear c5
            try clear c5b0
            try clear c5b1
            try clear c10
            try clear c10b0
            try clear c35
            try clear c41
            try clear c49
            try clear c55
            obtain ⟨kq, HA, HJ51, HO_6, HO_9, HO_10, HO_676001, BK658, BK675, HB⟩ := hcut
            cases kq with
            | zero => exact absurd HA.out (by simp [laws_FnExactRepresentativeOf.j5])
            | succ kj51 =>
             have H := HA.out
             clear HA
             simp only [laws_FnExactRepresentativeOf.j5] at H
             replace H := Option.bind_eq_some_iff.mp H
             obtain ⟨⟨t693, t694⟩, A560, H⟩ := H
             replace H : ((laws_markIntS.f kj51 t676 t693).bind fun bt695 => (if bt695.1 < 0 then (laws_FnExactRepresentativeOf.j6 kj51 l1 t667 t670 t679 true a0_0 l0_1) else ((laws_eqIntS.f kj51 t679 t667).bind fun t697 => (if t697 = true then (laws_FnExactRepresentativeOf.j6 kj51 l1 t667 t670 t679 (t682 != t670) a0_0 l0_1) else (laws_FnExactRepresentativeOf.j6 kj51 l1 t667 t670 t679 true a0_0 l0_1))))) = some r := H
             have A56 := Aside0.mk A560
             clear A560
             replace H := Option.bind_eq_some_iff.mp H
             obtain ⟨⟨t695, t696⟩, A570, H⟩ := H
             replace H : (if t695 < 0 then (laws_FnExactRepresentativeOf.j6 kj51 l1 t667 t670 t679 true a0_0 l0_1) else ((laws_eqIntS.f kj51 t679 t667).bind fun t697 => (if t697 = true then (laws_FnExactRepresentativeOf.j6 kj51 l1 t667 t670 t679 (t682 != t670) a0_0 l0_1) else (laws_FnExactRepresentativeOf.j6 kj51 l1 t667 t670 t679 true a0_0 l0_1)))) = some r := H
             have A57 := Aside0.mk A570
             clear A570
             have HC58 := Aside0.mk H
             clear H
             have hnb59 := NB675_658.out
             have hnc59 := NB658_675.out
             have hcz60_0 : wc.cell? ⟨gb675, 0, none⟩ = some (.int .i64 t671) := (blk_cell BK675.out 0).trans rfl
             have hcz60_1 : wc.cell? ⟨gb675, 1, none⟩ = some (.slice Ao29 t672.length co29) := (blk_cell BK675.out 1).trans rfl
             have hfz60_0 := blk_frozen BK675.out 0
             have hfz60_1 := blk_frozen BK675.out 1
             go_upto_region 20 with (first | ((with_reducible refine gate_callee (f := 30) rfl ?_); refine goesM_ (some 64) rfl rfl Try.func30 (by kernel_rfl) rfl #[.agg #[.int .i64 t671, .slice Ao29 t672.length co29], .int .i64 1] rfl ?_; (with_reducible refine (laws_markGraph.calls kj51 t671 (fun k_ => some k_ = (.slice Ao29 t672.length co29 : Value).ownBlock) (.slice Ao29 t672.length co29) t672 1 t693 t694 w _ ?side1 ?side2 A56.out).mono ?_); (case side1 => exact Lz2 HB GE658 GE675); (case side2 => exact Kd.R_tight rfl HO_676001.out); rintro e w61 ⟨rfl, hy0, hb, hkp⟩; refine ⟨_, rfl, ?_⟩; replace HO_6 := Aside0.mk (Kd.R_mono (ok' := fun k_ => some k_ ≠ (.slice Ao32 t676.length co32 : Value).ownBlock ∧ some k_ ≠ (v680 : Value).ownBlock) (Kd.R_keptB ((Kd.R_apart' HO_6.out (Kd.R_typed HO_676001.out) (by decide))) hkp (fun k_ hk_ hs_ => (hk_.2) hs_)) (fun k_ hk_ => ⟨hk_.1.1.1, hk_.1.1.2⟩)); replace HO_9 := Aside0.mk (Kd.R_mono (ok' := fun k_ => some k_ ≠ (v668 : Value).ownBlock ∧ some k_ ≠ (v680 : Value).ownBlock) (Kd.R_keptB ((Kd.R_apart' HO_9.out (Kd.R_typed HO_676001.out) (by decide))) hkp (fun k_ hk_ hs_ => (hk_.2) hs_)) (fun k_ hk_ => ⟨hk_.1.1.1, hk_.1.1.2⟩)); replace HO_10 := Aside0.mk (Kd.R_mono (ok' := fun k_ => some k_ ≠ (v668 : Value).ownBlock ∧ some k_ ≠ (.slice Ao32 t676.length co32 : Value).ownBlock) (Kd.R_keptB ((Kd.R_apart' HO_10.out (Kd.R_typed HO_676001.out) (by decide))) hkp (fun k_ hk_ hs_ => (hk_.2) hs_)) (fun k_ hk_ => ⟨hk_.1.1.1, hk_.1.1.2⟩)); replace BK658 := Aside0.mk (blk_kept (Bz BK658) hkp (fun hs_ => (fun e_ => (Kd.R_ne HO_676001.out BK658.out (by decide)) e_) hs_)); replace BK675 := Aside0.mk (blk_kept (Bz BK675) hkp (fun hs_ => (fun e_ => (Kd.R_ne HO_676001.out BK675.out (by decide)) e_) hs_)); replace HO_676001 := Aside0.mk (Kd.R_reok rfl hy0 (fun k_ e_ => HO_676001.out.1 k_ e_)); replace HB := Aside0.mk (hb); (try clear hb); (try clear hkp); (try clear hy0)) | ((with_reducible refine gate_callee (f := 31) rfl ?_); refine goesM_ (some 67) rfl rfl Try.func31 (by kernel_rfl) rfl #[.slice Ao32 t676.length co32, .int .i64 t693] rfl ?_; (with_reducible refine (laws_markIntS.calls kj51 (fun k_ => some k_ = (.slice Ao32 t676.length co32 : Value).ownBlock) (.slice Ao32 t676.length co32) t676 t693 t695 t696 w _ ?side1 ?side2 A57.out).mono ?_); (case side1 => exact Lz2 HB GE658 GE675); (case side2 => exact Kd.R_tight rfl HO_9.out); rintro e w62 ⟨rfl, hy0, hb, hkp⟩; refine ⟨_, rfl, ?_⟩; replace HO_6 := Aside0.mk (Kd.R_mono (ok' := fun k_ => some k_ ≠ (.slice Ao32 t676.length co32 : Value).ownBlock ∧ some k_ ≠ (v680 : Value).ownBlock) (Kd.R_keptB (HO_6.out) hkp (fun k_ hk_ hs_ => (hk_.1) hs_)) (fun k_ hk_ => ⟨hk_.1.1, hk_.1.2⟩)); replace HO_10 := Aside0.mk (Kd.R_mono (ok' := fun k_ => some k_ ≠ (v668 : Value).ownBlock ∧ some k_ ≠ (.slice Ao32 t676.length co32 : Value).ownBlock) (Kd.R_keptB (HO_10.out) hkp (fun k_ hk_ hs_ => (hk_.2) hs_)) (fun k_ hk_ => ⟨hk_.1.1, hk_.1.2⟩)); replace HO_676001 := Aside0.mk (Kd.R_mono (ok' := fun k_ => True) (Kd.R_keptB ((Kd.R_apart' HO_676001.out (Kd.R_typed HO_9.out) (by decide))) hkp (fun k_ hk_ hs_ => (hk_.2) hs_)) (fun k_ hk_ => trivial)); replace BK658 := Aside0.mk (blk_kept (Bz BK658) hkp (fun hs_ => (fun e_ => (Kd.R_ne HO_9.out BK658.out (by decide)) e_) hs_)); replace BK675 := Aside0.mk (blk_kept (Bz BK675) hkp (fun hs_ => (fun e_ => (Kd.R_ne HO_9.out BK675.out (by decide)) e_) hs_)); replace HO_9 := Aside0.mk (Kd.R_reok rfl hy0 (fun k_ e_ => HO_9.out.1 k_ e_)); replace HB := Aside0.mk (hb); (try clear hb); (try clear hkp); (try clear hy0)))
             (try simp only [Act.put, List.setIfInBounds_toArray, List.set_cons_zero, List.set_cons_succ])
             go_cut [80] (fun v80 wc => ∃ (kq : Nat) (x80_57 : Bool), v80 = .bool x80_57 ∧ Aside0 (laws_FnExactRepresentativeOf.j6 kq l1 t667 t670 t679 x80_57 a0_0 l0_1 = some r) ∧ Aside0 (kq ≤ kj51) ∧ Aside0 (Kd.R (Kd.int .i64) 3 wc w.heap.size (fun k_ => some k_ ≠ (v680 : Value).ownBlock) v668 t667) ∧ Aside0 (Kd.R (Kd.int .i64) 3 wc w.heap.size (fun k_ => some k_ ≠ (v668 : Value).ownBlock) v680 t679) ∧ Aside0 (Kd.R k70 70 wc w.heap.size (fun _ => True) (.slice Ao29 t672.length co29) t694) ∧ Aside0 (wc.heap[gb658]? = some (.cells #[.int .i64 a0_0, (.slice A0_1 l0_1.length c0_1)] 37 (0, 0))) ∧ Aside0 (wc.heap[gb675]? = some (.cells #[.int .i64 t671, (.slice Ao29 t672.length co29)] 25 (0, 0))) ∧ Aside0 (Below w.heap.size w wc))
             case first =>
              have H := HC58.out
              clear HC58
              by_cases c63 : t695 < 0
              ·rw [if_pos c63] at H
               have c63b0 : decide (t695 < 0) = true := decide_eq_true c63
               clear c63
               (first | rw [c63b0] | (simp only [i64_w, i32_w]; rw [c63b0]) | skip)
               have H' := Aside0.mk H
               clear H
               go_wp2
               go_meet
               case rel => exact ⟨_, (true), (by first | rfl | (simp; done) | (simp [*]; done)), H', ⟨by have := HJ2.out; have := HJ6.out; have := HJ16.out; have := HJ39.out; have := HJ43.out; have := HJ51.out; first | omega | exact Nat.le_refl _⟩, ⟨by (with_reducible repeat (first | apply Kd.R_alloc | apply Kd.R_drewN | apply Kd.R_drew)); exact Kd.R_mono HO_6.out (fun _ hk => hk.2)⟩, ⟨by (with_reducible repeat (first | apply Kd.R_alloc | apply Kd.R_drewN | apply Kd.R_drew)); exact Kd.R_mono HO_10.out (fun _ hk => hk.1)⟩, ⟨by exact Rz HO_676001⟩, ⟨by exact Bz BK658⟩, ⟨by exact Bz BK675⟩, ⟨by exact Lz2 HB GE658 GE675⟩⟩
              rw [if_neg c63] at H
              have c63b0 : decide (t695 < 0) = false := decide_eq_false c63
              clear c63
              (first | rw [c63b0] | (simp only [i64_w, i32_w]; rw [c63b0]) | skip)
              replace H := Option.bind_eq_some_iff.mp H
              obtain ⟨t697, A640, H⟩ := H
              replace H : (if t697 = true then (laws_FnExactRepresentativeOf.j6 kj51 l1 t667 t670 t679 (t682 != t670) a0_0 l0_1) else (laws_FnExactRepresentativeOf.j6 kj51 l1 t667 t670 t679 true a0_0 l0_1)) = some r := H
              have A64 := Aside0.mk A640
              clear A640
              by_cases c65 : t697 = true
              ·subst c65
               have H1 : (laws_FnExactRepresentativeOf.j6 kj51 l1 t667 t670 t679 (t682 != t670) a0_0 l0_1) = some r := by rw [if_pos rfl] at H; exact H
               clear H
               have H := H1
               clear H1
               have H' := Aside0.mk H
               clear H
               obtain ⟨Ao66, co66, eo66⟩ := Kd.R_slice HO_10.out
               subst eo66
               obtain ⟨Ao67, co67, eo67⟩ := Kd.R_slice HO_6.out
               subst eo67
               go_wp2_with (first | (go_at_call 28; (with_reducible refine (laws_eqIntS.calls kj51 _ _ t679 _ _ t667 true _ ?side1 ?side2 ?side3 ?side4 A64.out).mono ?_); (case side1 => exact Cz ((Kd.R_reads' HO_10.out).2.2)); (case side2 => exact (Kd.R_reads' HO_10.out).2.1); (case side3 => exact Cz ((Kd.R_reads' HO_6.out).2.2)); (case side4 => exact (Kd.R_reads' HO_6.out).2.1); rintro e w' ⟨rfl, ⟨nd, rfl⟩⟩))
               go_meet
               case rel => exact ⟨_, ((t682 != t670)), (by first | rfl | (simp; done) | (simp [*]; done)), H', ⟨by have := HJ2.out; have := HJ6.out; have := HJ16.out; have := HJ39.out; have := HJ43.out; have := HJ51.out; first | omega | exact Nat.le_refl _⟩, ⟨by (with_reducible repeat (first | apply Kd.R_alloc | apply Kd.R_drewN | apply Kd.R_drew)); exact Kd.R_mono HO_6.out (fun _ hk => hk.2)⟩, ⟨by (with_reducible repeat (first | apply Kd.R_alloc | apply Kd.R_drewN | apply Kd.R_drew)); exact Kd.R_mono HO_10.out (fun _ hk => hk.1)⟩, ⟨by exact Rz HO_676001⟩, ⟨by exact Bz BK658⟩, ⟨by exact Bz BK675⟩, ⟨by exact Lz2 HB GE658 GE675⟩⟩
              replace c65 := Bool.eq_false_iff.mpr c65
              subst c65
              have H1 : (laws_FnExactRepresentativeOf.j6 kj51 l1 t667 t670 t679 true a0_0 l0_1) = some r := by rw [if_neg (show ¬ (false = true) by decide)] at H; exact H
              clear H
              have H := H1
              clear H1
              have H' := Aside0.mk H
              clear H
              obtain ⟨Ao68, co68, eo68⟩ := Kd.R_slice HO_10.out
              subst eo68
              obtain ⟨Ao69, co69, eo69⟩ := Kd.R_slice HO_6.out
              subst eo69
              go_wp2_with (first | (go_at_call 28; (with_reducible refine (laws_eqIntS.calls kj51 _ _ t679 _ _ t667 false _ ?side1 ?side2 ?side3 ?side4 A64.out).mono ?_); (case side1 => exact Cz ((Kd.R_reads' HO_10.out).2.2)); (case side2 => exact (Kd.R_reads' HO_10.out).2.1); (case side3 => exact Cz ((Kd.R_reads' HO_6.out).2.2)); (case side4 => exact (Kd.R_reads' HO_6.out).2.1); rintro e w' ⟨rfl, ⟨nd, rfl⟩⟩))
              go_meet
              case rel => exact ⟨_, (true), (by first | rfl | (simp; done) | (simp [*]; done)), H', ⟨by have := HJ2.out; have := HJ6.out; have := HJ16.out; have := HJ39.out; have := HJ43.out; have := HJ51.out; first | omega | exact Nat.le_refl _⟩, ⟨by (with_reducible repeat (first | apply Kd.R_alloc | apply Kd.R_drewN | apply Kd.R_drew)); exact Kd.R_mono HO_6.out (fun _ hk => hk.2)⟩, ⟨by (with_reducible repeat (first | apply Kd.R_alloc | apply Kd.R_drewN | apply Kd.R_drew)); exact Kd.R_mono HO_10.out (fun _ hk => hk.1)⟩, ⟨by exact Rz HO_676001⟩, ⟨by exact Bz BK658⟩, ⟨by exact Bz BK675⟩, ⟨by exact Lz2 HB GE658 GE675⟩⟩
             case rest =>
              clear HC58
              try clear c1
              try clear c5
              try clear c5b0
              try clear c5b1
              try clear c10
              try clear c10b0
              try clear c35
              try clear c41
              try clear c49
              try clear c55
              try clear c63
              try clear c63b0
              try clear c65
              obtain ⟨kq, x80_57, rfl, HA, HJ57, HO_6, HO_10, HO_676001, BK658, BK675, HB⟩ := hcut
              have hl676001_57 := (Kd.R_reads' HO_676001.out).1
              rw [hl676001_57] at HO_676001
              (try simp only [hl676001_57])
              (try simp only [hl676001_57] at BK658)
              (try simp only [hl676001_57] at BK675)
              (try simp only [hl676001_57] at HO_6)
              (try simp only [hl676001_57] at HO_10)
              cases kq with
              | zero => exact absurd HA.out (by simp [laws_FnExactRepresentativeOf.j6])
              | succ kj57 =>
               have H := HA.out
               clear HA
               simp only [laws_FnExactRepresentativeOf.j6] at H
               have HC70 := Aside0.mk H
               clear H
               go_upto_if 80 with (fail)
               go_cut [] (fun wc => ∃ (kq : Nat), Aside0 (laws_FnExactRepresentativeOf.j7 kq l1 t667 t670 t679 a0_0 l0_1 = some r) ∧ Aside0 (kq ≤ kj57) ∧ Aside0 (Kd.R (Kd.int .i64) 3 wc w.heap.size (fun k_ => some k_ ≠ (v680 : Value).ownBlock) v668 t667) ∧ Aside0 (Kd.R (Kd.int .i64) 3 wc w.heap.size (fun k_ => some k_ ≠ (v668 : Value).ownBlock) v680 t679) ∧ Aside0 (Kd.R k70 70 wc w.heap.size (fun _ => True) (.slice Ao29 t694.length co29) t694) ∧ Aside0 (wc.heap[gb658]? = some (.cells #[.int .i64 a0_0, (.slice A0_1 l0_1.length c0_1)] 37 (0, 0))) ∧ Aside0 (wc.heap[gb675]? = some (.cells #[.int .i64 t671, (.slice Ao29 t694.length co29)] 25 (0, 0))) ∧ Aside0 (Below w.heap.size w wc))
               case first =>
                have H := HC70.out
                clear HC70
                by_cases c71 : x80_57 = true
                ·subst c71
                 have H1 : (some false) = some r := by rw [if_pos rfl] at H; exact H
                 clear H
                 have H := H1
                 clear H1
                 obtain rfl := Option.some.inj H
                 go_wp2
                 go_ret
                 exact ⟨by first | rfl | (simp [errW_none, errW_some] <;> rfl) | (simp [*, errW_none, errW_some] <;> rfl), by exact Lz2 HB GE658 GE675⟩
                replace c71 := Bool.eq_false_iff.mpr c71
                subst c71
                have H1 : (laws_FnExactRepresentativeOf.j7 kj57 l1 t667 t670 t679 a0_0 l0_1) = some r := by rw [if_neg (show ¬ (false = true) by decide)] at H; exact H
                clear H
                have H := H1
                clear H1
                have H' := Aside0.mk H
                clear H
                go_wp2
                go_meet
                case rel => exact ⟨_, H', ⟨by have := HJ2.out; have := HJ6.out; have := HJ16.out; have := HJ39.out; have := HJ43.out; have := HJ51.out; have := HJ57.out; first | omega | exact Nat.le_refl _⟩, ⟨by (try simp only [hl676001_57]); exact Rz HO_6⟩, ⟨by (try simp only [hl676001_57]); exact Rz HO_10⟩, ⟨by (try simp only [hl676001_57]); exact Rz HO_676001⟩, ⟨by (try simp only [hl676001_57]); exact Bz BK658⟩, ⟨by (try simp only [hl676001_57]); exact Bz BK675⟩, ⟨by exact Lz2 HB GE658 GE675⟩⟩
               case rest =>
                clear HC70
                try clear c1
                try clear c5
                try clear c5b0
                try clear c5b1
                try clear c10
                try clear c10b0
                try clear c35
                try clear c41
                try clear c49
                try clear c55
                try clear c63
                try clear c63b0
                try clear c65
                try clear c71
                obtain ⟨kq, HA, HJ69, HO_6, HO_10, HO_676001, BK658, BK675, HB⟩ := hcut
                cases kq with
                | zero => exact absurd HA.out (by simp [laws_FnExactRepresentativeOf.j7])
                | succ kj69 =>
                 have H := HA.out
                 clear HA
                 simp only [laws_FnExactRepresentativeOf.j7] at H
                 replace H := Option.bind_eq_some_iff.mp H
                 obtain ⟨⟨t698, t699⟩, A720, H⟩ := H
                 replace H : ((laws_heldIntS.f kj69 t699 1).bind fun t700 => (if t700 < 0 then (some false) else (laws_FnExactRepresentativeOf.j8 kj69 l1 t667 t670 t699 t698 t700 a0_0 l0_1))) = some r := H
                 have A72 := Aside0.mk A720
                 clear A720
                 replace H := Option.bind_eq_some_iff.mp H
                 obtain ⟨t700, A730, H⟩ := H
                 replace H : (if t700 < 0 then (some false) else (laws_FnExactRepresentativeOf.j8 kj69 l1 t667 t670 t699 t698 t700 a0_0 l0_1)) = some r := H
                 have A73 := Aside0.mk A730
                 clear A730
                 have HC74 := Aside0.mk H
                 clear H
                 obtain ⟨Ao75, co75, eo75⟩ := Kd.R_slice HO_10.out
                 subst eo75
                 go_upto_if 88 with (first | ((with_reducible refine gate_callee (f := 31) rfl ?_); refine goesM_ (some 83) rfl rfl Try.func31 (by kernel_rfl) rfl #[.slice Ao75 t679.length co75, .int .i64 1] rfl ?_; (with_reducible refine (laws_markIntS.calls kj69 (fun k_ => some k_ = (.slice Ao75 t679.length co75 : Value).ownBlock) (.slice Ao75 t679.length co75) t679 1 t698 t699 w _ ?side1 ?side2 A72.out).mono ?_); (case side1 => exact Lz2 HB GE658 GE675); (case side2 => exact Kd.R_tight rfl HO_10.out); rintro e w76 ⟨rfl, hy0, hb, hkp⟩; refine ⟨_, rfl, ?_⟩; replace HO_6 := Aside0.mk (Kd.R_mono (ok' := fun k_ => some k_ ≠ (.slice Ao75 t679.length co75 : Value).ownBlock) (Kd.R_keptB (HO_6.out) hkp (fun k_ hk_ hs_ => (hk_) hs_)) (fun k_ hk_ => hk_.1)); replace HO_676001 := Aside0.mk (Kd.R_mono (ok' := fun k_ => True) (Kd.R_keptB ((Kd.R_apart' HO_676001.out (Kd.R_typed HO_10.out) (by decide))) hkp (fun k_ hk_ hs_ => (hk_.2) hs_)) (fun k_ hk_ => trivial)); replace BK658 := Aside0.mk (blk_kept (Bz BK658) hkp (fun hs_ => (fun e_ => (Kd.R_ne HO_10.out BK658.out (by decide)) e_) hs_)); replace BK675 := Aside0.mk (blk_kept (Bz BK675) hkp (fun hs_ => (fun e_ => (Kd.R_ne HO_10.out BK675.out (by decide)) e_) hs_)); replace HO_10 := Aside0.mk (Kd.R_reok rfl hy0 (fun k_ e_ => HO_10.out.1 k_ e_)); replace HB := Aside0.mk (hb); (try clear hb); (try clear hkp); (try clear hy0)) | ((with_reducible refine gate_callee (f := 32) rfl ?_); refine goesL_ (some 86) rfl rfl Try.func32 (by kernel_rfl) rfl #[.slice Ao75 t699.length co75, .int .i64 1] rfl (by (try simp only [List.map_toArray, List.map_cons, List.map_nil]); first | done | (rw [show t699.length = t679.length from (Kd.R_reads' HO_10.out).1.symm] <;> rfl) | rfl | (simp only [List.length_drop, List.length_take]; rfl)) ?_; (with_reducible refine (laws_heldIntS.calls kj69 _ _ t699 1 t700 _ ?side1 ?side2 A73.out).mono ?_); (case side1 => exact Cz ((Kd.R_reads' HO_10.out).2.2)); (case side2 => rw [show t699.length = t679.length from (Kd.R_reads' HO_10.out).1.symm]; exact (Kd.R_reads' HO_10.out).2.1); rintro e w' ⟨rfl, ⟨nd, rfl⟩⟩; refine ⟨_, rfl, ?_⟩))
                 (try simp only [Act.put, List.setIfInBounds_toArray, List.set_cons_zero, List.set_cons_succ])
                 go_cut [] (fun wc => ∃ (kq : Nat), Aside0 (laws_FnExactRepresentativeOf.j8 kq l1 t667 t670 t699 t698 t700 a0_0 l0_1 = some r) ∧ Aside0 (kq ≤ kj69) ∧ Aside0 (Kd.R (Kd.int .i64) 3 wc w.heap.size (fun k_ => some k_ ≠ ((.slice Ao75 t679.length co75) : Value).ownBlock) v668 t667) ∧ Aside0 (Kd.R (Kd.int .i64) 3 wc w.heap.size (fun k_ => some k_ ≠ (v668 : Value).ownBlock) (.slice Ao75 t679.length co75) t699) ∧ Aside0 (Kd.R k70 70 wc w.heap.size (fun _ => True) (.slice Ao29 t694.length co29) t694) ∧ Aside0 (wc.heap[gb658]? = some (.cells #[.int .i64 a0_0, (.slice A0_1 l0_1.length c0_1)] 37 (0, 0))) ∧ Aside0 (wc.heap[gb675]? = some (.cells #[.int .i64 t671, (.slice Ao29 t694.length co29)] 25 (0, 0))) ∧ Aside0 (Below w.heap.size w wc))
                 case first =>
                  have H := HC74.out
                  clear HC74
                  by_cases c77 : t700 < 0
                  ·rw [if_pos c77] at H
                   have c77b0 : decide (t700 < 0) = true := decide_eq_true c77
                   clear c77
                   (first | rw [c77b0] | (simp only [i64_w, i32_w]; rw [c77b0]) | skip)
                   obtain rfl := Option.some.inj H
                   go_wp2
                   go_ret
                   exact ⟨by first | rfl | (simp [errW_none, errW_some] <;> rfl) | (simp [*, errW_none, errW_some] <;> rfl), by exact Lz2 HB GE658 GE675⟩
                  rw [if_neg c77] at H
                  have c77b0 : decide (t700 < 0) = false := decide_eq_false c77
                  clear c77
                  (first | rw [c77b0] | (simp only [i64_w, i32_w]; rw [c77b0]) | skip)
                  have H' := Aside0.mk H
                  clear H
                  go_wp2
                  go_meet
                  case rel => exact ⟨_, H', ⟨by have := HJ2.out; have := HJ6.out; have := HJ16.out; have := HJ39.out; have := HJ43.out; have := HJ51.out; have := HJ57.out; have := HJ69.out; first | omega | exact Nat.le_refl _⟩, ⟨by (try simp only [hl676001_57]); exact Rz HO_6⟩, ⟨by (try simp only [hl676001_57]); exact Rz HO_10⟩, ⟨by (try simp only [hl676001_57]); exact Rz HO_676001⟩, ⟨by (try simp only [hl676001_57]); exact Bz BK658⟩, ⟨by (try simp only [hl676001_57]); exact Bz BK675⟩, ⟨by exact Lz2 HB GE658 GE675⟩⟩
                 case rest =>
                  clear HC74
                  try clear c1
                  try clear c5
                  try clear c5b0
                  try clear c5b1
                  try clear c10
                  try clear c10b0
                  try clear c35
                  try clear c41
                  try clear c49
                  try clear c55
                  try clear c63
                  try clear c63b0
                  try clear c65
                  try clear c71
                  try clear c77
                  try clear c77b0
                  obtain ⟨kq, HA, HJ73, HO_6, HO_10, HO_676001, BK658, BK675, HB⟩ := hcut
                  have hl10_73 := (Kd.R_reads' HO_10.out).1
                  rw [hl10_73] at HO_10
                  (try simp only [hl10_73])
                  (try simp only [hl10_73] at BK658)
                  (try simp only [hl10_73] at BK675)
                  (try simp only [hl10_73] at HO_6)
                  (try simp only [hl10_73] at HO_676001)
                  cases kq with
                  | zero => exact absurd HA.out (by simp [laws_FnExactRepresentativeOf.j8])
                  | succ kj73 =>
                   have H := HA.out
                   clear HA
                   simp only [laws_FnExactRepresentativeOf.j8] at H
                   have HC78 := Aside0.mk H
                   clear H
                   go_upto_if 91 with (fail)
                   go_cut [] (fun wc => ∃ (kq : Nat), Aside0 (laws_FnExactRepresentativeOf.j9 kq l1 t667 t670 t699 t698 a0_0 l0_1 = some r) ∧ Aside0 (kq ≤ kj73) ∧ Aside0 (Kd.R (Kd.int .i64) 3 wc w.heap.size (fun k_ => some k_ ≠ ((.slice Ao75 t699.length co75) : Value).ownBlock) v668 t667) ∧ Aside0 (Kd.R (Kd.int .i64) 3 wc w.heap.size (fun k_ => some k_ ≠ (v668 : Value).ownBlock) (.slice Ao75 t699.length co75) t699) ∧ Aside0 (Kd.R k70 70 wc w.heap.size (fun _ => True) (.slice Ao29 t694.length co29) t694) ∧ Aside0 (wc.heap[gb658]? = some (.cells #[.int .i64 a0_0, (.slice A0_1 l0_1.length c0_1)] 37 (0, 0))) ∧ Aside0 (wc.heap[gb675]? = some (.cells #[.int .i64 t671, (.slice Ao29 t694.length co29)] 25 (0, 0))) ∧ Aside0 (Below w.heap.size w wc))
                   case first =>
                    have H := HC78.out
                    clear HC78
                    by_cases c79 : t700 = t698
                    ·rw [if_pos c79] at H
                     have c79b0 : (t700 == t698) = true := beq_iff_eq.mpr c79
                     have c79b1 : (t700 != t698) = false := bne_eq_false_iff_eq.mpr c79
                     clear c79
                     (first | rw [c79b0] | (simp only [i64_w, i32_w]; rw [c79b0]) | skip)
                     have H' := Aside0.mk H
                     clear H
                     go_wp2
                     go_meet
                     case rel => exact ⟨_, H', ⟨by have := HJ2.out; have := HJ6.out; have := HJ16.out; have := HJ39.out; have := HJ43.out; have := HJ51.out; have := HJ57.out; have := HJ69.out; have := HJ73.out; first | omega | exact Nat.le_refl _⟩, ⟨by (try simp only [hl676001_57]); (try simp only [hl10_73]); exact Rz HO_6⟩, ⟨by (try simp only [hl676001_57]); (try simp only [hl10_73]); exact Rz HO_10⟩, ⟨by (try simp only [hl676001_57]); (try simp only [hl10_73]); exact Rz HO_676001⟩, ⟨by (try simp only [hl676001_57]); (try simp only [hl10_73]); exact Bz BK658⟩, ⟨by (try simp only [hl676001_57]); (try simp only [hl10_73]); exact Bz BK675⟩, ⟨by exact Lz2 HB GE658 GE675⟩⟩
                    rw [if_neg c79] at H
                    have c79b0 : (t700 == t698) = false := beq_eq_false_iff_ne.mpr c79
                    have c79b1 : (t700 != t698) = true := bne_iff_ne.mpr c79
                    (first | rw [c79b0] | (simp only [i64_w, i32_w]; rw [c79b0]) | skip)
                    obtain rfl := Option.some.inj H
                    go_wp2
                    go_ret
                    exact ⟨by first | rfl | (simp [errW_none, errW_some] <;> rfl) | (simp [*, errW_none, errW_some] <;> rfl), by exact Lz2 HB GE658 GE675⟩
                   case rest =>
                    clear HC78
                    try clear c1
                    try clear c5
                    try clear c5b0
                    try clear c5b1
                    try clear c10
                    try clear c10b0
                    try clear c35
                    try clear c41
                    try clear c49
                    try clear c55
                    try clear c63
                    try clear c63b0
                    try clear c65
                    try clear c71
                    try clear c77
                    try clear c77b0
                    try clear c79
                    try clear c79b0
                    try clear c79b1
                    obtain ⟨kq, HA, HJ77, HO_6, HO_10, HO_676001, BK658, BK675, HB⟩ := hcut
                    cases kq with
                    | zero => exact absurd HA.out (by simp [laws_FnExactRepresentativeOf.j9])
                    | succ kj77 =>
                     have H := HA.out
                     clear HA
                     simp only [laws_FnExactRepresentativeOf.j9] at H
                     replace H := Option.bind_eq_some_iff.mp H
                     obtain ⟨⟨t701, t702⟩, A800, H⟩ := H
                     replace H : ((laws_toIntS.f kj77 l1).bind fun t705 => ((impl_RepresentativeOf.f kj77 t701 t702 t705).bind fun bt708 => ((laws_eqIntS.f kj77 bt708.1 t667).bind fun t712 => (if t712 = true then (laws_FnExactRepresentativeOf.j10 kj77 t699 t698 (bt708.2 != t670)) else (laws_FnExactRepresentativeOf.j10 kj77 t699 t698 true))))) = some r := H
                     have A80 := Aside0.mk A800
                     clear A800
                     replace H := Option.bind_eq_some_iff.mp H
                     obtain ⟨t705, A810, H⟩ := H
                     replace H : ((impl_RepresentativeOf.f kj77 t701 t702 t705).bind fun bt708 => ((laws_eqIntS.f kj77 bt708.1 t667).bind fun t712 => (if t712 = true then (laws_FnExactRepresentativeOf.j10 kj77 t699 t698 (bt708.2 != t670)) else (laws_FnExactRepresentativeOf.j10 kj77 t699 t698 true)))) = some r := H
                     have A81 := Aside0.mk A810
                     clear A810
                     replace H := Option.bind_eq_some_iff.mp H
                     obtain ⟨⟨t708, t711⟩, A820, H⟩ := H
                     replace H : ((laws_eqIntS.f kj77 t708 t667).bind fun t712 => (if t712 = true then (laws_FnExactRepresentativeOf.j10 kj77 t699 t698 (t711 != t670)) else (laws_FnExactRepresentativeOf.j10 kj77 t699 t698 true))) = some r := H
                     have A82 := Aside0.mk A820
                     clear A820
                     have HC83 := Aside0.mk H
                     clear H
                     have hnb84 := NB658_675.out
                     have hnc84 := NB675_658.out
                     have hcz85_0 : wc.cell? ⟨gb658, 0, none⟩ = some (.int .i64 a0_0) := (blk_cell BK658.out 0).trans rfl
                     have hcz85_1 : wc.cell? ⟨gb658, 1, none⟩ = some (.slice A0_1 l0_1.length c0_1) := (blk_cell BK658.out 1).trans rfl
                     have hfz85_0 := blk_frozen BK658.out 0
                     have hfz85_1 := blk_frozen BK658.out 1
                     go_upto_region 31 with (first | ((with_reducible refine gate_callee (f := 25) rfl ?_); refine goesM_ (some 94) rfl rfl Try.func25 (by kernel_rfl) rfl #[.agg #[.int .i64 a0_0, .slice A0_1 l0_1.length c0_1]] rfl ?_; (with_reducible refine (laws_toGraph.calls kj77 a0_0 _ _ l0_1 t701 t702 _ ?side1 ?side2 A80.out).mono ?_); (case side1 => exact Cz ((Kd.C_below HR0_1.out HB.out))); (case side2 => exact HC0_1.out); rintro e w86 ⟨v703, rfl, ho0, hb⟩; refine ⟨_, rfl, ?_⟩; replace HO_6 := Aside0.mk (Kd.R_below (Rz HO_6) hb); replace HO_10 := Aside0.mk (Kd.R_below (Rz HO_10) hb); have HO704 := Aside0.mk (Kd.R_lower (Kd.R_new' ho0 (Kd.R_lt (Rz HO_676001))) (below_size (by exact Lz2 HB GE658 GE675))); replace HO_676001 := Aside0.mk (Kd.R_elder' (Rz HO_676001) (Kd.R_base ho0) hb); replace BK658 := Aside0.mk (blk_below (g := gb658) (o := .cells #[.int .i64 a0_0, .slice A0_1 l0_1.length c0_1] 37 (0, 0)) (Bz BK658) hb); replace BK675 := Aside0.mk (blk_below (g := gb675) (o := .cells #[.int .i64 t671, .slice Ao29 t694.length co29] 25 (0, 0)) (Bz BK675) hb); replace HB := Aside0.mk (below_step (by exact Lz2 HB GE658 GE675) hb); (try clear hb); (try clear ho0)) | ((with_reducible refine gate_callee (f := 26) rfl ?_); refine goesM_ (some 96) rfl rfl Try.func26 (by kernel_rfl) rfl #[.slice A1 l1.length c1] rfl ?_; (with_reducible refine (laws_toIntS.calls kj77 _ _ l1 t705 _ ?side1 ?side2 A81.out).mono ?_); (case side1 => exact Cz ((Kd.C_below HR1.out HB.out))); (case side2 => exact HC1.out); rintro e w87 ⟨v706, rfl, ho0, hb⟩; refine ⟨_, rfl, ?_⟩; replace HO_676001 := Aside0.mk (Kd.R_below (Rz HO_676001) hb); replace HO704 := Aside0.mk (Kd.R_below (Rz HO704) hb); have HO707 := Aside0.mk (Kd.R_lower (Kd.R_new' (Kd.R_new' ho0 (Kd.R_lt (Rz HO_6))) (Kd.R_lt (Rz HO_10))) (below_size (by exact Lz2 HB GE658 GE675))); replace HO_6 := Aside0.mk (Kd.R_elder' (Rz HO_6) (Kd.R_base ho0) hb); replace HO_10 := Aside0.mk (Kd.R_elder' (Rz HO_10) (Kd.R_base ho0) hb); replace BK658 := Aside0.mk (blk_below (g := gb658) (o := .cells #[.int .i64 a0_0, .slice A0_1 l0_1.length c0_1] 37 (0, 0)) (Bz BK658) hb); replace BK675 := Aside0.mk (blk_below (g := gb675) (o := .cells #[.int .i64 t671, .slice Ao29 t694.length co29] 25 (0, 0)) (Bz BK675) hb); replace HB := Aside0.mk (below_step (by exact Lz2 HB GE658 GE675) hb); (try clear hb); (try clear ho0); obtain ⟨Ao88, co88, eo88⟩ := Kd.R_slice HO704.out; subst eo88; obtain ⟨Ao89, co89, eo89⟩ := Kd.R_slice HO707.out; subst eo89) | ((with_reducible refine gate_callee (f := 46) rfl ?_); refine goesM_ (some 97) rfl rfl Try.func46 (by kernel_rfl) rfl #[.agg #[.int .i64 t701, .slice Ao88 t702.length co88], .slice Ao89 t705.length co89] rfl ?_; (with_reducible refine (impl_RepresentativeOf.calls kj77 t701 _ _ t702 _ _ t705 t708 t711 _ ?side1 ?side2 ?side3 ?side4 A82.out).mono ?_); (case side1 => exact Cz ((Kd.R_reads' HO704.out).2.2)); (case side2 => exact (Kd.R_reads' HO704.out).2.1); (case side3 => exact Cz ((Kd.R_reads' HO707.out).2.2)); (case side4 => exact (Kd.R_reads' HO707.out).2.1); rintro e w90 ⟨v709, rfl, ho0, hb⟩; refine ⟨_, rfl, ?_⟩; replace HO_676001 := Aside0.mk (Kd.R_below (Rz HO_676001) hb); replace HO704 := Aside0.mk (Kd.R_below (Rz HO704) hb); have HO710 := Aside0.mk (Kd.R_lower (Kd.R_new' (Kd.R_new' (Kd.R_new' ho0 (Kd.R_lt (Rz HO_6))) (Kd.R_lt (Rz HO_10))) (Kd.R_lt (Rz HO707))) (below_size (by exact Lz2 HB GE658 GE675))); replace HO_6 := Aside0.mk (Kd.R_elder' (Rz HO_6) (Kd.R_base ho0) hb); replace HO_10 := Aside0.mk (Kd.R_elder' (Rz HO_10) (Kd.R_base ho0) hb); replace HO707 := Aside0.mk (Kd.R_elder' (Rz HO707) (Kd.R_base ho0) hb); replace BK658 := Aside0.mk (blk_below (g := gb658) (o := .cells #[.int .i64 a0_0, .slice A0_1 l0_1.length c0_1] 37 (0, 0)) (Bz BK658) hb); replace BK675 := Aside0.mk (blk_below (g := gb675) (o := .cells #[.int .i64 t671, .slice Ao29 t694.length co29] 25 (0, 0)) (Bz BK675) hb); replace HB := Aside0.mk (below_step (by exact Lz2 HB GE658 GE675) hb); (try clear hb); (try clear ho0)))
                     (try simp only [Act.put, List.setIfInBounds_toArray, List.set_cons_zero, List.set_cons_succ])
                     go_cut [108] (fun v108 wc => ∃ (kq : Nat) (x108_82 : Bool), v108 = .bool x108_82 ∧ Aside0 (laws_FnExactRepresentativeOf.j10 kq t699 t698 x108_82 = some r) ∧ Aside0 (kq ≤ kj77) ∧ Aside0 (Kd.R (Kd.int .i64) 3 wc w.heap.size (fun _ => True) (.slice Ao75 t699.length co75) t699) ∧ Aside0 (Kd.R k70 70 wc w.heap.size (fun _ => True) (.slice Ao29 t694.length co29) t694) ∧ Aside0 (wc.heap[gb658]? = some (.cells #[.int .i64 a0_0, (.slice A0_1 l0_1.length c0_1)] 37 (0, 0))) ∧ Aside0 (wc.heap[gb675]? = some (.cells #[.int .i64 t671, (.slice Ao29 t694.length co29)] 25 (0, 0))) ∧ Aside0 (Below w.heap.size w wc))
                     case first =>
                      have H := HC83.out
                      clear HC83
                      replace H := Option.bind_eq_some_iff.mp H
                      obtain ⟨t712, A910, H⟩ := H
                      replace H : (if t712 = true then (laws_FnExactRepresentativeOf.j10 kj77 t699 t698 (t711 != t670)) else (laws_FnExactRepresentativeOf.j10 kj77 t699 t698 true)) = some r := H
                      have A91 := Aside0.mk A910
                      clear A910
                      by_cases c92 : t712 = true
                      ·subst c92
                       have H1 : (laws_FnExactRepresentativeOf.j10 kj77 t699 t698 (t711 != t670)) = some r := by rw [if_pos rfl] at H; exact H
                       clear H
                       have H := H1
                       clear H1
                       have H' := Aside0.mk H
                       clear H
                       obtain ⟨Ao93, co93, eo93⟩ := Kd.R_slice HO710.out
                       subst eo93
                       obtain ⟨Ao94, co94, eo94⟩ := Kd.R_slice HO_6.out
                       subst eo94
                       go_wp2_with (first | ((with_reducible refine gate_callee (f := 28) rfl ?_); refine goesM_ (some 102) rfl rfl Try.func28 (by kernel_rfl) rfl #[.slice Ao93 t708.length co93, .slice Ao94 t667.length co94] rfl ?_; (with_reducible refine (laws_eqIntS.calls kj77 _ _ t708 _ _ t667 true _ ?side1 ?side2 ?side3 ?side4 A91.out).mono ?_); (case side1 => exact Cz ((Kd.R_reads' HO710.out).2.2)); (case side2 => exact (Kd.R_reads' HO710.out).2.1); (case side3 => exact Cz ((Kd.R_reads' HO_6.out).2.2)); (case side4 => exact (Kd.R_reads' HO_6.out).2.1); rintro e w' ⟨rfl, ⟨nd, rfl⟩⟩; refine ⟨_, rfl, ?_⟩))
                       go_meet
                       case rel => exact ⟨_, ((t711 != t670)), (by first | rfl | (simp; done) | (simp [*]; done)), H', ⟨by have := HJ2.out; have := HJ6.out; have := HJ16.out; have := HJ39.out; have := HJ43.out; have := HJ51.out; have := HJ57.out; have := HJ69.out; have := HJ73.out; have := HJ77.out; first | omega | exact Nat.le_refl _⟩, ⟨by (try simp only [hl676001_57]); (try simp only [hl10_73]); (with_reducible repeat (first | apply Kd.R_alloc | apply Kd.R_drewN | apply Kd.R_drew)); exact Kd.R_mono HO_10.out (fun _ hk => trivial)⟩, ⟨by (try simp only [hl676001_57]); (try simp only [hl10_73]); (with_reducible repeat (first | apply Kd.R_alloc | apply Kd.R_drewN | apply Kd.R_drew)); exact Kd.R_mono HO_676001.out (fun _ hk => trivial)⟩, ⟨by (try simp only [hl676001_57]); (try simp only [hl10_73]); exact Bz BK658⟩, ⟨by (try simp only [hl676001_57]); (try simp only [hl10_73]); exact Bz BK675⟩, ⟨by exact Lz2 HB GE658 GE675⟩⟩
                      replace c92 := Bool.eq_false_iff.mpr c92
                      subst c92
                      have H1 : (laws_FnExactRepresentativeOf.j10 kj77 t699 t698 true) = some r := by rw [if_neg (show ¬ (false = true) by decide)] at H; exact H
                      clear H
                      have H := H1
                      clear H1
                      have H' := Aside0.mk H
                      clear H
                      obtain ⟨Ao95, co95, eo95⟩ := Kd.R_slice HO710.out
                      subst eo95
                      obtain ⟨Ao96, co96, eo96⟩ := Kd.R_slice HO_6.out
                      subst eo96
                      go_wp2_with (first | ((with_reducible refine gate_callee (f := 28) rfl ?_); refine goesM_ (some 102) rfl rfl Try.func28 (by kernel_rfl) rfl #[.slice Ao95 t708.length co95, .slice Ao96 t667.length co96] rfl ?_; (with_reducible refine (laws_eqIntS.calls kj77 _ _ t708 _ _ t667 false _ ?side1 ?side2 ?side3 ?side4 A91.out).mono ?_); (case side1 => exact Cz ((Kd.R_reads' HO710.out).2.2)); (case side2 => exact (Kd.R_reads' HO710.out).2.1); (case side3 => exact Cz ((Kd.R_reads' HO_6.out).2.2)); (case side4 => exact (Kd.R_reads' HO_6.out).2.1); rintro e w' ⟨rfl, ⟨nd, rfl⟩⟩; refine ⟨_, rfl, ?_⟩))
                      go_meet
                      case rel => exact ⟨_, (true), (by first | rfl | (simp; done) | (simp [*]; done)), H', ⟨by have := HJ2.out; have := HJ6.out; have := HJ16.out; have := HJ39.out; have := HJ43.out; have := HJ51.out; have := HJ57.out; have := HJ69.out; have := HJ73.out; have := HJ77.out; first | omega | exact Nat.le_refl _⟩, ⟨by (try simp only [hl676001_57]); (try simp only [hl10_73]); (with_reducible repeat (first | apply Kd.R_alloc | apply Kd.R_drewN | apply Kd.R_drew)); exact Kd.R_mono HO_10.out (fun _ hk => trivial)⟩, ⟨by (try simp only [hl676001_57]); (try simp only [hl10_73]); (with_reducible repeat (first | apply Kd.R_alloc | apply Kd.R_drewN | apply Kd.R_drew)); exact Kd.R_mono HO_676001.out (fun _ hk => trivial)⟩, ⟨by (try simp only [hl676001_57]); (try simp only [hl10_73]); exact Bz BK658⟩, ⟨by (try simp only [hl676001_57]); (try simp only [hl10_73]); exact Bz BK675⟩, ⟨by exact Lz2 HB GE658 GE675⟩⟩
                     case rest =>
                      clear HC83
                      try clear c1
                      try clear c5
                      try clear c5b0
                      try clear c5b1
                      try clear c10
                      try clear c10b0
                      try clear c35
                      try clear c41
                      try clear c49
                      try clear c55
                      try clear c63
                      try clear c63b0
                      try clear c65
                      try clear c71
                      try clear c77
                      try clear c77b0
                      try clear c79
                      try clear c79b0
                      try clear c79b1
                      try clear c92
                      obtain ⟨kq, x108_82, rfl, HA, HJ82, HO_10, HO_676001, BK658, BK675, HB⟩ := hcut
                      cases kq with
                      | zero => exact absurd HA.out (by simp [laws_FnExactRepresentativeOf.j10])
                      | succ kj82 =>
                       have H := HA.out
                       clear HA
                       simp only [laws_FnExactRepresentativeOf.j10] at H
                       have HC97 := Aside0.mk H
                       clear H
                       go_upto_if 108 with (fail)
                       go_cut [] (fun wc => ∃ (kq : Nat), Aside0 (laws_FnExactRepresentativeOf.j11 kq t699 t698 = some r) ∧ Aside0 (kq ≤ kj82) ∧ Aside0 (Kd.R (Kd.int .i64) 3 wc w.heap.size (fun _ => True) (.slice Ao75 t699.length co75) t699) ∧ Aside0 (Kd.R k70 70 wc w.heap.size (fun _ => True) (.slice Ao29 t694.length co29) t694) ∧ Aside0 (wc.heap[gb658]? = some (.cells #[.int .i64 a0_0, (.slice A0_1 l0_1.length c0_1)] 37 (0, 0))) ∧ Aside0 (wc.heap[gb675]? = some (.cells #[.int .i64 t671, (.slice Ao29 t694.length co29)] 25 (0, 0))) ∧ Aside0 (Below w.heap.size w wc))
                       case first =>
                        have H := HC97.out
                        clear HC97
                        by_cases c98 : x108_82 = true
                        ·subst c98
                         have H1 : (some false) = some r := by rw [if_pos rfl] at H; exact H
                         clear H
                         have H := H1
                         clear H1
                         obtain rfl := Option.some.inj H
                         go_wp2
                         go_ret
                         exact ⟨by first | rfl | (simp [errW_none, errW_some] <;> rfl) | (simp [*, errW_none, errW_some] <;> rfl), by exact Lz2 HB GE658 GE675⟩
                        replace c98 := Bool.eq_false_iff.mpr c98
                        subst c98
                        have H1 : (laws_FnExactRepresentativeOf.j11 kj82 t699 t698) = some r := by rw [if_neg (show ¬ (false = true) by decide)] at H; exact H
                        clear H
                        have H := H1
                        clear H1
                        have H' := Aside0.mk H
                        clear H
                        go_wp2
                        go_meet
                        case rel => exact ⟨_, H', ⟨by have := HJ2.out; have := HJ6.out; have := HJ16.out; have := HJ39.out; have := HJ43.out; have := HJ51.out; have := HJ57.out; have := HJ69.out; have := HJ73.out; have := HJ77.out; have := HJ82.out; first | omega | exact Nat.le_refl _⟩, ⟨by (try simp only [hl676001_57]); (try simp only [hl10_73]); exact Rz HO_10⟩, ⟨by (try simp only [hl676001_57]); (try simp only [hl10_73]); exact Rz HO_676001⟩, ⟨by (try simp only [hl676001_57]); (try simp only [hl10_73]); exact Bz BK658⟩, ⟨by (try simp only [hl676001_57]); (try simp only [hl10_73]); exact Bz BK675⟩, ⟨by exact Lz2 HB GE658 GE675⟩⟩
                       case rest =>
                        clear HC97
                        try clear c1
                        try clear c5
                        try clear c5b0
                        try clear c5b1
                        try clear c10
                        try clear c10b0
                        try clear c35
                        try clear c41
                        try clear c49
                        try clear c55
                        try clear c63
                        try clear c63b0
                        try clear c65
                        try clear c71
                        try clear c77
                        try clear c77b0
                        try clear c79
                        try clear c79b0
                        try clear c79b1
                        try clear c92
                        try clear c98
                        obtain ⟨kq, HA, HJ96, HO_10, HO_676001, BK658, BK675, HB⟩ := hcut
                        cases kq with
                        | zero => exact absurd HA.out (by simp [laws_FnExactRepresentativeOf.j11])
                        | succ kj96 =>
                         have H := HA.out
                         clear HA
                         simp only [laws_FnExactRepresentativeOf.j11] at H
                         replace H := Option.bind_eq_some_iff.mp H
                         obtain ⟨t713, A990, H⟩ := H
                         replace H : (if t713 < 0 then (some false) else (laws_FnExactRepresentativeOf.j12 kj96 t698 t713)) = some r := H
                         have A99 := Aside0.mk A990
                         clear A990
                         have HC100 := Aside0.mk H
                         clear H
                         go_upto_if 113 with (first | ((with_reducible refine gate_callee (f := 32) rfl ?_); refine goesM_ (some 111) rfl rfl Try.func32 (by kernel_rfl) rfl #[.slice Ao75 t699.length co75, .int .i64 1] rfl ?_; (with_reducible refine (laws_heldIntS.calls kj96 _ _ t699 1 t713 _ ?side1 ?side2 A99.out).mono ?_); (case side1 => exact Cz ((Kd.R_reads' HO_10.out).2.2)); (case side2 => exact (Kd.R_reads' HO_10.out).2.1); rintro e w' ⟨rfl, ⟨nd, rfl⟩⟩; refine ⟨_, rfl, ?_⟩))
                         (try simp only [Act.put, List.setIfInBounds_toArray, List.set_cons_zero, List.set_cons_succ])
                         go_cut [] (fun wc => ∃ (kq : Nat), Aside0 (laws_FnExactRepresentativeOf.j12 kq t698 t713 = some r) ∧ Aside0 (kq ≤ kj96) ∧ Aside0 (Kd.R k70 70 wc w.heap.size (fun _ => True) (.slice Ao29 t694.length co29) t694) ∧ Aside0 (wc.heap[gb658]? = some (.cells #[.int .i64 a0_0, (.slice A0_1 l0_1.length c0_1)] 37 (0, 0))) ∧ Aside0 (wc.heap[gb675]? = some (.cells #[.int .i64 t671, (.slice Ao29 t694.length co29)] 25 (0, 0))) ∧ Aside0 (Below w.heap.size w wc))
                         case first =>
                          have H := HC100.out
                          clear HC100
                          by_cases c101 : t713 < 0
                          ·rw [if_pos c101] at H
                           have c101b0 : decide (t713 < 0) = true := decide_eq_true c101
                           clear c101
                           (first | rw [c101b0] | (simp only [i64_w, i32_w]; rw [c101b0]) | skip)
                           obtain rfl := Option.some.inj H
                           go_wp2
                           go_ret
                           exact ⟨by first | rfl | (simp [errW_none, errW_some] <;> rfl) | (simp [*, errW_none, errW_some] <;> rfl), by exact Lz2 HB GE658 GE675⟩
                          rw [if_neg c101] at H
                          have c101b0 : decide (t713 < 0) = false := decide_eq_false c101
                          clear c101
                          (first | rw [c101b0] | (simp only [i64_w, i32_w]; rw [c101b0]) | skip)
                          have H' := Aside0.mk H
                          clear H
                          go_wp2
                          go_meet
                          case rel => exact ⟨_, H', ⟨by have := HJ2.out; have := HJ6.out; have := HJ16.out; have := HJ39.out; have := HJ43.out; have := HJ51.out; have := HJ57.out; have := HJ69.out; have := HJ73.out; have := HJ77.out; have := HJ82.out; have := HJ96.out; first | omega | exact Nat.le_refl _⟩, ⟨by (try simp only [hl676001_57]); (try simp only [hl10_73]); exact Rz HO_676001⟩, ⟨by (try simp only [hl676001_57]); (try simp only [hl10_73]); exact Bz BK658⟩, ⟨by (try simp only [hl676001_57]); (try simp only [hl10_73]); exact Bz BK675⟩, ⟨by exact Lz2 HB GE658 GE675⟩⟩
                         case rest =>
                          clear HC100
                          try clear c1
                          try clear c5
                          try clear c5b0
                          try clear c5b1
                          try clear c10
                          try clear c10b0
                          try clear c35
                          try clear c41
                          try clear c49
                          try clear c55
                          try clear c63
                          try clear c63b0
                          try clear c65
                          try clear c71
                          try clear c77
                          try clear c77b0
                          try clear c79
                          try clear c79b0
                          try clear c79b1
                          try clear c92
                          try clear c98
                          try clear c101
                          try clear c101b0
                          obtain ⟨kq, HA, HJ99, HO_676001, BK658, BK675, HB⟩ := hcut
                          cases kq with
                          | zero => exact absurd HA.out (by simp [laws_FnExactRepresentativeOf.j12])
                          | succ kj99 =>
                           have H := HA.out
                           clear HA
                           simp only [laws_FnExactRepresentativeOf.j12] at H
                           by_cases c102 : t713 = t698
                           ·rw [if_pos c102] at H
                            have c102b0 : (t713 == t698) = true := beq_iff_eq.mpr c102
                            have c102b1 : (t713 != t698) = false := bne_eq_false_iff_eq.mpr c102
                            clear c102
                            obtain rfl := Option.some.inj H
                            go_wp2
                            go_ret
                            exact ⟨by first | rfl | (simp [errW_none, errW_some] <;> rfl) | (simp [*, errW_none, errW_some] <;> rfl), by exact Lz2 HB GE658 GE675⟩
                           rw [if_neg c102] at H
                           have c102b0 : (t713 == t698) = false := beq_eq_false_iff_ne.mpr c102
                           have c102b1 : (t713 != t698) = true := bne_iff_ne.mpr c102
                           obtain rfl := Option.some.inj H
                           go_wp2
                           go_ret
                           exact ⟨by first | rfl | (simp [errW_none, errW_some] <;> rfl) | (simp [*, errW_none, errW_some] <;> rfl), by exact Lz2 HB GE658 GE675⟩
end Go.Proofs.Ytnebapnfkolflaa.P
end
section
namespace Go.Proofs.Ytnebapnfkolflaa.Pure
open Go.RowKit Go.Proofs.Ytnebapnfkolflaa.P Go.Proofs.YtnebapnfkolflaaW.PrintWords Go.Proofs.YtnebapnfkolflaaW.PrintLast Go.Proofs.YtnebapnfkolflaaW.PrintMore
def StatFnExactRepresentativeOf : Prop := ∀ (a0_0 : Int) (l0_1 : List (S95)) (l1 : List (Int)), ((Lit.int .i64 a0_0).wf = true ∧ (l0_1.length ≤ maxLen ∧ ∀ x4 ∈ l0_1, (Lit.int .i64 x4.f0).wf = true ∧ (Lit.int .i64 x4.f1).wf = true)) → (l1.length ≤ maxLen ∧ ∀ x2 ∈ l1, (Lit.int .i64 x2).wf = true) → ∃ k, laws_FnExactRepresentativeOf.f k a0_0 l0_1 l1 = some true
end Go.Proofs.Ytnebapnfkolflaa.Pure
end
section
set_option linter.unusedVariables false
set_option linter.unusedSimpArgs false
namespace Go.Proofs.Ytnebapnfkolflaa.Pure
open Go.RowKit Go.Proofs.Ytnebapnfkolflaa.P Go.Proofs.YtnebapnfkolflaaW.PrintWords Go.Proofs.YtnebapnfkolflaaW.PrintLast Go.Proofs.YtnebapnfkolflaaW.PrintMore Go.Proofs.Ytnebapnfkolflaa.Base Go.Proofs.Ytnebapnfkolflaa.Reduce Go.Proofs.Ytnebapnfkolflaa.Loops Go.Proofs.Ytnebapnfkolflaa.Bits
theorem representative_both (n : Int) (es : List S70) (d : List Int) (hl : es.length < 4611686018427387904) (hd : d.length < 4611686018427387904) :
    ∃ (r : List Int) (q : Bool), Ev (fun k => impl_RepresentativeOf.f k n es d) (r, q) ∧ Ev (fun k => spec_RepresentativeOf.f k n es d) (r, q) ∧ r.length ≤ 6 ∧
      (q = true → DivP n es d ∧ (r.length : Int) = n ∧ ∃ (m u : Nat) (s : List Int), n = m ∧ (0 : Int) = u ∧ Start m es d u ∧ s.length = m ∧ s.getD u 0 = 0 ∧ Red m (mE m es) u (XF m es d s) ∧ (∀ w, w < m → r.getD w 0 = XF m es d s w)) := by
  obtain ⟨r, q, h1, h2, h3, h4⟩ := reducedOf_both n es d 0 hl hd
  simp only [impl_RepresentativeOf.f, spec_RepresentativeOf.f]
  exact ⟨r, q, Ev.bind h1 (Ev.now _), Ev.bind h2 (Ev.now _), h3, h4⟩
end Go.Proofs.Ytnebapnfkolflaa.Pure
end
section
set_option linter.unusedVariables false
set_option linter.unusedSimpArgs false
namespace Go.Proofs.Ytnebapnfkolflaa.Pure
open Go.RowKit Go.Proofs.Ytnebapnfkolflaa.P Go.Proofs.YtnebapnfkolflaaW.PrintWords Go.Proofs.YtnebapnfkolflaaW.PrintLast Go.Proofs.YtnebapnfkolflaaW.PrintMore Go.Proofs.Ytnebapnfkolflaa.Base Go.Proofs.Ytnebapnfkolflaa.Reduce Go.Proofs.Ytnebapnfkolflaa.Loops Go.Proofs.Ytnebapnfkolflaa.Bits
theorem FnExactRepresentativeOf : StatFnExactRepresentativeOf := by
  intro n l d1 ⟨_, hl, _⟩ ⟨_, _⟩
  refine Ev.rounds (r := true) ?_
  unfold laws_FnExactRepresentativeOf.f
  by_cases hd1 : (d1.length : Int) > 1048576
  · repeat (first
      | exact Ev.now _
      | dsimp only
      | with_reducible refine ev_ift (by first | rfl | omega) ?_
      | with_reducible refine ev_ifn (by omega) ?_
      | with_reducible refine ev_ifb ?_
      | with_reducible refine ev_ifnn ?_
      | with_reducible refine ev_iff ?_
      | (refine ev_succ ?_; simp only [if_true, laws_FnExactRepresentativeOf.j0, laws_FnExactRepresentativeOf.j1, laws_FnExactRepresentativeOf.j2, laws_FnExactRepresentativeOf.j3, laws_FnExactRepresentativeOf.j4, laws_FnExactRepresentativeOf.j5, laws_FnExactRepresentativeOf.j6, laws_FnExactRepresentativeOf.j7, laws_FnExactRepresentativeOf.j8, laws_FnExactRepresentativeOf.j9, laws_FnExactRepresentativeOf.j10, laws_FnExactRepresentativeOf.j11, laws_FnExactRepresentativeOf.j12])
      )
  have hs := szGraph_eq n l hl 1048576 (by omega) (by omega)
  by_cases h : (l.length : Int) ≤ 1048576
  · have es : Ev (fun _ : Nat => laws_szGraph.f n l 1048576) (1048576 - (l.length : Int)) := ev_const fun _ => by rw [hs, if_pos h]
    have tg := toGraph_ev n l (by omega)
    have hm := map_cv_length l
    have hL : (l.map cvE).length < 4611686018427387904 := by omega
    have hLd1 : d1.length < 4611686018427387904 := by omega
    have td1 := toIntS_ev d1 (by omega)
    have ed1 := eqIntS_ev d1 hLd1
    obtain ⟨r, q, g1, g2, hr, _⟩ := representative_both n (l.map cvE) d1 hL hLd1
    have eg := eqGraph_ev n (l.map cvE) hL
    have er := eqIntS_ev r (by omega)
    obtain ⟨y, my⟩ := markGraph_ev n (l.map cvE) (by omega)
    have md1 := markIntS_ev (2 * ((l.map cvE).length : Int) + 1) (by omega) d1 (by omega)
    have mr := markIntS_ev 1 (by omega) r (by omega)
    have he := heldIntS_ev r.length (by omega)
    repeat (first
      | exact Ev.now _
      | dsimp only
      | (with_reducible refine Ev.bind es ?_) | (with_reducible refine Ev.bind tg ?_) | (with_reducible refine Ev.bind td1 ?_) | (with_reducible refine Ev.bind ed1 ?_) | (with_reducible refine Ev.bind g1 ?_) | (with_reducible refine Ev.bind g2 ?_) | (with_reducible refine Ev.bind eg ?_) | (with_reducible refine Ev.bind er ?_) | (with_reducible refine Ev.bind my ?_) | (with_reducible refine Ev.bind md1 ?_) | (with_reducible refine Ev.bind mr ?_) | (with_reducible refine Ev.bind he ?_)
      | with_reducible refine ev_ift (by first | rfl | omega) ?_
      | with_reducible refine ev_ifn (by omega) ?_
      | with_reducible refine ev_ifb ?_
      | with_reducible refine ev_ifnn ?_
      | with_reducible refine ev_iff ?_
      | (refine ev_succ ?_; simp only [if_true, laws_FnExactRepresentativeOf.j0, laws_FnExactRepresentativeOf.j1, laws_FnExactRepresentativeOf.j2, laws_FnExactRepresentativeOf.j3, laws_FnExactRepresentativeOf.j4, laws_FnExactRepresentativeOf.j5, laws_FnExactRepresentativeOf.j6, laws_FnExactRepresentativeOf.j7, laws_FnExactRepresentativeOf.j8, laws_FnExactRepresentativeOf.j9, laws_FnExactRepresentativeOf.j10, laws_FnExactRepresentativeOf.j11, laws_FnExactRepresentativeOf.j12])
      )
  · have es : Ev (fun _ : Nat => laws_szGraph.f n l 1048576) (-1) := ev_const fun _ => by rw [hs, if_neg h]
    repeat (first
      | exact Ev.now _
      | dsimp only
      | (with_reducible refine Ev.bind es ?_)
      | with_reducible refine ev_ift (by first | rfl | omega) ?_
      | with_reducible refine ev_ifn (by omega) ?_
      | with_reducible refine ev_ifb ?_
      | with_reducible refine ev_ifnn ?_
      | with_reducible refine ev_iff ?_
      | (refine ev_succ ?_; simp only [if_true, laws_FnExactRepresentativeOf.j0, laws_FnExactRepresentativeOf.j1, laws_FnExactRepresentativeOf.j2, laws_FnExactRepresentativeOf.j3, laws_FnExactRepresentativeOf.j4, laws_FnExactRepresentativeOf.j5, laws_FnExactRepresentativeOf.j6, laws_FnExactRepresentativeOf.j7, laws_FnExactRepresentativeOf.j8, laws_FnExactRepresentativeOf.j9, laws_FnExactRepresentativeOf.j10, laws_FnExactRepresentativeOf.j11, laws_FnExactRepresentativeOf.j12])
      )
end Go.Proofs.Ytnebapnfkolflaa.Pure
end
