/- Functions of the program as plain Lean functions and that the machine's calls answer as they do, the words of the print that these use, lemmas and plain proofs of laws. Put together by a program of this work that leaves out what nothing uses; Lean checks it. -/
import Derived.Test.YtnebapnfkolflaaG22d13e2a39
import Derived.Test.YtnebapnfkolflaaG1badb9adf4
import Derived.Test.YtnebapnfkolflaaG5b76c7e540
import Derived.Test.YtnebapnfkolflaaGc0925e2371
import Derived.Test.YtnebapnfkolflaaG75207c7d9f
import Derived.Test.YtnebapnfkolflaaGf176365a05
section
namespace Go.Proofs.Ytnebapnfkolflaa.P
open Go.RowKit Go.Proofs.YtnebapnfkolflaaW.PrintWords Go.Proofs.YtnebapnfkolflaaW.PrintLast Go.Proofs.YtnebapnfkolflaaW.PrintMore
attribute [local go_sem] max2_int min2_int max_two min_two max_three min_three max_four min_four
set_option linter.unusedVariables false
set_option linter.unusedSimpArgs false
def spec_IsPrincipal.f (k : Nat) (a0_0 : Int) (l0_1 : List (S70)) (l1 : List Int) : Option (Bool) := (spec_DivisorOk.f k a0_0 l0_1 l1).bind fun t787 => (if t787 = true then (if 0 ≤ a0_0 then (if (a0_0 : Int).toNat ≤ 35184372088832 then ((spec_AreEquivalent.f k a0_0 l0_1 l1 (List.replicate (a0_0 : Int).toNat 0)).bind fun t791 => (some t791)) else (none)) else (none)) else (some false))
def spec_IsPrincipal.T1 : Bool × List (List Nat × List Nat) := (true, [([], []), ([], []), ([0, 1], [0, 1]), ([2, 2], [2]), ([3], [3]), ([3], [3]), ([3], [3]), ([6, 3], [3, 6]), ([7, 7, 3], [3, 7]), ([4, 5, 8, 3, 3], [3, 4, 5, 8]), ([3, 9], [3, 9]), ([10, 9, 0, 1, 2, 3, 4, 5, 6, 7, 8, 9, 10], [10])])
def spec_IsPrincipal.B1 : List Nat := [0, 0, 3, 7, 15, 15, 15, 79, 207, 511, 1023, 2047]
theorem spec_IsPrincipal.tab1 : rtab .any (opsOf Try.f49 1) = spec_IsPrincipal.T1 := by kernel_rfl
theorem spec_IsPrincipal.bits1 : waitsOk spec_IsPrincipal.T1.2 spec_IsPrincipal.B1 = true := by kernel_rfl
set_option maxHeartbeats 8000000 in
set_option maxRecDepth 100000 in
theorem spec_IsPrincipal.calls (k : Nat) (a0_0 : Int) (A0_1 : Option Addr) (c0_1 : Nat) (l0_1 : List (S70)) (A1 : Option Addr) (c1 : Nat) (l1 : List Int) (r : Bool) (w : World) (hr0_1 : Kd.C k70 w A0_1 l0_1.length l0_1) (hc0_1 : l0_1.length ≤ c0_1) (hr1 : Kd.C (Kd.int .i64) w A1 l1.length l1) (hc1 : l1.length ≤ c1) (h : spec_IsPrincipal.f k a0_0 l0_1 l1 = some r) :
  Calls Try.prog 49 #[.agg #[.int .i64 a0_0, .slice A0_1 l0_1.length c0_1], .slice A1 l1.length c1] w fun e w' => e = .returned (.bool r) ∧ Below w.heap.size w w' := by
 have hu25 := Try.underlying25
 have HR0_1 := Aside0.mk hr0_1
 have HC0_1 := Aside0.mk hc0_1
 clear hr0_1 hc0_1
 have HR1 := Aside0.mk hr1
 have HC1 := Aside0.mk hc1
 clear hr1 hc1
 have HB := Aside0.mk (Below.refl w.heap.size w)
 have H : ((spec_DivisorOk.f k a0_0 l0_1 l1).bind fun t787 => (if t787 = true then (if 0 ≤ a0_0 then (if (a0_0 : Int).toNat ≤ 35184372088832 then ((spec_AreEquivalent.f k a0_0 l0_1 l1 (List.replicate (a0_0 : Int).toNat 0)).bind fun t791 => (some t791)) else (none)) else (none)) else (some false))) = some r := h
 clear h
 replace H := Option.bind_eq_some_iff.mp H
 obtain ⟨t787, A30, H⟩ := H
 replace H : (if t787 = true then (if 0 ≤ a0_0 then (if (a0_0 : Int).toNat ≤ 35184372088832 then ((spec_AreEquivalent.f k a0_0 l0_1 l1 (List.replicate (a0_0 : Int).toNat 0)).bind fun t791 => (some t791)) else (none)) else (none)) else (some false)) = some r := H
 have A3 := Aside0.mk A30
 clear A30
 by_cases c4 : t787 = true
 ·subst c4
  have H1 : (if 0 ≤ a0_0 then (if (a0_0 : Int).toNat ≤ 35184372088832 then ((spec_AreEquivalent.f k a0_0 l0_1 l1 (List.replicate (a0_0 : Int).toNat 0)).bind fun t791 => (some t791)) else (none)) else (none)) = some r := by rw [if_pos rfl] at H; exact H
  clear H
  have H := H1
  clear H1
  by_cases c5 : 0 ≤ a0_0
  ·rw [if_pos c5] at H
   have c5b0 := eq_true c5
   have c5b1 : decide (0 ≤ a0_0) = true := decide_eq_true c5
   clear c5
   by_cases c6 : (a0_0 : Int).toNat ≤ 35184372088832
   ·rw [if_pos c6] at H
    have c6b0 := eq_true c6
    have c6b1 : decide ((a0_0 : Int).toNat ≤ 35184372088832) = true := decide_eq_true c6
    clear c6
    obtain ⟨y788, hy788⟩ : ∃ y_ : List Int, y_ = (List.replicate (a0_0 : Int).toNat 0) := ⟨_, rfl⟩
    replace H : ((spec_AreEquivalent.f k a0_0 l0_1 l1 y788).bind fun t791 => (some t791)) = some r := by first | (rw [hy788]; with_reducible exact H) | (have H2_ := (Option.bind_some _ _).symm.trans H; rw [hy788]; with_reducible exact H2_) | (have H2_ := (Option.bind_some _ _).symm.trans H; with_reducible exact H2_) | with_reducible exact H | (rw [hy788]; exact H) | exact H
    have Ny788 := Aside0.mk hy788
    clear hy788
    replace H := Option.bind_eq_some_iff.mp H
    obtain ⟨t791, A70, H⟩ := H
    replace H : (some t791) = some r := H
    have A7 := Aside0.mk A70
    clear A70
    obtain rfl := Option.some.inj H
    go_enter Try.func49, Try.ntmps49
    try go_wp2_with (first | ((with_reducible refine gate_dst (N := 2) rfl ?_); (try (refine gate_guard (by rfl) ?_; dsimp only)); refine box_event ?hg (N := 2) ?hd (cs := #[.int .i64 a0_0, .slice A0_1 l0_1.length c0_1]) (t := 25) ?hr ?_; (case hd => rfl); (case hg => rfl); (case hr => first | (go_simp; done) | (go_simp; rfl)); intro gb786 hg w8 hbox hb; have BK786 := Aside0.mk (hbox); have GW786 := Aside0.mk ((by rw [hg]; exact (below_size (Lz HB)) : w.heap.size ≤ gb786)); have GE786 := Aside0.mk ((by rw [hg]; exact (below_size (Lz HB)) : w.heap.size ≤ gb786)); replace HB := Aside0.mk (below_step (Lz HB) hb); clear hb hbox hg))
    replace BK786 := Aside0.mk (blk_drew BK786.out)
    replace HB := Aside0.mk (below_drew1 HB.out)
    refine start_ (n := 12) (S := fun w' => w'.cell? ⟨gb786, 0, none⟩ = some (.int .i64 a0_0) ∧ w'.cell? ⟨gb786, 1, none⟩ = some (.slice A0_1 l0_1.length c0_1)) (ds := []) #[false, false, false, false, false, false, false, false, false, false, false, false] (by kernel_rfl) rfl rfl ⟨(blk_cell BK786.out 0).trans rfl, (blk_cell BK786.out 1).trans rfl⟩ (fun hHeld => ?_); refine with_tabW spec_IsPrincipal.tab1 spec_IsPrincipal.bits1 (fun HT_ HW_ => ?_)
    generalize w8.drew = w9 at BK786 HB hHeld ⊢
    refine pureT_ 1 6 HT_ ?_
    refine takeT_ 0 5 HT_ HW_ hHeld rfl (by rintro w' ⟨s0, s1⟩; go_simp; with_reducible rfl) ?_
    refine one_ (i := 2) (N := some 7) #[true, true, true, false, false, false, false, false, false, false, false, false] rfl rfl (one_of HT_.out (by kernel_rfl)) (by decide) (fun K hK => ?_)
    refine goes_ Try.func87 (by kernel_rfl) rfl #[.agg #[.int .i64 a0_0, .slice A0_1 l0_1.length c0_1], .slice A1 l1.length c1] (by rfl) rfl rfl (by (try simp only [List.map_toArray, List.map_cons, List.map_nil]); first | done | rfl | (simp only [List.length_drop, List.length_take]; rfl)) ?_
    with_reducible refine (spec_DivisorOk.calls k a0_0 _ _ l0_1 _ _ l1 true _ ?side1 ?side2 ?side3 ?side4 A3.out).mono ?_
    (case side1 => exact Cz ((Kd.C_below HR0_1.out HB.out)))
    (case side2 => exact HC0_1.out)
    (case side3 => exact Cz ((Kd.C_below HR1.out HB.out)))
    (case side4 => exact HC1.out)
    rintro e w10 ⟨rfl, hb⟩
    refine ⟨_, rfl, ?_⟩
    replace BK786 := Aside0.mk (blk_below (g := gb786) (o := .cells #[.int .i64 a0_0, .slice A0_1 l0_1.length c0_1] 25 (0, 0)) (Bz BK786) hb)
    replace HB := Aside0.mk (below_step (by exact Lz1 HB GE786) hb)
    (try clear hb)
    (try clear hb2)
    (try clear hk)
    (try clear hi)
    refine hK.out _ _ ⟨(blk_cell BK786.out 0).trans rfl, (blk_cell BK786.out 1).trans rfl⟩ (fun hHeld => ?_)
    clear hK K
    refine norm_ (a' := ?_) ?_ ?_
    rotate_left
    ·show Act.put _ (some 7) _ = _
     simp only [Act.put, List.setIfInBounds_toArray, List.set_cons_zero, List.set_cons_succ, i64_w, i32_w]
     rfl
    refine pureT_ 3 8 HT_ ?_
    refine pureT_ 5 10 HT_ ?_
    refine pureT_ 6 11 HT_ ?_
    refine takeT_ 4 9 HT_ HW_ hHeld rfl (by rintro w' ⟨s0, s1⟩; go_simp; with_reducible rfl) ?_
    refine takeT_ 7 12 HT_ HW_ hHeld rfl (by rintro w' ⟨s0, s1⟩; go_simp; with_reducible rfl) ?_
    refine one_ (i := 8) (N := some 13) #[true, true, true, true, true, true, true, true, true, false, false, false] rfl rfl (one_of HT_.out (by kernel_rfl)) (by decide) (fun K hK => ?_)
    refine Kd.R_make_step (Kd.int .i64) _ 3 (by rfl) (N := 13) rfl 27 _ _ rfl a0_0 rfl rfl Try.underlying27 (.int .i64 0) 8 info3 rfl (by decide) (by omega) 0 (ok := fun _ => True) (okp := fun _ => True) rfl (fun _ hk => hk) trivial (of_decide_eq_true (by first | (with_reducible assumption) | assumption)) (Nat.le_trans (Nat.mul_le_mul_right _ (of_decide_eq_true (by first | (with_reducible assumption) | assumption) : a0_0.toNat ≤ 35184372088832)) (by omega)) (Below.refl _ _) (Nat.le_refl _) ?_
    intro v789 w11 ho12 hb hg_ hnew_
    clear hg_ hnew_
    (first | rw [← Ny788.out] at ho12 | (simp only [Int.reduceToNat] at ho12; rw [← Ny788.out] at ho12))
    have HO790 := Aside0.mk (Kd.R_lower ho12 (below_size (by exact Lz1 HB GE786)))
    replace BK786 := Aside0.mk (blk_below (g := gb786) (o := .cells #[.int .i64 a0_0, .slice A0_1 l0_1.length c0_1] 25 (0, 0)) (Bz BK786) hb)
    replace HB := Aside0.mk (below_step (by exact Lz1 HB GE786) hb)
    clear hb ho12
    obtain ⟨Ao13, co13, eo13⟩ := Kd.R_slice HO790.out
    (first | subst eo13 | (injection eo13 with f1_ f2_ f3_; have f4_ := f1_.symm; have f5_ := f3_.symm; clear f1_ f2_ f3_; subst f4_; subst f5_))
    refine hK.out _ _ ⟨(blk_cell BK786.out 0).trans rfl, (blk_cell BK786.out 1).trans rfl⟩ (fun hHeld => ?_)
    clear hK K
    refine norm_ (a' := ?_) ?_ ?_
    rotate_left
    ·show Act.put _ (some 13) _ = _
     simp only [Act.put, List.setIfInBounds_toArray, List.set_cons_zero, List.set_cons_succ, i64_w, i32_w]
     rfl
    refine one_ (i := 9) (N := some 14) #[true, true, true, true, true, true, true, true, true, true, false, false] rfl rfl (one_of HT_.out (by kernel_rfl)) (by decide) (fun K hK => ?_)
    refine goes_ Try.func47 (by kernel_rfl) rfl #[.agg #[.int .i64 a0_0, .slice A0_1 l0_1.length c0_1], .slice A1 l1.length c1, .slice Ao13 y788.length co13] (by rfl) rfl rfl (by (try simp only [List.map_toArray, List.map_cons, List.map_nil]); first | done | rfl | (simp only [List.length_drop, List.length_take]; rfl)) ?_
    with_reducible refine (spec_AreEquivalent.calls k a0_0 _ _ l0_1 _ _ l1 _ _ y788 t791 _ ?side1 ?side2 ?side3 ?side4 ?side5 ?side6 A7.out).mono ?_
    (case side1 => exact Cz ((Kd.C_below HR0_1.out HB.out)))
    (case side2 => exact HC0_1.out)
    (case side3 => exact Cz ((Kd.C_below HR1.out HB.out)))
    (case side4 => exact HC1.out)
    (case side5 => exact Cz ((Kd.R_reads' HO790.out).2.2))
    (case side6 => exact (Kd.R_reads' HO790.out).2.1)
    rintro e w14 ⟨rfl, hb⟩
    refine ⟨_, rfl, ?_⟩
    replace HO790 := Aside0.mk (Kd.R_below (Rz HO790) hb)
    replace BK786 := Aside0.mk (blk_below (g := gb786) (o := .cells #[.int .i64 a0_0, .slice A0_1 l0_1.length c0_1] 25 (0, 0)) (Bz BK786) hb)
    replace HB := Aside0.mk (below_step (by exact Lz1 HB GE786) hb)
    (try clear hb)
    (try clear hb2)
    (try clear hk)
    (try clear hi)
    refine hK.out _ _ ⟨(blk_cell BK786.out 0).trans rfl, (blk_cell BK786.out 1).trans rfl⟩ (fun hHeld => ?_)
    clear hK K
    refine norm_ (a' := ?_) ?_ ?_
    rotate_left
    ·show Act.put _ (some 14) _ = _
     simp only [Act.put, List.setIfInBounds_toArray, List.set_cons_zero, List.set_cons_succ, i64_w, i32_w]
     rfl
    refine pureT_ 10 15 HT_ ?_
    refine pureT_ 11 4 HT_ ?_
    refine done_ (done_of HT_.out (by kernel_rfl)) ?_
    try go_wp2
    go_ret
    exact ⟨by first | rfl | (simp [errW_none, errW_some] <;> rfl) | (simp [*, errW_none, errW_some] <;> rfl), by exact Lz1 HB GE786⟩
   rw [if_neg c6] at H
   exact absurd H (by simp)
  rw [if_neg c5] at H
  exact absurd H (by simp)
 replace c4 := Bool.eq_false_iff.mpr c4
 subst c4
 have H1 : (some false) = some r := by rw [if_neg (show ¬ (false = true) by decide)] at H; exact H
 clear H
 have H := H1
 clear H1
 obtain rfl := Option.some.inj H
 go_enter Try.func49, Try.ntmps49
 try go_wp2_with (first | ((with_reducible refine gate_dst (N := 2) rfl ?_); (try (refine gate_guard (by rfl) ?_; dsimp only)); refine box_event ?hg (N := 2) ?hd (cs := #[.int .i64 a0_0, .slice A0_1 l0_1.length c0_1]) (t := 25) ?hr ?_; (case hd => rfl); (case hg => rfl); (case hr => first | (go_simp; done) | (go_simp; rfl)); intro gb786 hg w15 hbox hb; have BK786 := Aside0.mk (hbox); have GW786 := Aside0.mk ((by rw [hg]; exact (below_size (Lz HB)) : w.heap.size ≤ gb786)); have GE786 := Aside0.mk ((by rw [hg]; exact (below_size (Lz HB)) : w.heap.size ≤ gb786)); replace HB := Aside0.mk (below_step (Lz HB) hb); clear hb hbox hg))
 replace BK786 := Aside0.mk (blk_drew BK786.out)
 replace HB := Aside0.mk (below_drew1 HB.out)
 refine start_ (n := 12) (S := fun w' => w'.cell? ⟨gb786, 0, none⟩ = some (.int .i64 a0_0) ∧ w'.cell? ⟨gb786, 1, none⟩ = some (.slice A0_1 l0_1.length c0_1)) (ds := []) #[false, false, false, false, false, false, false, false, false, false, false, false] (by kernel_rfl) rfl rfl ⟨(blk_cell BK786.out 0).trans rfl, (blk_cell BK786.out 1).trans rfl⟩ (fun hHeld => ?_); refine with_tabW spec_IsPrincipal.tab1 spec_IsPrincipal.bits1 (fun HT_ HW_ => ?_)
 generalize w15.drew = w16 at BK786 HB hHeld ⊢
 refine pureT_ 1 6 HT_ ?_
 refine takeT_ 0 5 HT_ HW_ hHeld rfl (by rintro w' ⟨s0, s1⟩; go_simp; with_reducible rfl) ?_
 refine one_ (i := 2) (N := some 7) #[true, true, true, false, false, false, false, false, false, false, false, false] rfl rfl (one_of HT_.out (by kernel_rfl)) (by decide) (fun K hK => ?_)
 refine goes_ Try.func87 (by kernel_rfl) rfl #[.agg #[.int .i64 a0_0, .slice A0_1 l0_1.length c0_1], .slice A1 l1.length c1] (by rfl) rfl rfl (by (try simp only [List.map_toArray, List.map_cons, List.map_nil]); first | done | rfl | (simp only [List.length_drop, List.length_take]; rfl)) ?_
 with_reducible refine (spec_DivisorOk.calls k a0_0 _ _ l0_1 _ _ l1 false _ ?side1 ?side2 ?side3 ?side4 A3.out).mono ?_
 (case side1 => exact Cz ((Kd.C_below HR0_1.out HB.out)))
 (case side2 => exact HC0_1.out)
 (case side3 => exact Cz ((Kd.C_below HR1.out HB.out)))
 (case side4 => exact HC1.out)
 rintro e w17 ⟨rfl, hb⟩
 refine ⟨_, rfl, ?_⟩
 replace BK786 := Aside0.mk (blk_below (g := gb786) (o := .cells #[.int .i64 a0_0, .slice A0_1 l0_1.length c0_1] 25 (0, 0)) (Bz BK786) hb)
 replace HB := Aside0.mk (below_step (by exact Lz1 HB GE786) hb)
 (try clear hb)
 (try clear hb2)
 (try clear hk)
 (try clear hi)
 refine hK.out _ _ ⟨(blk_cell BK786.out 0).trans rfl, (blk_cell BK786.out 1).trans rfl⟩ (fun hHeld => ?_)
 clear hK K
 refine norm_ (a' := ?_) ?_ ?_
 rotate_left
 ·show Act.put _ (some 7) _ = _
  simp only [Act.put, List.setIfInBounds_toArray, List.set_cons_zero, List.set_cons_succ, i64_w, i32_w]
  rfl
 refine pureT_ 3 8 HT_ ?_
 refine pureU_ 4 9 HT_ ?_
 refine pureU_ 5 10 HT_ ?_
 refine pureU_ 6 11 HT_ ?_
 refine pureU_ 7 12 HT_ ?_
 refine pureU_ 8 13 HT_ ?_
 refine pureU_ 9 14 HT_ ?_
 refine pureT_ 10 15 HT_ ?_
 refine pureT_ 11 4 HT_ ?_
 refine done_ (done_of HT_.out (by kernel_rfl)) ?_
 try go_wp2
 go_ret
 exact ⟨by first | rfl | (simp [errW_none, errW_some] <;> rfl) | (simp [*, errW_none, errW_some] <;> rfl), by exact Lz1 HB GE786⟩
end Go.Proofs.Ytnebapnfkolflaa.P
end
section
namespace Go.Proofs.Ytnebapnfkolflaa.P
open Go.RowKit Go.Proofs.YtnebapnfkolflaaW.PrintWords Go.Proofs.YtnebapnfkolflaaW.PrintLast Go.Proofs.YtnebapnfkolflaaW.PrintMore
attribute [local go_sem] max2_int min2_int max_two min_two max_three min_three max_four min_four
set_option linter.unusedVariables false
set_option linter.unusedSimpArgs false
def impl_IsPrincipal.f (k : Nat) (a0_0 : Int) (l0_1 : List (S70)) (l1 : List Int) : Option (Bool) := (impl_DivisorOk.f k a0_0 l0_1 l1).bind fun t793 => (if t793 = true then (if 0 ≤ a0_0 then (if (a0_0 : Int).toNat ≤ 35184372088832 then ((impl_AreEquivalent.f k a0_0 l0_1 l1 (List.replicate (a0_0 : Int).toNat 0)).bind fun t797 => (some t797)) else (none)) else (none)) else (some false))
def impl_IsPrincipal.T1 : Bool × List (List Nat × List Nat) := (true, [([], []), ([], []), ([0, 1], [0, 1]), ([2, 2], [2]), ([3], [3]), ([3], [3]), ([3], [3]), ([6, 3], [3, 6]), ([7, 7, 3], [3, 7]), ([4, 5, 8, 3, 3], [3, 4, 5, 8]), ([3, 9], [3, 9]), ([10, 9, 0, 1, 2, 3, 4, 5, 6, 7, 8, 9, 10], [10])])
def impl_IsPrincipal.B1 : List Nat := [0, 0, 3, 7, 15, 15, 15, 79, 207, 511, 1023, 2047]
theorem impl_IsPrincipal.tab1 : rtab .any (opsOf Try.f50 1) = impl_IsPrincipal.T1 := by kernel_rfl
theorem impl_IsPrincipal.bits1 : waitsOk impl_IsPrincipal.T1.2 impl_IsPrincipal.B1 = true := by kernel_rfl
set_option maxHeartbeats 8000000 in
set_option maxRecDepth 100000 in
theorem impl_IsPrincipal.calls (k : Nat) (a0_0 : Int) (A0_1 : Option Addr) (c0_1 : Nat) (l0_1 : List (S70)) (A1 : Option Addr) (c1 : Nat) (l1 : List Int) (r : Bool) (w : World) (hr0_1 : Kd.C k70 w A0_1 l0_1.length l0_1) (hc0_1 : l0_1.length ≤ c0_1) (hr1 : Kd.C (Kd.int .i64) w A1 l1.length l1) (hc1 : l1.length ≤ c1) (h : impl_IsPrincipal.f k a0_0 l0_1 l1 = some r) :
  Calls Try.prog 50 #[.agg #[.int .i64 a0_0, .slice A0_1 l0_1.length c0_1], .slice A1 l1.length c1] w fun e w' => e = .returned (.bool r) ∧ Below w.heap.size w w' := by
 have hu25 := Try.underlying25
 have HR0_1 := Aside0.mk hr0_1
 have HC0_1 := Aside0.mk hc0_1
 clear hr0_1 hc0_1
 have HR1 := Aside0.mk hr1
 have HC1 := Aside0.mk hc1
 clear hr1 hc1
 have HB := Aside0.mk (Below.refl w.heap.size w)
 have H : ((impl_DivisorOk.f k a0_0 l0_1 l1).bind fun t793 => (if t793 = true then (if 0 ≤ a0_0 then (if (a0_0 : Int).toNat ≤ 35184372088832 then ((impl_AreEquivalent.f k a0_0 l0_1 l1 (List.replicate (a0_0 : Int).toNat 0)).bind fun t797 => (some t797)) else (none)) else (none)) else (some false))) = some r := h
 clear h
 replace H := Option.bind_eq_some_iff.mp H
 obtain ⟨t793, A30, H⟩ := H
 replace H : (if t793 = true then (if 0 ≤ a0_0 then (if (a0_0 : Int).toNat ≤ 35184372088832 then ((impl_AreEquivalent.f k a0_0 l0_1 l1 (List.replicate (a0_0 : Int).toNat 0)).bind fun t797 => (some t797)) else (none)) else (none)) else (some false)) = some r := H
 have A3 := Aside0.mk A30
 clear A30
 by_cases c4 : t793 = true
 ·subst c4
  have H1 : (if 0 ≤ a0_0 then (if (a0_0 : Int).toNat ≤ 35184372088832 then ((impl_AreEquivalent.f k a0_0 l0_1 l1 (List.replicate (a0_0 : Int).toNat 0)).bind fun t797 => (some t797)) else (none)) else (none)) = some r := by rw [if_pos rfl] at H; exact H
  clear H
  have H := H1
  clear H1
  by_cases c5 : 0 ≤ a0_0
  ·rw [if_pos c5] at H
   have c5b0 := eq_true c5
   have c5b1 : decide (0 ≤ a0_0) = true := decide_eq_true c5
   clear c5
   by_cases c6 : (a0_0 : Int).toNat ≤ 35184372088832
   ·rw [if_pos c6] at H
    have c6b0 := eq_true c6
    have c6b1 : decide ((a0_0 : Int).toNat ≤ 35184372088832) = true := decide_eq_true c6
    clear c6
    obtain ⟨y794, hy794⟩ : ∃ y_ : List Int, y_ = (List.replicate (a0_0 : Int).toNat 0) := ⟨_, rfl⟩
    replace H : ((impl_AreEquivalent.f k a0_0 l0_1 l1 y794).bind fun t797 => (some t797)) = some r := by first | (rw [hy794]; with_reducible exact H) | (have H2_ := (Option.bind_some _ _).symm.trans H; rw [hy794]; with_reducible exact H2_) | (have H2_ := (Option.bind_some _ _).symm.trans H; with_reducible exact H2_) | with_reducible exact H | (rw [hy794]; exact H) | exact H
    have Ny794 := Aside0.mk hy794
    clear hy794
    replace H := Option.bind_eq_some_iff.mp H
    obtain ⟨t797, A70, H⟩ := H
    replace H : (some t797) = some r := H
    have A7 := Aside0.mk A70
    clear A70
    obtain rfl := Option.some.inj H
    go_enter Try.func50, Try.ntmps50
    try go_wp2_with (first | ((with_reducible refine gate_dst (N := 2) rfl ?_); (try (refine gate_guard (by rfl) ?_; dsimp only)); refine box_event ?hg (N := 2) ?hd (cs := #[.int .i64 a0_0, .slice A0_1 l0_1.length c0_1]) (t := 25) ?hr ?_; (case hd => rfl); (case hg => rfl); (case hr => first | (go_simp; done) | (go_simp; rfl)); intro gb792 hg w8 hbox hb; have BK792 := Aside0.mk (hbox); have GW792 := Aside0.mk ((by rw [hg]; exact (below_size (Lz HB)) : w.heap.size ≤ gb792)); have GE792 := Aside0.mk ((by rw [hg]; exact (below_size (Lz HB)) : w.heap.size ≤ gb792)); replace HB := Aside0.mk (below_step (Lz HB) hb); clear hb hbox hg))
    replace BK792 := Aside0.mk (blk_drew BK792.out)
    replace HB := Aside0.mk (below_drew1 HB.out)
    refine start_ (n := 12) (S := fun w' => w'.cell? ⟨gb792, 0, none⟩ = some (.int .i64 a0_0) ∧ w'.cell? ⟨gb792, 1, none⟩ = some (.slice A0_1 l0_1.length c0_1)) (ds := []) #[false, false, false, false, false, false, false, false, false, false, false, false] (by kernel_rfl) rfl rfl ⟨(blk_cell BK792.out 0).trans rfl, (blk_cell BK792.out 1).trans rfl⟩ (fun hHeld => ?_); refine with_tabW impl_IsPrincipal.tab1 impl_IsPrincipal.bits1 (fun HT_ HW_ => ?_)
    generalize w8.drew = w9 at BK792 HB hHeld ⊢
    refine pureT_ 1 6 HT_ ?_
    refine takeT_ 0 5 HT_ HW_ hHeld rfl (by rintro w' ⟨s0, s1⟩; go_simp; with_reducible rfl) ?_
    refine one_ (i := 2) (N := some 7) #[true, true, true, false, false, false, false, false, false, false, false, false] rfl rfl (one_of HT_.out (by kernel_rfl)) (by decide) (fun K hK => ?_)
    refine goes_ Try.func85 (by kernel_rfl) rfl #[.agg #[.int .i64 a0_0, .slice A0_1 l0_1.length c0_1], .slice A1 l1.length c1] (by rfl) rfl rfl (by (try simp only [List.map_toArray, List.map_cons, List.map_nil]); first | done | rfl | (simp only [List.length_drop, List.length_take]; rfl)) ?_
    with_reducible refine (impl_DivisorOk.calls k a0_0 _ _ l0_1 _ _ l1 true _ ?side1 ?side2 ?side3 ?side4 A3.out).mono ?_
    (case side1 => exact Cz ((Kd.C_below HR0_1.out HB.out)))
    (case side2 => exact HC0_1.out)
    (case side3 => exact Cz ((Kd.C_below HR1.out HB.out)))
    (case side4 => exact HC1.out)
    rintro e w10 ⟨rfl, hb⟩
    refine ⟨_, rfl, ?_⟩
    replace BK792 := Aside0.mk (blk_below (g := gb792) (o := .cells #[.int .i64 a0_0, .slice A0_1 l0_1.length c0_1] 25 (0, 0)) (Bz BK792) hb)
    replace HB := Aside0.mk (below_step (by exact Lz1 HB GE792) hb)
    (try clear hb)
    (try clear hb2)
    (try clear hk)
    (try clear hi)
    refine hK.out _ _ ⟨(blk_cell BK792.out 0).trans rfl, (blk_cell BK792.out 1).trans rfl⟩ (fun hHeld => ?_)
    clear hK K
    refine norm_ (a' := ?_) ?_ ?_
    rotate_left
    ·show Act.put _ (some 7) _ = _
     simp only [Act.put, List.setIfInBounds_toArray, List.set_cons_zero, List.set_cons_succ, i64_w, i32_w]
     rfl
    refine pureT_ 3 8 HT_ ?_
    refine pureT_ 5 10 HT_ ?_
    refine pureT_ 6 11 HT_ ?_
    refine takeT_ 4 9 HT_ HW_ hHeld rfl (by rintro w' ⟨s0, s1⟩; go_simp; with_reducible rfl) ?_
    refine takeT_ 7 12 HT_ HW_ hHeld rfl (by rintro w' ⟨s0, s1⟩; go_simp; with_reducible rfl) ?_
    refine one_ (i := 8) (N := some 13) #[true, true, true, true, true, true, true, true, true, false, false, false] rfl rfl (one_of HT_.out (by kernel_rfl)) (by decide) (fun K hK => ?_)
    refine Kd.R_make_step (Kd.int .i64) _ 3 (by rfl) (N := 13) rfl 27 _ _ rfl a0_0 rfl rfl Try.underlying27 (.int .i64 0) 8 info3 rfl (by decide) (by omega) 0 (ok := fun _ => True) (okp := fun _ => True) rfl (fun _ hk => hk) trivial (of_decide_eq_true (by first | (with_reducible assumption) | assumption)) (Nat.le_trans (Nat.mul_le_mul_right _ (of_decide_eq_true (by first | (with_reducible assumption) | assumption) : a0_0.toNat ≤ 35184372088832)) (by omega)) (Below.refl _ _) (Nat.le_refl _) ?_
    intro v795 w11 ho12 hb hg_ hnew_
    clear hg_ hnew_
    (first | rw [← Ny794.out] at ho12 | (simp only [Int.reduceToNat] at ho12; rw [← Ny794.out] at ho12))
    have HO796 := Aside0.mk (Kd.R_lower ho12 (below_size (by exact Lz1 HB GE792)))
    replace BK792 := Aside0.mk (blk_below (g := gb792) (o := .cells #[.int .i64 a0_0, .slice A0_1 l0_1.length c0_1] 25 (0, 0)) (Bz BK792) hb)
    replace HB := Aside0.mk (below_step (by exact Lz1 HB GE792) hb)
    clear hb ho12
    obtain ⟨Ao13, co13, eo13⟩ := Kd.R_slice HO796.out
    (first | subst eo13 | (injection eo13 with f1_ f2_ f3_; have f4_ := f1_.symm; have f5_ := f3_.symm; clear f1_ f2_ f3_; subst f4_; subst f5_))
    refine hK.out _ _ ⟨(blk_cell BK792.out 0).trans rfl, (blk_cell BK792.out 1).trans rfl⟩ (fun hHeld => ?_)
    clear hK K
    refine norm_ (a' := ?_) ?_ ?_
    rotate_left
    ·show Act.put _ (some 13) _ = _
     simp only [Act.put, List.setIfInBounds_toArray, List.set_cons_zero, List.set_cons_succ, i64_w, i32_w]
     rfl
    refine one_ (i := 9) (N := some 14) #[true, true, true, true, true, true, true, true, true, true, false, false] rfl rfl (one_of HT_.out (by kernel_rfl)) (by decide) (fun K hK => ?_)
    refine goes_ Try.func48 (by kernel_rfl) rfl #[.agg #[.int .i64 a0_0, .slice A0_1 l0_1.length c0_1], .slice A1 l1.length c1, .slice Ao13 y794.length co13] (by rfl) rfl rfl (by (try simp only [List.map_toArray, List.map_cons, List.map_nil]); first | done | rfl | (simp only [List.length_drop, List.length_take]; rfl)) ?_
    with_reducible refine (impl_AreEquivalent.calls k a0_0 _ _ l0_1 _ _ l1 _ _ y794 t797 _ ?side1 ?side2 ?side3 ?side4 ?side5 ?side6 A7.out).mono ?_
    (case side1 => exact Cz ((Kd.C_below HR0_1.out HB.out)))
    (case side2 => exact HC0_1.out)
    (case side3 => exact Cz ((Kd.C_below HR1.out HB.out)))
    (case side4 => exact HC1.out)
    (case side5 => exact Cz ((Kd.R_reads' HO796.out).2.2))
    (case side6 => exact (Kd.R_reads' HO796.out).2.1)
    rintro e w14 ⟨rfl, hb⟩
    refine ⟨_, rfl, ?_⟩
    replace HO796 := Aside0.mk (Kd.R_below (Rz HO796) hb)
    replace BK792 := Aside0.mk (blk_below (g := gb792) (o := .cells #[.int .i64 a0_0, .slice A0_1 l0_1.length c0_1] 25 (0, 0)) (Bz BK792) hb)
    replace HB := Aside0.mk (below_step (by exact Lz1 HB GE792) hb)
    (try clear hb)
    (try clear hb2)
    (try clear hk)
    (try clear hi)
    refine hK.out _ _ ⟨(blk_cell BK792.out 0).trans rfl, (blk_cell BK792.out 1).trans rfl⟩ (fun hHeld => ?_)
    clear hK K
    refine norm_ (a' := ?_) ?_ ?_
    rotate_left
    ·show Act.put _ (some 14) _ = _
     simp only [Act.put, List.setIfInBounds_toArray, List.set_cons_zero, List.set_cons_succ, i64_w, i32_w]
     rfl
    refine pureT_ 10 15 HT_ ?_
    refine pureT_ 11 4 HT_ ?_
    refine done_ (done_of HT_.out (by kernel_rfl)) ?_
    try go_wp2
    go_ret
    exact ⟨by first | rfl | (simp [errW_none, errW_some] <;> rfl) | (simp [*, errW_none, errW_some] <;> rfl), by exact Lz1 HB GE792⟩
   rw [if_neg c6] at H
   exact absurd H (by simp)
  rw [if_neg c5] at H
  exact absurd H (by simp)
 replace c4 := Bool.eq_false_iff.mpr c4
 subst c4
 have H1 : (some false) = some r := by rw [if_neg (show ¬ (false = true) by decide)] at H; exact H
 clear H
 have H := H1
 clear H1
 obtain rfl := Option.some.inj H
 go_enter Try.func50, Try.ntmps50
 try go_wp2_with (first | ((with_reducible refine gate_dst (N := 2) rfl ?_); (try (refine gate_guard (by rfl) ?_; dsimp only)); refine box_event ?hg (N := 2) ?hd (cs := #[.int .i64 a0_0, .slice A0_1 l0_1.length c0_1]) (t := 25) ?hr ?_; (case hd => rfl); (case hg => rfl); (case hr => first | (go_simp; done) | (go_simp; rfl)); intro gb792 hg w15 hbox hb; have BK792 := Aside0.mk (hbox); have GW792 := Aside0.mk ((by rw [hg]; exact (below_size (Lz HB)) : w.heap.size ≤ gb792)); have GE792 := Aside0.mk ((by rw [hg]; exact (below_size (Lz HB)) : w.heap.size ≤ gb792)); replace HB := Aside0.mk (below_step (Lz HB) hb); clear hb hbox hg))
 replace BK792 := Aside0.mk (blk_drew BK792.out)
 replace HB := Aside0.mk (below_drew1 HB.out)
 refine start_ (n := 12) (S := fun w' => w'.cell? ⟨gb792, 0, none⟩ = some (.int .i64 a0_0) ∧ w'.cell? ⟨gb792, 1, none⟩ = some (.slice A0_1 l0_1.length c0_1)) (ds := []) #[false, false, false, false, false, false, false, false, false, false, false, false] (by kernel_rfl) rfl rfl ⟨(blk_cell BK792.out 0).trans rfl, (blk_cell BK792.out 1).trans rfl⟩ (fun hHeld => ?_); refine with_tabW impl_IsPrincipal.tab1 impl_IsPrincipal.bits1 (fun HT_ HW_ => ?_)
 generalize w15.drew = w16 at BK792 HB hHeld ⊢
 refine pureT_ 1 6 HT_ ?_
 refine takeT_ 0 5 HT_ HW_ hHeld rfl (by rintro w' ⟨s0, s1⟩; go_simp; with_reducible rfl) ?_
 refine one_ (i := 2) (N := some 7) #[true, true, true, false, false, false, false, false, false, false, false, false] rfl rfl (one_of HT_.out (by kernel_rfl)) (by decide) (fun K hK => ?_)
 refine goes_ Try.func85 (by kernel_rfl) rfl #[.agg #[.int .i64 a0_0, .slice A0_1 l0_1.length c0_1], .slice A1 l1.length c1] (by rfl) rfl rfl (by (try simp only [List.map_toArray, List.map_cons, List.map_nil]); first | done | rfl | (simp only [List.length_drop, List.length_take]; rfl)) ?_
 with_reducible refine (impl_DivisorOk.calls k a0_0 _ _ l0_1 _ _ l1 false _ ?side1 ?side2 ?side3 ?side4 A3.out).mono ?_
 (case side1 => exact Cz ((Kd.C_below HR0_1.out HB.out)))
 (case side2 => exact HC0_1.out)
 (case side3 => exact Cz ((Kd.C_below HR1.out HB.out)))
 (case side4 => exact HC1.out)
 rintro e w17 ⟨rfl, hb⟩
 refine ⟨_, rfl, ?_⟩
 replace BK792 := Aside0.mk (blk_below (g := gb792) (o := .cells #[.int .i64 a0_0, .slice A0_1 l0_1.length c0_1] 25 (0, 0)) (Bz BK792) hb)
 replace HB := Aside0.mk (below_step (by exact Lz1 HB GE792) hb)
 (try clear hb)
 (try clear hb2)
 (try clear hk)
 (try clear hi)
 refine hK.out _ _ ⟨(blk_cell BK792.out 0).trans rfl, (blk_cell BK792.out 1).trans rfl⟩ (fun hHeld => ?_)
 clear hK K
 refine norm_ (a' := ?_) ?_ ?_
 rotate_left
 ·show Act.put _ (some 7) _ = _
  simp only [Act.put, List.setIfInBounds_toArray, List.set_cons_zero, List.set_cons_succ, i64_w, i32_w]
  rfl
 refine pureT_ 3 8 HT_ ?_
 refine pureU_ 4 9 HT_ ?_
 refine pureU_ 5 10 HT_ ?_
 refine pureU_ 6 11 HT_ ?_
 refine pureU_ 7 12 HT_ ?_
 refine pureU_ 8 13 HT_ ?_
 refine pureU_ 9 14 HT_ ?_
 refine pureT_ 10 15 HT_ ?_
 refine pureT_ 11 4 HT_ ?_
 refine done_ (done_of HT_.out (by kernel_rfl)) ?_
 try go_wp2
 go_ret
 exact ⟨by first | rfl | (simp [errW_none, errW_some] <;> rfl) | (simp [*, errW_none, errW_some] <;> rfl), by exact Lz1 HB GE792⟩
end Go.Proofs.Ytnebapnfkolflaa.P
end
section
namespace Go.Proofs.Ytnebapnfkolflaa.P
open Go.RowKit Go.Proofs.YtnebapnfkolflaaW.PrintWords Go.Proofs.YtnebapnfkolflaaW.PrintLast Go.Proofs.YtnebapnfkolflaaW.PrintMore
attribute [local go_sem] max2_int min2_int max_two min_two max_three min_three max_four min_four
set_option linter.unusedVariables false
set_option linter.unusedSimpArgs false
mutual
def laws_FnExactIsPrincipal.j0 : Nat → List Int → Int → List (S95) → Option (Bool)
 | 0, _, _, _ => none
 | k + 1, x1, x799000, x799001 => (laws_szGraph.f x799000 x799001 1048576).bind fun t799 => (if t799 < 0 then (some true) else (laws_FnExactIsPrincipal.j1 k x1 x799000 x799001))
def laws_FnExactIsPrincipal.j1 : Nat → List Int → Int → List (S95) → Option (Bool)
 | 0, _, _, _ => none
 | k + 1, x1, x799000, x799001 => (laws_toGraph.f k x799000 x799001).bind fun bt800 => ((laws_toIntS.f k x1).bind fun t804 => ((spec_IsPrincipal.f k bt800.1 bt800.2 t804).bind fun t807 => ((laws_toGraph.f k x799000 x799001).bind fun bt808 => ((laws_toIntS.f k x1).bind fun t813 => ((impl_IsPrincipal.f k bt808.1 bt808.2 t813).bind fun t816 => (if (t816 != t807) = true then (some false) else (laws_FnExactIsPrincipal.j2 k x1 t813 x799000 x799001 bt808.1 bt808.2)))))))
def laws_FnExactIsPrincipal.j2 : Nat → List Int → List Int → Int → List (S95) → Int → List (S70) → Option (Bool)
 | 0, _, _, _, _, _, _ => none
 | k + 1, x1, x8, x799000, x799001, x813000, x813001 => (laws_toGraph.f k x799000 x799001).bind fun bt817 => ((laws_eqGraph.f k x813000 x813001 bt817.1 bt817.2).bind fun t821 => (if t821 = true then (laws_FnExactIsPrincipal.j3 k x1 x8) else (some false)))
def laws_FnExactIsPrincipal.j3 : Nat → List Int → List Int → Option (Bool)
 | 0, _, _ => none
 | k + 1, x1, x8 => (laws_toIntS.f k x1).bind fun t822 => ((laws_eqIntS.f k x8 t822).bind fun t825 => (if t825 = true then (some true) else (some false)))
end
def laws_FnExactIsPrincipal.f (k : Nat) (a0_0 : Int) (l0_1 : List (S95)) (l1 : List Int) : Option (Bool) := if (l1.length : Int) > 1048576 then (some true) else (laws_FnExactIsPrincipal.j0 k l1 a0_0 l0_1)
set_option maxHeartbeats 8000000 in
set_option maxRecDepth 100000 in
theorem laws_FnExactIsPrincipal.calls (k : Nat) (a0_0 : Int) (A0_1 : Option Addr) (c0_1 : Nat) (l0_1 : List (S95)) (A1 : Option Addr) (c1 : Nat) (l1 : List Int) (r : Bool) (w : World) (hr0_1 : Kd.C k95 w A0_1 l0_1.length l0_1) (hc0_1 : l0_1.length ≤ c0_1) (hr1 : Kd.C (Kd.int .i64) w A1 l1.length l1) (hc1 : l1.length ≤ c1) (h : laws_FnExactIsPrincipal.f k a0_0 l0_1 l1 = some r) :
  Calls Try.prog 14 #[.agg #[.int .i64 a0_0, .slice A0_1 l0_1.length c0_1], .slice A1 l1.length c1] w fun e w' => e = .returned (.bool r) ∧ Below w.heap.size w w' := by
 have hu37 := Try.underlying37
 have hu25 := Try.underlying25
 have HR0_1 := Aside0.mk hr0_1
 have HC0_1 := Aside0.mk hc0_1
 clear hr0_1 hc0_1
 have HR1 := Aside0.mk hr1
 have HC1 := Aside0.mk hc1
 clear hr1 hc1
 have HB := Aside0.mk (Below.refl w.heap.size w)
 have H : (if (l1.length : Int) > 1048576 then (some true) else (laws_FnExactIsPrincipal.j0 k l1 a0_0 l0_1)) = some r := h
 clear h
 have HC3 := Aside0.mk H
 clear H
 go_enter Try.func14, Try.ntmps14
 go_upto_if 12 with (first | ((with_reducible refine gate_dst (N := 2) rfl ?_); refine box_event ?hg (N := 2) ?hd (cs := #[.int .i64 a0_0, .slice A0_1 l0_1.length c0_1]) (t := 37) ?hr ?_; (case hd => rfl); (case hg => rfl); (case hr => first | (go_simp; done) | (go_simp; rfl)); intro gb798 hg w4 hbox hb; have BK798 := Aside0.mk (hbox); have GW798 := Aside0.mk ((by rw [hg]; exact (below_size (Lz HB)) : w.heap.size ≤ gb798)); have GE798 := Aside0.mk ((by rw [hg]; exact (below_size (Lz HB)) : w.heap.size ≤ gb798)); replace HB := Aside0.mk (below_step (Lz HB) hb); clear hb hbox hg))
 (try simp only [Act.put, List.setIfInBounds_toArray, List.set_cons_zero, List.set_cons_succ])
 go_cut [] (fun wc => ∃ (kq : Nat), Aside0 (laws_FnExactIsPrincipal.j0 kq l1 a0_0 l0_1 = some r) ∧ Aside0 (kq ≤ k) ∧ Aside0 (wc.heap[gb798]? = some (.cells #[.int .i64 a0_0, (.slice A0_1 l0_1.length c0_1)] 37 (0, 0))) ∧ Aside0 (Below w.heap.size w wc))
 case first =>
  have H := HC3.out
  clear HC3
  by_cases c5 : (l1.length : Int) > 1048576
  ·rw [if_pos c5] at H
   have c5b0 : decide (1048576 < (l1.length : Int)) = true := decide_eq_true c5
   have c5b1 : decide (1048576 < l1.length) = true := decide_eq_true (by omega)
   clear c5
   (first | rw [c5b0] | (simp only [i64_w, i32_w]; rw [c5b0]) | skip)
   obtain rfl := Option.some.inj H
   go_wp2
   go_ret
   exact ⟨by first | rfl | (simp [errW_none, errW_some] <;> rfl) | (simp [*, errW_none, errW_some] <;> rfl), by exact Lz1 HB GE798⟩
  rw [if_neg c5] at H
  have c5b0 : decide (1048576 < (l1.length : Int)) = false := decide_eq_false c5
  have c5b1 : decide (1048576 < l1.length) = false := decide_eq_false (by omega)
  clear c5
  (first | rw [c5b0] | (simp only [i64_w, i32_w]; rw [c5b0]) | skip)
  have H' := Aside0.mk H
  clear H
  go_wp2
  go_meet
  case rel => exact ⟨_, H', ⟨by first | omega | exact Nat.le_refl _⟩, ⟨by exact Bz BK798⟩, ⟨by exact Lz1 HB GE798⟩⟩
 case rest =>
  clear HC3
  try clear c1
  try clear c5
  try clear c5b0
  try clear c5b1
  obtain ⟨kq, HA, HJ2, BK798, HB⟩ := hcut
  cases kq with
  | zero => exact absurd HA.out (by simp [laws_FnExactIsPrincipal.j0])
  | succ kj2 =>
   have H := HA.out
   clear HA
   simp only [laws_FnExactIsPrincipal.j0] at H
   replace H := Option.bind_eq_some_iff.mp H
   obtain ⟨t799, A60, H⟩ := H
   replace H : (if t799 < 0 then (some true) else (laws_FnExactIsPrincipal.j1 kj2 l1 a0_0 l0_1)) = some r := H
   have A6 := Aside0.mk A60
   clear A60
   have HC7 := Aside0.mk H
   clear H
   have hcz8_0 : wc.cell? ⟨gb798, 0, none⟩ = some (.int .i64 a0_0) := (blk_cell BK798.out 0).trans rfl
   have hcz8_1 : wc.cell? ⟨gb798, 1, none⟩ = some (.slice A0_1 l0_1.length c0_1) := (blk_cell BK798.out 1).trans rfl
   have hfz8_0 := blk_frozen BK798.out 0
   have hfz8_1 := blk_frozen BK798.out 1
   go_upto_if 17 with (first | ((with_reducible refine gate_callee (f := 23) rfl ?_); refine goesM_ (some 15) rfl rfl Try.func23 (by kernel_rfl) rfl #[.agg #[.int .i64 a0_0, .slice A0_1 l0_1.length c0_1], .int .i64 1048576] rfl ?_; (with_reducible refine (laws_szGraph.calls a0_0 _ _ l0_1 1048576 t799 _ ?side1 ?side2 A6.out).mono ?_); (case side1 => exact Cz ((Kd.C_below HR0_1.out HB.out))); (case side2 => exact HC0_1.out); rintro e w9 ⟨rfl, hb⟩; refine ⟨_, rfl, ?_⟩; replace BK798 := Aside0.mk (blk_below (g := gb798) (o := .cells #[.int .i64 a0_0, .slice A0_1 l0_1.length c0_1] 37 (0, 0)) (Bz BK798) hb); replace HB := Aside0.mk (below_step (by exact Lz1 HB GE798) hb); (try clear hb); (try clear hb2); (try clear hk); (try clear hi)))
   (try simp only [Act.put, List.setIfInBounds_toArray, List.set_cons_zero, List.set_cons_succ])
   go_cut [] (fun wc => ∃ (kq : Nat), Aside0 (laws_FnExactIsPrincipal.j1 kq l1 a0_0 l0_1 = some r) ∧ Aside0 (kq ≤ kj2) ∧ Aside0 (wc.heap[gb798]? = some (.cells #[.int .i64 a0_0, (.slice A0_1 l0_1.length c0_1)] 37 (0, 0))) ∧ Aside0 (Below w.heap.size w wc))
   case first =>
    have H := HC7.out
    clear HC7
    by_cases c10 : t799 < 0
    ·rw [if_pos c10] at H
     have c10b0 : decide (t799 < 0) = true := decide_eq_true c10
     clear c10
     (first | rw [c10b0] | (simp only [i64_w, i32_w]; rw [c10b0]) | skip)
     obtain rfl := Option.some.inj H
     go_wp2
     go_ret
     exact ⟨by first | rfl | (simp [errW_none, errW_some] <;> rfl) | (simp [*, errW_none, errW_some] <;> rfl), by exact Lz1 HB GE798⟩
    rw [if_neg c10] at H
    have c10b0 : decide (t799 < 0) = false := decide_eq_false c10
    clear c10
    (first | rw [c10b0] | (simp only [i64_w, i32_w]; rw [c10b0]) | skip)
    have H' := Aside0.mk H
    clear H
    go_wp2
    go_meet
    case rel => exact ⟨_, H', ⟨by have := HJ2.out; first | omega | exact Nat.le_refl _⟩, ⟨by exact Bz BK798⟩, ⟨by exact Lz1 HB GE798⟩⟩
   case rest =>
    clear HC7
    try clear c1
    try clear c5
    try clear c5b0
    try clear c5b1
    try clear c10
    try clear c10b0
    obtain ⟨kq, HA, HJ6, BK798, HB⟩ := hcut
    cases kq with
    | zero => exact absurd HA.out (by simp [laws_FnExactIsPrincipal.j1])
    | succ kj6 =>
     have H := HA.out
     clear HA
     simp only [laws_FnExactIsPrincipal.j1] at H
     replace H := Option.bind_eq_some_iff.mp H
     obtain ⟨⟨t800, t801⟩, A110, H⟩ := H
     replace H : ((laws_toIntS.f kj6 l1).bind fun t804 => ((spec_IsPrincipal.f kj6 t800 t801 t804).bind fun t807 => ((laws_toGraph.f kj6 a0_0 l0_1).bind fun bt808 => ((laws_toIntS.f kj6 l1).bind fun t813 => ((impl_IsPrincipal.f kj6 bt808.1 bt808.2 t813).bind fun t816 => (if (t816 != t807) = true then (some false) else (laws_FnExactIsPrincipal.j2 kj6 l1 t813 a0_0 l0_1 bt808.1 bt808.2))))))) = some r := H
     have A11 := Aside0.mk A110
     clear A110
     replace H := Option.bind_eq_some_iff.mp H
     obtain ⟨t804, A120, H⟩ := H
     replace H : ((spec_IsPrincipal.f kj6 t800 t801 t804).bind fun t807 => ((laws_toGraph.f kj6 a0_0 l0_1).bind fun bt808 => ((laws_toIntS.f kj6 l1).bind fun t813 => ((impl_IsPrincipal.f kj6 bt808.1 bt808.2 t813).bind fun t816 => (if (t816 != t807) = true then (some false) else (laws_FnExactIsPrincipal.j2 kj6 l1 t813 a0_0 l0_1 bt808.1 bt808.2)))))) = some r := H
     have A12 := Aside0.mk A120
     clear A120
     replace H := Option.bind_eq_some_iff.mp H
     obtain ⟨t807, A130, H⟩ := H
     replace H : ((laws_toGraph.f kj6 a0_0 l0_1).bind fun bt808 => ((laws_toIntS.f kj6 l1).bind fun t813 => ((impl_IsPrincipal.f kj6 bt808.1 bt808.2 t813).bind fun t816 => (if (t816 != t807) = true then (some false) else (laws_FnExactIsPrincipal.j2 kj6 l1 t813 a0_0 l0_1 bt808.1 bt808.2))))) = some r := H
     have A13 := Aside0.mk A130
     clear A130
     replace H := Option.bind_eq_some_iff.mp H
     obtain ⟨⟨t808, t809⟩, A140, H⟩ := H
     replace H : ((laws_toIntS.f kj6 l1).bind fun t813 => ((impl_IsPrincipal.f kj6 t808 t809 t813).bind fun t816 => (if (t816 != t807) = true then (some false) else (laws_FnExactIsPrincipal.j2 kj6 l1 t813 a0_0 l0_1 t808 t809)))) = some r := H
     have A14 := Aside0.mk A140
     clear A140
     replace H := Option.bind_eq_some_iff.mp H
     obtain ⟨t813, A150, H⟩ := H
     replace H : ((impl_IsPrincipal.f kj6 t808 t809 t813).bind fun t816 => (if (t816 != t807) = true then (some false) else (laws_FnExactIsPrincipal.j2 kj6 l1 t813 a0_0 l0_1 t808 t809))) = some r := H
     have A15 := Aside0.mk A150
     clear A150
     replace H := Option.bind_eq_some_iff.mp H
     obtain ⟨t816, A160, H⟩ := H
     replace H : (if (t816 != t807) = true then (some false) else (laws_FnExactIsPrincipal.j2 kj6 l1 t813 a0_0 l0_1 t808 t809)) = some r := H
     have A16 := Aside0.mk A160
     clear A160
     have HC17 := Aside0.mk H
     clear H
     have hcz18_0 : wc.cell? ⟨gb798, 0, none⟩ = some (.int .i64 a0_0) := (blk_cell BK798.out 0).trans rfl
     have hcz18_1 : wc.cell? ⟨gb798, 1, none⟩ = some (.slice A0_1 l0_1.length c0_1) := (blk_cell BK798.out 1).trans rfl
     have hfz18_0 := blk_frozen BK798.out 0
     have hfz18_1 := blk_frozen BK798.out 1
     go_upto_if 32 with (first | ((with_reducible refine gate_callee (f := 25) rfl ?_); refine goesM_ (some 19) rfl rfl Try.func25 (by kernel_rfl) rfl #[.agg #[.int .i64 a0_0, .slice A0_1 l0_1.length c0_1]] rfl ?_; (with_reducible refine (laws_toGraph.calls kj6 a0_0 _ _ l0_1 t800 t801 _ ?side1 ?side2 A11.out).mono ?_); (case side1 => exact Cz ((Kd.C_below HR0_1.out HB.out))); (case side2 => exact HC0_1.out); rintro e w19 ⟨v802, rfl, ho0, hb⟩; refine ⟨_, rfl, ?_⟩; have HO803 := Aside0.mk (Kd.R_lower ho0 (below_size (by exact Lz1 HB GE798))); replace BK798 := Aside0.mk (blk_below (g := gb798) (o := .cells #[.int .i64 a0_0, .slice A0_1 l0_1.length c0_1] 37 (0, 0)) (Bz BK798) hb); replace HB := Aside0.mk (below_step (by exact Lz1 HB GE798) hb); (try clear hb); (try clear ho0)) | ((with_reducible refine gate_callee (f := 26) rfl ?_); refine goesM_ (some 21) rfl rfl Try.func26 (by kernel_rfl) rfl #[.slice A1 l1.length c1] rfl ?_; (with_reducible refine (laws_toIntS.calls kj6 _ _ l1 t804 _ ?side1 ?side2 A12.out).mono ?_); (case side1 => exact Cz ((Kd.C_below HR1.out HB.out))); (case side2 => exact HC1.out); rintro e w20 ⟨v805, rfl, ho0, hb⟩; refine ⟨_, rfl, ?_⟩; replace HO803 := Aside0.mk (Kd.R_below (Rz HO803) hb); have HO806 := Aside0.mk (Kd.R_lower ho0 (below_size (by exact Lz1 HB GE798))); replace BK798 := Aside0.mk (blk_below (g := gb798) (o := .cells #[.int .i64 a0_0, .slice A0_1 l0_1.length c0_1] 37 (0, 0)) (Bz BK798) hb); replace HB := Aside0.mk (below_step (by exact Lz1 HB GE798) hb); (try clear hb); (try clear ho0); obtain ⟨Ao21, co21, eo21⟩ := Kd.R_slice HO803.out; subst eo21; obtain ⟨Ao22, co22, eo22⟩ := Kd.R_slice HO806.out; subst eo22) | ((with_reducible refine gate_callee (f := 49) rfl ?_); refine goesM_ (some 22) rfl rfl Try.func49 (by kernel_rfl) rfl #[.agg #[.int .i64 t800, .slice Ao21 t801.length co21], .slice Ao22 t804.length co22] rfl ?_; (with_reducible refine (spec_IsPrincipal.calls kj6 t800 _ _ t801 _ _ t804 t807 _ ?side1 ?side2 ?side3 ?side4 A13.out).mono ?_); (case side1 => exact Cz ((Kd.R_reads' HO803.out).2.2)); (case side2 => exact (Kd.R_reads' HO803.out).2.1); (case side3 => exact Cz ((Kd.R_reads' HO806.out).2.2)); (case side4 => exact (Kd.R_reads' HO806.out).2.1); rintro e w23 ⟨rfl, hb⟩; refine ⟨_, rfl, ?_⟩; replace HO803 := Aside0.mk (Kd.R_below (Rz HO803) hb); replace HO806 := Aside0.mk (Kd.R_below (Rz HO806) hb); replace BK798 := Aside0.mk (blk_below (g := gb798) (o := .cells #[.int .i64 a0_0, .slice A0_1 l0_1.length c0_1] 37 (0, 0)) (Bz BK798) hb); replace HB := Aside0.mk (below_step (by exact Lz1 HB GE798) hb); (try clear hb); (try clear hb2); (try clear hk); (try clear hi); have hcz24_0 : w23.cell? ⟨gb798, 0, none⟩ = some (.int .i64 a0_0) := (blk_cell BK798.out 0).trans rfl; have hcz24_1 : w23.cell? ⟨gb798, 1, none⟩ = some (.slice A0_1 l0_1.length c0_1) := (blk_cell BK798.out 1).trans rfl; have hfz24_0 := blk_frozen BK798.out 0; have hfz24_1 := blk_frozen BK798.out 1) | ((with_reducible refine gate_callee (f := 25) rfl ?_); refine goesM_ (some 24) rfl rfl Try.func25 (by kernel_rfl) rfl #[.agg #[.int .i64 a0_0, .slice A0_1 l0_1.length c0_1]] rfl ?_; (with_reducible refine (laws_toGraph.calls kj6 a0_0 _ _ l0_1 t808 t809 _ ?side1 ?side2 A14.out).mono ?_); (case side1 => exact Cz ((Kd.C_below HR0_1.out HB.out))); (case side2 => exact HC0_1.out); rintro e w25 ⟨v810, rfl, ho0, hb⟩; refine ⟨_, rfl, ?_⟩; replace HO806 := Aside0.mk (Kd.R_below (Rz HO806) hb); have HO811 := Aside0.mk (Kd.R_lower (Kd.R_new' ho0 (Kd.R_lt (Rz HO803))) (below_size (by exact Lz1 HB GE798))); replace HO803 := Aside0.mk (Kd.R_elder' (Rz HO803) (Kd.R_base ho0) hb); replace BK798 := Aside0.mk (blk_below (g := gb798) (o := .cells #[.int .i64 a0_0, .slice A0_1 l0_1.length c0_1] 37 (0, 0)) (Bz BK798) hb); replace HB := Aside0.mk (below_step (by exact Lz1 HB GE798) hb); (try clear hb); (try clear ho0)) | ((with_reducible refine gate_dst (N := 7) rfl ?_); refine box_event ?hg (N := 7) ?hd (cs := #[.int .i64 0, .slice none 0 0]) (t := 25) ?hr ?_; (case hd => rfl); (case hg => rfl); (case hr => first | (go_simp; done) | (go_simp; rfl)); intro gb812 hg w26 hbox hb; replace HO803 := Aside0.mk (Kd.R_below (Rz HO803) hb); replace HO806 := Aside0.mk (Kd.R_below (Rz HO806) hb); replace HO811 := Aside0.mk (Kd.R_below (Rz HO811) hb); have BK812 := Aside0.mk (hbox); have GW812 := Aside0.mk ((by rw [hg]; exact (below_size (by exact Lz1 HB GE798)) : w.heap.size ≤ gb812)); have GE812 := Aside0.mk ((by rw [hg]; exact (below_size (by exact Lz1 HB GE798)) : w.heap.size ≤ gb812)); replace HB := Aside0.mk (below_step (by exact Lz1 HB GE798) hb); have NB798_812 := Aside0.mk ((by rw [hg]; exact Nat.ne_of_lt (blk_lt (g := gb798) (o := .cells #[.int .i64 a0_0, .slice A0_1 l0_1.length c0_1] 37 (0, 0)) (Bz BK798)) : gb798 ≠ gb812)); have NB812_798 := Aside0.mk ((by rw [hg]; exact Nat.ne_of_gt (blk_lt (g := gb798) (o := .cells #[.int .i64 a0_0, .slice A0_1 l0_1.length c0_1] 37 (0, 0)) (Bz BK798)) : gb812 ≠ gb798)); replace BK798 := Aside0.mk (blk_below (g := gb798) (o := .cells #[.int .i64 a0_0, .slice A0_1 l0_1.length c0_1] 37 (0, 0)) (Bz BK798) hb); clear hb hbox hg; have hnb27 := NB812_798.out; have hnc27 := NB798_812.out; have hcz28_0 : w26.cell? ⟨gb812, 0, none⟩ = some (.int .i64 0) := (blk_cell BK812.out 0).trans rfl; have hcz28_1 : w26.cell? ⟨gb812, 1, none⟩ = some (.slice none 0 0) := (blk_cell BK812.out 1).trans rfl; have hfz28_0 := blk_frozen BK812.out 0; have hfz28_1 := blk_frozen BK812.out 1; obtain ⟨Ao29, co29, eo29⟩ := Kd.R_slice HO811.out; subst eo29) | ((with_reducible refine gate_callee (f := 26) rfl ?_); refine goesM_ (some 26) rfl rfl Try.func26 (by kernel_rfl) rfl #[.slice A1 l1.length c1] rfl ?_; (with_reducible refine (laws_toIntS.calls kj6 _ _ l1 t813 _ ?side1 ?side2 A15.out).mono ?_); (case side1 => exact Kd.C_below HR1.out (by exact Lz2 HB GE798 GE812)); (case side2 => exact HC1.out); rintro e w30 ⟨v814, rfl, ho0, hb⟩; refine ⟨_, rfl, ?_⟩; replace HO803 := Aside0.mk (Kd.R_below (by (with_reducible repeat (first | apply Kd.R_alloc | apply Kd.R_drewN | apply Kd.R_drew)); exact (Kd.R_mono (Kd.R_far (p := ⟨gb812, 1, none⟩) (Kd.R_far (p := ⟨gb812, 0, none⟩) (Kd.R_types HO803.out BK812.out (by decide)) (fun _ hk => hk.2) (.int .i64 t808)) (fun _ hk => hk.2) (.slice Ao29 t809.length co29)) (fun _ h_ => h_.1))) hb); replace HO811 := Aside0.mk (Kd.R_below (by (with_reducible repeat (first | apply Kd.R_alloc | apply Kd.R_drewN | apply Kd.R_drew)); exact (Kd.R_mono (Kd.R_far (p := ⟨gb812, 1, none⟩) (Kd.R_far (p := ⟨gb812, 0, none⟩) (Kd.R_types HO811.out BK812.out (by decide)) (fun _ hk => hk.2) (.int .i64 t808)) (fun _ hk => hk.2) (.slice Ao29 t809.length co29)) (fun _ h_ => h_.1))) hb); have HO815 := Aside0.mk (Kd.R_lower (Kd.R_new' ho0 (Kd.R_lt (by (with_reducible repeat (first | apply Kd.R_alloc | apply Kd.R_drewN | apply Kd.R_drew)); exact (Kd.R_mono (Kd.R_far (p := ⟨gb812, 1, none⟩) (Kd.R_far (p := ⟨gb812, 0, none⟩) (Kd.R_types HO806.out BK812.out (by decide)) (fun _ hk => hk.2) (.int .i64 t808)) (fun _ hk => hk.2) (.slice Ao29 t809.length co29)) (fun _ h_ => h_.1))))) (below_size (by exact Lz2 HB GE798 GE812))); replace HO806 := Aside0.mk (Kd.R_elder' (by (with_reducible repeat (first | apply Kd.R_alloc | apply Kd.R_drewN | apply Kd.R_drew)); exact (Kd.R_mono (Kd.R_far (p := ⟨gb812, 1, none⟩) (Kd.R_far (p := ⟨gb812, 0, none⟩) (Kd.R_types HO806.out BK812.out (by decide)) (fun _ hk => hk.2) (.int .i64 t808)) (fun _ hk => hk.2) (.slice Ao29 t809.length co29)) (fun _ h_ => h_.1))) (Kd.R_base ho0) hb); replace BK798 := Aside0.mk (blk_below (g := gb798) (o := .cells #[.int .i64 a0_0, .slice A0_1 l0_1.length c0_1] 37 (0, 0)) (by (with_reducible repeat (first | refine blk_drewN ?_ _ | refine blk_drew ?_ | refine blk_alloc ?_ _)); refine blk_far ?_ NB798_812.out _; (with_reducible repeat (first | refine blk_drewN ?_ _ | refine blk_drew ?_ | refine blk_alloc ?_ _)); refine blk_far ?_ NB798_812.out _; exact Bz BK798) hb); replace BK812 := Aside0.mk (blk_below (g := gb812) (o := .cells #[.int .i64 t808, .slice Ao29 t809.length co29] 25 (0, 0)) (by (with_reducible repeat (first | refine blk_drewN ?_ _ | refine blk_drew ?_ | refine blk_alloc ?_ _)); refine blk_put (cs := #[.int .i64 t808, .slice none 0 0]) ?_ 1 _ rfl; (with_reducible repeat (first | refine blk_drewN ?_ _ | refine blk_drew ?_ | refine blk_alloc ?_ _)); refine blk_put (cs := #[.int .i64 0, .slice none 0 0]) ?_ 0 _ rfl; exact Bz BK812) hb); replace HB := Aside0.mk (below_step (by exact Lz2 HB GE798 GE812) hb); (try clear hb); (try clear ho0); have hcz31_0 : w30.cell? ⟨gb812, 0, none⟩ = some (.int .i64 t808) := (blk_cell BK812.out 0).trans rfl; have hcz31_1 : w30.cell? ⟨gb812, 1, none⟩ = some (.slice Ao29 t809.length co29) := (blk_cell BK812.out 1).trans rfl; have hfz31_0 := blk_frozen BK812.out 0; have hfz31_1 := blk_frozen BK812.out 1; obtain ⟨Ao32, co32, eo32⟩ := Kd.R_slice HO815.out; subst eo32) | ((with_reducible refine gate_callee (f := 50) rfl ?_); refine goesM_ (some 29) rfl rfl Try.func50 (by kernel_rfl) rfl #[.agg #[.int .i64 t808, .slice Ao29 t809.length co29], .slice Ao32 t813.length co32] rfl ?_; (with_reducible refine (impl_IsPrincipal.calls kj6 t808 _ _ t809 _ _ t813 t816 _ ?side1 ?side2 ?side3 ?side4 A16.out).mono ?_); (case side1 => exact Cz ((Kd.R_reads' HO811.out).2.2)); (case side2 => exact (Kd.R_reads' HO811.out).2.1); (case side3 => exact Cz ((Kd.R_reads' HO815.out).2.2)); (case side4 => exact (Kd.R_reads' HO815.out).2.1); rintro e w33 ⟨rfl, hb⟩; refine ⟨_, rfl, ?_⟩; replace HO803 := Aside0.mk (Kd.R_below (Rz HO803) hb); replace HO806 := Aside0.mk (Kd.R_below (Rz HO806) hb); replace HO811 := Aside0.mk (Kd.R_below (Rz HO811) hb); replace HO815 := Aside0.mk (Kd.R_below (Rz HO815) hb); replace BK798 := Aside0.mk (blk_below (g := gb798) (o := .cells #[.int .i64 a0_0, .slice A0_1 l0_1.length c0_1] 37 (0, 0)) (Bz BK798) hb); replace BK812 := Aside0.mk (blk_below (g := gb812) (o := .cells #[.int .i64 t808, .slice Ao29 t809.length co29] 25 (0, 0)) (Bz BK812) hb); replace HB := Aside0.mk (below_step (by exact Lz2 HB GE798 GE812) hb); (try clear hb); (try clear hb2); (try clear hk); (try clear hi)))
     (try simp only [Act.put, List.setIfInBounds_toArray, List.set_cons_zero, List.set_cons_succ])
     go_cut [] (fun wc => ∃ (kq : Nat), Aside0 (laws_FnExactIsPrincipal.j2 kq l1 t813 a0_0 l0_1 t808 t809 = some r) ∧ Aside0 (kq ≤ kj6) ∧ Aside0 (Kd.R (Kd.int .i64) 3 wc w.heap.size (fun _ => True) (.slice Ao32 t813.length co32) t813) ∧ Aside0 (Kd.R k70 70 wc w.heap.size (fun _ => True) (.slice Ao29 t809.length co29) t809) ∧ Aside0 (wc.heap[gb798]? = some (.cells #[.int .i64 a0_0, (.slice A0_1 l0_1.length c0_1)] 37 (0, 0))) ∧ Aside0 (wc.heap[gb812]? = some (.cells #[.int .i64 t808, (.slice Ao29 t809.length co29)] 25 (0, 0))) ∧ Aside0 (Below w.heap.size w wc))
     case first =>
      have H := HC17.out
      clear HC17
      by_cases c34 : (t816 != t807) = true
      ·rw [if_pos c34] at H
       have c34b0 : (t816 != t807) = true := c34
       (try (have c34b1 : decide (t816 = t807) = false := by simpa using c34))
       (try (have c34b2 : (t816 == t807) = false := by simpa using c34))
       (try (have c34b3 : ¬ (t816 = t807) := by simpa using c34))
       clear c34
       (first | rw [c34b0] | (simp only [i64_w, i32_w]; rw [c34b0]) |(simp only [c34b2, Bool.not_false, Bool.not_true]) | skip)
       obtain rfl := Option.some.inj H
       go_wp2
       go_ret
       exact ⟨by first | rfl | (simp [errW_none, errW_some] <;> rfl) | (simp [*, errW_none, errW_some] <;> rfl), by exact Lz2 HB GE798 GE812⟩
      rw [if_neg c34] at H
      have c34b0 : (t816 != t807) = false := by simpa using c34
      (try (have c34b1 : decide (t816 = t807) = true := by simpa using c34))
      (try (have c34b2 : (t816 == t807) = true := by simpa using c34))
      clear c34
      (first | rw [c34b0] | (simp only [i64_w, i32_w]; rw [c34b0]) |(simp only [c34b2, Bool.not_false, Bool.not_true]) | skip)
      have H' := Aside0.mk H
      clear H
      go_wp2
      go_meet
      case rel => exact ⟨_, H', ⟨by have := HJ2.out; have := HJ6.out; first | omega | exact Nat.le_refl _⟩, ⟨by (with_reducible repeat (first | apply Kd.R_alloc | apply Kd.R_drewN | apply Kd.R_drew)); exact Kd.R_mono HO815.out (fun _ hk => trivial)⟩, ⟨by (with_reducible repeat (first | apply Kd.R_alloc | apply Kd.R_drewN | apply Kd.R_drew)); exact Kd.R_mono HO811.out (fun _ hk => trivial)⟩, ⟨by exact Bz BK798⟩, ⟨by exact Bz BK812⟩, ⟨by exact Lz2 HB GE798 GE812⟩⟩
     case rest =>
      clear HC17
      try clear c1
      try clear c5
      try clear c5b0
      try clear c5b1
      try clear c10
      try clear c10b0
      try clear c34
      try clear c34b0
      try clear c34b1
      try clear c34b2
      obtain ⟨kq, HA, HJ16, HO_8, HO_813001, BK798, BK812, HB⟩ := hcut
      cases kq with
      | zero => exact absurd HA.out (by simp [laws_FnExactIsPrincipal.j2])
      | succ kj16 =>
       have H := HA.out
       clear HA
       simp only [laws_FnExactIsPrincipal.j2] at H
       replace H := Option.bind_eq_some_iff.mp H
       obtain ⟨⟨t817, t818⟩, A350, H⟩ := H
       replace H : ((laws_eqGraph.f kj16 t808 t809 t817 t818).bind fun t821 => (if t821 = true then (laws_FnExactIsPrincipal.j3 kj16 l1 t813) else (some false))) = some r := H
       have A35 := Aside0.mk A350
       clear A350
       replace H := Option.bind_eq_some_iff.mp H
       obtain ⟨t821, A360, H⟩ := H
       replace H : (if t821 = true then (laws_FnExactIsPrincipal.j3 kj16 l1 t813) else (some false)) = some r := H
       have A36 := Aside0.mk A360
       clear A360
       have HC37 := Aside0.mk H
       clear H
       try go_wp2
       replace HO_8 := Aside0.mk (Kd.R_drew HO_8.out)
       replace HO_813001 := Aside0.mk (Kd.R_drew HO_813001.out)
       replace BK798 := Aside0.mk (blk_drew BK798.out)
       replace BK812 := Aside0.mk (blk_drew BK812.out)
       replace HB := Aside0.mk (below_drew1 HB.out)
       refine start_ (n := 5) (S := fun w' => w'.cell? ⟨gb812, 0, none⟩ = some (.int .i64 t808) ∧ w'.cell? ⟨gb812, 1, none⟩ = some (.slice Ao29 t809.length co29) ∧ w'.cell? ⟨gb798, 0, none⟩ = some (.int .i64 a0_0) ∧ w'.cell? ⟨gb798, 1, none⟩ = some (.slice A0_1 l0_1.length c0_1)) (ds := []) #[false, false, false, false, false] (by kernel_rfl) rfl rfl ⟨(blk_cell BK812.out 0).trans rfl, (blk_cell BK812.out 1).trans rfl, (blk_cell BK798.out 0).trans rfl, (blk_cell BK798.out 1).trans rfl⟩ (fun hHeld => ?_)
       generalize wc.drew = w38 at HO_8 HO_813001 BK798 BK812 HB hHeld ⊢
       refine take_ (i := 0) (N := some 33) (v := ?_) (a' := ?_) #[true, false, false, false, false] rfl rfl (by kernel_rfl) (fun _ _ _ h => h) (Or.inl ⟨by rfl, ?_⟩) hHeld ?_ ?_
       rotate_left
       ·rintro w' ⟨s0, s1, s2, s3⟩
        go_simp
        with_reducible rfl
       rotate_left
       ·simp only [Act.put, List.setIfInBounds_toArray, List.set_cons_zero, List.set_cons_succ, i64_w, i32_w]
        rfl
       refine take_ (i := 1) (N := some 34) (v := ?_) (a' := ?_) #[true, true, false, false, false] rfl rfl (by kernel_rfl) (fun _ _ _ h => h) (Or.inl ⟨by rfl, ?_⟩) hHeld ?_ ?_
       rotate_left
       ·rintro w' ⟨s0, s1, s2, s3⟩
        go_simp
        with_reducible rfl
       rotate_left
       ·simp only [Act.put, List.setIfInBounds_toArray, List.set_cons_zero, List.set_cons_succ, i64_w, i32_w]
        rfl
       refine one_ (i := 2) (N := some 35) #[true, true, true, false, false] rfl rfl (by kernel_rfl) (by decide) (fun K hK => ?_)
       refine goes_ Try.func25 (by kernel_rfl) rfl #[.agg #[.int .i64 a0_0, .slice A0_1 l0_1.length c0_1]] (by rfl) rfl rfl (by (try simp only [List.map_toArray, List.map_cons, List.map_nil]); first | done | rfl | (simp only [List.length_drop, List.length_take]; rfl)) ?_
       with_reducible refine (laws_toGraph.calls kj16 a0_0 _ _ l0_1 t817 t818 _ ?side1 ?side2 A35.out).mono ?_
       (case side1 => exact Cz ((Kd.C_below HR0_1.out HB.out)))
       (case side2 => exact HC0_1.out)
       rintro e w39 ⟨v819, rfl, ho0, hb⟩
       refine ⟨_, rfl, ?_⟩
       replace HO_8 := Aside0.mk (Kd.R_below (Rz HO_8) hb)
       have HO820 := Aside0.mk (Kd.R_lower (Kd.R_new' ho0 (Kd.R_lt (Rz HO_813001))) (below_size (by exact Lz2 HB GE798 GE812)))
       replace HO_813001 := Aside0.mk (Kd.R_elder' (Rz HO_813001) (Kd.R_base ho0) hb)
       replace BK798 := Aside0.mk (blk_below (g := gb798) (o := .cells #[.int .i64 a0_0, .slice A0_1 l0_1.length c0_1] 37 (0, 0)) (Bz BK798) hb)
       replace BK812 := Aside0.mk (blk_below (g := gb812) (o := .cells #[.int .i64 t808, .slice Ao29 t809.length co29] 25 (0, 0)) (Bz BK812) hb)
       replace HB := Aside0.mk (below_step (by exact Lz2 HB GE798 GE812) hb)
       (try clear hb)
       (try clear hb2)
       (try clear hk)
       (try clear hi)
       (try clear ho0)
       obtain ⟨Ao40, co40, eo40⟩ := Kd.R_slice HO820.out
       (first | subst eo40 | (injection eo40 with f1_ f2_ f3_; have f4_ := f1_.symm; have f5_ := f3_.symm; clear f1_ f2_ f3_; subst f4_; subst f5_))
       refine hK.out _ _ ⟨(blk_cell BK812.out 0).trans rfl, (blk_cell BK812.out 1).trans rfl, (blk_cell BK798.out 0).trans rfl, (blk_cell BK798.out 1).trans rfl⟩ (fun hHeld => ?_)
       clear hK K
       refine norm_ (a' := ?_) ?_ ?_
       rotate_left
       ·show Act.put _ (some 35) _ = _
        simp only [Act.put, List.setIfInBounds_toArray, List.set_cons_zero, List.set_cons_succ, i64_w, i32_w]
        rfl
       refine one_ (i := 3) (N := some 36) #[true, true, true, true, false] rfl rfl (by kernel_rfl) (by decide) (fun K hK => ?_)
       refine goes_ Try.func29 (by kernel_rfl) rfl #[.agg #[.int .i64 t808, .slice Ao29 t809.length co29], .agg #[.int .i64 t817, .slice Ao40 t818.length co40]] (by rfl) rfl rfl (by (try simp only [List.map_toArray, List.map_cons, List.map_nil]); first | done | rfl | (simp only [List.length_drop, List.length_take]; rfl)) ?_
       with_reducible refine (laws_eqGraph.calls kj16 t808 _ _ t809 t817 _ _ t818 t821 _ ?side1 ?side2 ?side3 ?side4 A36.out).mono ?_
       (case side1 => exact Cz ((Kd.R_reads' HO_813001.out).2.2))
       (case side2 => exact (Kd.R_reads' HO_813001.out).2.1)
       (case side3 => exact Cz ((Kd.R_reads' HO820.out).2.2))
       (case side4 => exact (Kd.R_reads' HO820.out).2.1)
       rintro e w41 ⟨rfl, hb⟩
       refine ⟨_, rfl, ?_⟩
       replace HO_8 := Aside0.mk (Kd.R_below (Rz HO_8) hb)
       replace HO_813001 := Aside0.mk (Kd.R_below (Rz HO_813001) hb)
       replace HO820 := Aside0.mk (Kd.R_below (Rz HO820) hb)
       replace BK798 := Aside0.mk (blk_below (g := gb798) (o := .cells #[.int .i64 a0_0, .slice A0_1 l0_1.length c0_1] 37 (0, 0)) (Bz BK798) hb)
       replace BK812 := Aside0.mk (blk_below (g := gb812) (o := .cells #[.int .i64 t808, .slice Ao29 t809.length co29] 25 (0, 0)) (Bz BK812) hb)
       replace HB := Aside0.mk (below_step (by exact Lz2 HB GE798 GE812) hb)
       (try clear hb)
       (try clear hb2)
       (try clear hk)
       (try clear hi)
       refine hK.out _ _ ⟨(blk_cell BK812.out 0).trans rfl, (blk_cell BK812.out 1).trans rfl, (blk_cell BK798.out 0).trans rfl, (blk_cell BK798.out 1).trans rfl⟩ (fun hHeld => ?_)
       clear hK K
       refine norm_ (a' := ?_) ?_ ?_
       rotate_left
       ·show Act.put _ (some 36) _ = _
        simp only [Act.put, List.setIfInBounds_toArray, List.set_cons_zero, List.set_cons_succ, i64_w, i32_w]
        rfl
       refine pure_ (i := 4) (N := some 37) (v := ?_) (a' := ?_) #[true, true, true, true, true] rfl rfl (by kernel_rfl) (fun _ _ _ h => h) (Or.inl ⟨by rfl, ?_⟩) ?_ ?_
       rotate_left
       ·intro w'
        go_simp
        with_reducible rfl
       rotate_left
       ·simp only [Act.put, List.setIfInBounds_toArray, List.set_cons_zero, List.set_cons_succ, i64_w, i32_w]
        rfl
       refine done_ (by kernel_rfl) ?_
       go_upto_if 37 with (fail)
       go_cut [] (fun wc => ∃ (kq : Nat), Aside0 (laws_FnExactIsPrincipal.j3 kq l1 t813 = some r) ∧ Aside0 (kq ≤ kj16) ∧ Aside0 (Kd.R (Kd.int .i64) 3 wc w.heap.size (fun _ => True) (.slice Ao32 t813.length co32) t813) ∧ Aside0 (Kd.R k70 70 wc w.heap.size (fun _ => True) (.slice Ao29 t809.length co29) t809) ∧ Aside0 (wc.heap[gb798]? = some (.cells #[.int .i64 a0_0, (.slice A0_1 l0_1.length c0_1)] 37 (0, 0))) ∧ Aside0 (wc.heap[gb812]? = some (.cells #[.int .i64 t808, (.slice Ao29 t809.length co29)] 25 (0, 0))) ∧ Aside0 (Below w.heap.size w wc))
       case first =>
        have H := HC37.out
        clear HC37
        by_cases c42 : t821 = true
        ·subst c42
         have H1 : (laws_FnExactIsPrincipal.j3 kj16 l1 t813) = some r := by rw [if_pos rfl] at H; exact H
         clear H
         have H := H1
         clear H1
         have H' := Aside0.mk H
         clear H
         go_wp2
         go_meet
         case rel => exact ⟨_, H', ⟨by have := HJ2.out; have := HJ6.out; have := HJ16.out; first | omega | exact Nat.le_refl _⟩, ⟨by exact Rz HO_8⟩, ⟨by (with_reducible repeat (first | apply Kd.R_alloc | apply Kd.R_drewN | apply Kd.R_drew)); exact Kd.R_mono HO_813001.out (fun _ hk => trivial)⟩, ⟨by exact Bz BK798⟩, ⟨by exact Bz BK812⟩, ⟨by exact Lz2 HB GE798 GE812⟩⟩
        replace c42 := Bool.eq_false_iff.mpr c42
        subst c42
        have H1 : (some false) = some r := by rw [if_neg (show ¬ (false = true) by decide)] at H; exact H
        clear H
        have H := H1
        clear H1
        obtain rfl := Option.some.inj H
        go_wp2
        go_ret
        exact ⟨by first | rfl | (simp [errW_none, errW_some] <;> rfl) | (simp [*, errW_none, errW_some] <;> rfl), by exact Lz2 HB GE798 GE812⟩
       case rest =>
        clear HC37
        try clear c1
        try clear c5
        try clear c5b0
        try clear c5b1
        try clear c10
        try clear c10b0
        try clear c34
        try clear c34b0
        try clear c34b1
        try clear c34b2
        try clear c42
        obtain ⟨kq, HA, HJ36, HO_8, HO_813001, BK798, BK812, HB⟩ := hcut
        cases kq with
        | zero => exact absurd HA.out (by simp [laws_FnExactIsPrincipal.j3])
        | succ kj36 =>
         have H := HA.out
         clear HA
         simp only [laws_FnExactIsPrincipal.j3] at H
         replace H := Option.bind_eq_some_iff.mp H
         obtain ⟨t822, A430, H⟩ := H
         replace H : ((laws_eqIntS.f kj36 t813 t822).bind fun t825 => (if t825 = true then (some true) else (some false))) = some r := H
         have A43 := Aside0.mk A430
         clear A430
         replace H := Option.bind_eq_some_iff.mp H
         obtain ⟨t825, A440, H⟩ := H
         replace H : (if t825 = true then (some true) else (some false)) = some r := H
         have A44 := Aside0.mk A440
         clear A440
         by_cases c45 : t825 = true
         ·subst c45
          have H1 : (some true) = some r := by rw [if_pos rfl] at H; exact H
          clear H
          have H := H1
          clear H1
          obtain rfl := Option.some.inj H
          go_wp2_with (first | ((with_reducible refine gate_callee (f := 26) rfl ?_); refine goesM_ (some 40) rfl rfl Try.func26 (by kernel_rfl) rfl #[.slice A1 l1.length c1] rfl ?_; (with_reducible refine (laws_toIntS.calls kj36 _ _ l1 t822 _ ?side1 ?side2 A43.out).mono ?_); (case side1 => exact Cz ((Kd.C_below HR1.out HB.out))); (case side2 => exact HC1.out); rintro e w46 ⟨v823, rfl, ho0, hb⟩; refine ⟨_, rfl, ?_⟩; replace HO_813001 := Aside0.mk (Kd.R_below (Rz HO_813001) hb); have HO824 := Aside0.mk (Kd.R_lower (Kd.R_new' ho0 (Kd.R_lt (Rz HO_8))) (below_size (by exact Lz2 HB GE798 GE812))); replace HO_8 := Aside0.mk (Kd.R_elder' (Rz HO_8) (Kd.R_base ho0) hb); replace BK798 := Aside0.mk (blk_below (g := gb798) (o := .cells #[.int .i64 a0_0, .slice A0_1 l0_1.length c0_1] 37 (0, 0)) (Bz BK798) hb); replace BK812 := Aside0.mk (blk_below (g := gb812) (o := .cells #[.int .i64 t808, .slice Ao29 t809.length co29] 25 (0, 0)) (Bz BK812) hb); replace HB := Aside0.mk (below_step (by exact Lz2 HB GE798 GE812) hb); (try clear hb); (try clear ho0); obtain ⟨Ao47, co47, eo47⟩ := Kd.R_slice HO824.out; subst eo47) | ((with_reducible refine gate_callee (f := 28) rfl ?_); refine goesM_ (some 41) rfl rfl Try.func28 (by kernel_rfl) rfl #[.slice Ao32 t813.length co32, .slice Ao47 t822.length co47] rfl ?_; (with_reducible refine (laws_eqIntS.calls kj36 _ _ t813 _ _ t822 true _ ?side1 ?side2 ?side3 ?side4 A44.out).mono ?_); (case side1 => exact Cz ((Kd.R_reads' HO_8.out).2.2)); (case side2 => exact (Kd.R_reads' HO_8.out).2.1); (case side3 => exact Cz ((Kd.R_reads' HO824.out).2.2)); (case side4 => exact (Kd.R_reads' HO824.out).2.1); rintro e w' ⟨rfl, ⟨nd, rfl⟩⟩; refine ⟨_, rfl, ?_⟩))
          go_ret
          exact ⟨by first | rfl | (simp [errW_none, errW_some] <;> rfl) | (simp [*, errW_none, errW_some] <;> rfl), by exact Lz2 HB GE798 GE812⟩
         replace c45 := Bool.eq_false_iff.mpr c45
         subst c45
         have H1 : (some false) = some r := by rw [if_neg (show ¬ (false = true) by decide)] at H; exact H
         clear H
         have H := H1
         clear H1
         obtain rfl := Option.some.inj H
         go_wp2_with (first | ((with_reducible refine gate_callee (f := 26) rfl ?_); refine goesM_ (some 40) rfl rfl Try.func26 (by kernel_rfl) rfl #[.slice A1 l1.length c1] rfl ?_; (with_reducible refine (laws_toIntS.calls kj36 _ _ l1 t822 _ ?side1 ?side2 A43.out).mono ?_); (case side1 => exact Cz ((Kd.C_below HR1.out HB.out))); (case side2 => exact HC1.out); rintro e w48 ⟨v823, rfl, ho0, hb⟩; refine ⟨_, rfl, ?_⟩; replace HO_813001 := Aside0.mk (Kd.R_below (Rz HO_813001) hb); have HO824 := Aside0.mk (Kd.R_lower (Kd.R_new' ho0 (Kd.R_lt (Rz HO_8))) (below_size (by exact Lz2 HB GE798 GE812))); replace HO_8 := Aside0.mk (Kd.R_elder' (Rz HO_8) (Kd.R_base ho0) hb); replace BK798 := Aside0.mk (blk_below (g := gb798) (o := .cells #[.int .i64 a0_0, .slice A0_1 l0_1.length c0_1] 37 (0, 0)) (Bz BK798) hb); replace BK812 := Aside0.mk (blk_below (g := gb812) (o := .cells #[.int .i64 t808, .slice Ao29 t809.length co29] 25 (0, 0)) (Bz BK812) hb); replace HB := Aside0.mk (below_step (by exact Lz2 HB GE798 GE812) hb); (try clear hb); (try clear ho0); obtain ⟨Ao49, co49, eo49⟩ := Kd.R_slice HO824.out; subst eo49) | ((with_reducible refine gate_callee (f := 28) rfl ?_); refine goesM_ (some 41) rfl rfl Try.func28 (by kernel_rfl) rfl #[.slice Ao32 t813.length co32, .slice Ao49 t822.length co49] rfl ?_; (with_reducible refine (laws_eqIntS.calls kj36 _ _ t813 _ _ t822 false _ ?side1 ?side2 ?side3 ?side4 A44.out).mono ?_); (case side1 => exact Cz ((Kd.R_reads' HO_8.out).2.2)); (case side2 => exact (Kd.R_reads' HO_8.out).2.1); (case side3 => exact Cz ((Kd.R_reads' HO824.out).2.2)); (case side4 => exact (Kd.R_reads' HO824.out).2.1); rintro e w' ⟨rfl, ⟨nd, rfl⟩⟩; refine ⟨_, rfl, ?_⟩))
         go_ret
         exact ⟨by first | rfl | (simp [errW_none, errW_some] <;> rfl) | (simp [*, errW_none, errW_some] <;> rfl), by exact Lz2 HB GE798 GE812⟩
end Go.Proofs.Ytnebapnfkolflaa.P
end
section
namespace Go.Proofs.Ytnebapnfkolflaa.Pure
open Go.RowKit Go.Proofs.Ytnebapnfkolflaa.P Go.Proofs.YtnebapnfkolflaaW.PrintWords Go.Proofs.YtnebapnfkolflaaW.PrintLast Go.Proofs.YtnebapnfkolflaaW.PrintMore
def StatFnExactIsPrincipal : Prop := ∀ (a0_0 : Int) (l0_1 : List (S95)) (l1 : List (Int)), ((Lit.int .i64 a0_0).wf = true ∧ (l0_1.length ≤ maxLen ∧ ∀ x4 ∈ l0_1, (Lit.int .i64 x4.f0).wf = true ∧ (Lit.int .i64 x4.f1).wf = true)) → (l1.length ≤ maxLen ∧ ∀ x2 ∈ l1, (Lit.int .i64 x2).wf = true) → ∃ k, laws_FnExactIsPrincipal.f k a0_0 l0_1 l1 = some true
end Go.Proofs.Ytnebapnfkolflaa.Pure
end
section
set_option linter.unusedVariables false
set_option linter.unusedSimpArgs false
namespace Go.Proofs.Ytnebapnfkolflaa.Pure
open Go.RowKit Go.Proofs.Ytnebapnfkolflaa.P Go.Proofs.YtnebapnfkolflaaW.PrintWords Go.Proofs.YtnebapnfkolflaaW.PrintLast Go.Proofs.YtnebapnfkolflaaW.PrintMore Go.Proofs.Ytnebapnfkolflaa.Base Go.Proofs.Ytnebapnfkolflaa.Reduce Go.Proofs.Ytnebapnfkolflaa.Loops Go.Proofs.Ytnebapnfkolflaa.Bits
theorem isPrincipal_both (n : Int) (es : List S70) (d : List Int) (hl : es.length < 4611686018427387904) (hd : d.length < 4611686018427387904) :
    ∃ b : Bool, Ev (fun k => impl_IsPrincipal.f k n es d) b ∧ Ev (fun k => spec_IsPrincipal.f k n es d) b ∧ True := by
  obtain ⟨b, h1, h2, _, h4⟩ := redOk0 n es d hl hd
  simp only [impl_IsPrincipal.f, spec_IsPrincipal.f]
  cases b with
  | false => exact ⟨false, Ev.bind h1 (ev_iff (Ev.now _)), Ev.bind h2 (ev_iff (Ev.now _)), trivial⟩
  | true =>
    obtain ⟨_, m, rfl, S⟩ := h4 rfl
    have f := edgesB_facts S.g.1
    obtain ⟨r, e1, e2, _, _⟩ := areEquivalent_both m es d (List.replicate ((m : Nat) : Int).toNat 0) hl hd (by simp; omega)
    exact ⟨r, Ev.bind h1 (ev_ift rfl (ev_ift (by omega) (ev_ift (by omega) (Ev.bind e1 (Ev.now _))))), Ev.bind h2 (ev_ift rfl (ev_ift (by omega) (ev_ift (by omega) (Ev.bind e2 (Ev.now _))))), trivial⟩
end Go.Proofs.Ytnebapnfkolflaa.Pure
end
section
set_option linter.unusedVariables false
set_option linter.unusedSimpArgs false
namespace Go.Proofs.Ytnebapnfkolflaa.Pure
open Go.RowKit Go.Proofs.Ytnebapnfkolflaa.P Go.Proofs.YtnebapnfkolflaaW.PrintWords Go.Proofs.YtnebapnfkolflaaW.PrintLast Go.Proofs.YtnebapnfkolflaaW.PrintMore Go.Proofs.Ytnebapnfkolflaa.Base Go.Proofs.Ytnebapnfkolflaa.Reduce Go.Proofs.Ytnebapnfkolflaa.Loops Go.Proofs.Ytnebapnfkolflaa.Bits
theorem FnExactIsPrincipal : StatFnExactIsPrincipal := by
  intro n l d1 ⟨_, hl, _⟩ ⟨_, _⟩
  refine Ev.rounds (r := true) ?_
  unfold laws_FnExactIsPrincipal.f
  by_cases hd1 : (d1.length : Int) > 1048576
  · repeat (first
      | exact Ev.now _
      | dsimp only
      | with_reducible refine ev_ift (by first | rfl | omega) ?_
      | with_reducible refine ev_ifn (by omega) ?_
      | with_reducible refine ev_ifb ?_
      | with_reducible refine ev_ifnn ?_
      | with_reducible refine ev_iff ?_
      | (refine ev_succ ?_; simp only [if_true, laws_FnExactIsPrincipal.j0, laws_FnExactIsPrincipal.j1, laws_FnExactIsPrincipal.j2, laws_FnExactIsPrincipal.j3])
      )
  have hs := szGraph_eq n l hl 1048576 (by omega) (by omega)
  by_cases h : (l.length : Int) ≤ 1048576
  · have es : Ev (fun _ : Nat => laws_szGraph.f n l 1048576) (1048576 - (l.length : Int)) := ev_const fun _ => by rw [hs, if_pos h]
    have tg := toGraph_ev n l (by omega)
    have hm := map_cv_length l
    have hL : (l.map cvE).length < 4611686018427387904 := by omega
    have hLd1 : d1.length < 4611686018427387904 := by omega
    have td1 := toIntS_ev d1 (by omega)
    have ed1 := eqIntS_ev d1 hLd1
    obtain ⟨b, g1, g2, _⟩ := isPrincipal_both n (l.map cvE) d1 hL hLd1
    have eg := eqGraph_ev n (l.map cvE) hL
    repeat (first
      | exact Ev.now _
      | dsimp only
      | (with_reducible refine Ev.bind es ?_) | (with_reducible refine Ev.bind tg ?_) | (with_reducible refine Ev.bind td1 ?_) | (with_reducible refine Ev.bind ed1 ?_) | (with_reducible refine Ev.bind g1 ?_) | (with_reducible refine Ev.bind g2 ?_) | (with_reducible refine Ev.bind eg ?_)
      | with_reducible refine ev_ift (by first | rfl | omega) ?_
      | with_reducible refine ev_ifn (by omega) ?_
      | with_reducible refine ev_ifb ?_
      | with_reducible refine ev_ifnn ?_
      | with_reducible refine ev_iff ?_
      | (refine ev_succ ?_; simp only [if_true, laws_FnExactIsPrincipal.j0, laws_FnExactIsPrincipal.j1, laws_FnExactIsPrincipal.j2, laws_FnExactIsPrincipal.j3])
      )
  · have es : Ev (fun _ : Nat => laws_szGraph.f n l 1048576) (-1) := ev_const fun _ => by rw [hs, if_neg h]
    repeat (first
      | exact Ev.now _
      | dsimp only
      | (with_reducible refine Ev.bind es ?_)
      | with_reducible refine ev_ift (by first | rfl | omega) ?_
      | with_reducible refine ev_ifn (by omega) ?_
      | with_reducible refine ev_ifb ?_
      | with_reducible refine ev_ifnn ?_
      | with_reducible refine ev_iff ?_
      | (refine ev_succ ?_; simp only [if_true, laws_FnExactIsPrincipal.j0, laws_FnExactIsPrincipal.j1, laws_FnExactIsPrincipal.j2, laws_FnExactIsPrincipal.j3])
      )
end Go.Proofs.Ytnebapnfkolflaa.Pure
end
