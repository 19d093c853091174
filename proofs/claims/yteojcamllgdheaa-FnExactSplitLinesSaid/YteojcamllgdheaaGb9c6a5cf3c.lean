/- Functions of the program as plain Lean functions and that the machine's calls answer as they do, the words of the print that these use, lemmas and plain proofs of laws. Put together by a program of this work that leaves out what nothing uses; Lean checks it. -/
import Derived.Test.YteojcamllgdheaaGe602c294c9
import Derived.Test.YteojcamllgdheaaG2bfacb37b5
section
namespace Go.Proofs.Yteojcamllgdheaa.P
open Go.RowKit Go.Proofs.YteojcamllgdheaaW.PrintWords Go.Proofs.YteojcamllgdheaaW.PrintLast Go.Proofs.YteojcamllgdheaaW.PrintMore
attribute [local go_sem] max2_int min2_int max_two min_two max_three min_three max_four min_four
set_option linter.unusedVariables false
set_option linter.unusedSimpArgs false
def spec_SplitLines.f (k : Nat) (a0 : ByteArray) : Option (List ByteArray) := (spec_SplitAny.f k a0 (⟨#[10]⟩ : ByteArray)).bind fun t141 => (if 0 ≤ (wrap64 ((t141.length : Int) - 1)) then (if (wrap64 ((t141.length : Int) - 1)) < (t141.length : Int) then (if (rdOf ByteArray.empty t141 (wrap64 ((t141.length : Int) - 1))).toList = ([] : List UInt8) then (if (wrap64 ((t141.length : Int) - 1)) ≤ (t141.length : Int) then (some (t141.take ((wrap64 ((t141.length : Int) - 1)) : Int).toNat)) else (none)) else (some t141)) else (none)) else (none))
set_option maxHeartbeats 8000000 in
set_option maxRecDepth 100000 in
theorem spec_SplitLines.calls (k : Nat) (a0 : ByteArray) (r : List ByteArray) (w : World) (h : spec_SplitLines.f k a0 = some r) :
  Calls Try.prog 12 #[.string a0] w fun e w' => ∃ v0_ : Value, e = .returned (v0_) ∧ Kd.R Kd.string 9 w' w.heap.size (fun _ => True) v0_ r ∧ Below w.heap.size w w' := by
 have HB := Aside0.mk (Below.refl w.heap.size w)
 have H : ((spec_SplitAny.f k a0 (⟨#[10]⟩ : ByteArray)).bind fun t141 => (if 0 ≤ (wrap64 ((t141.length : Int) - 1)) then (if (wrap64 ((t141.length : Int) - 1)) < (t141.length : Int) then (if (rdOf ByteArray.empty t141 (wrap64 ((t141.length : Int) - 1))).toList = ([] : List UInt8) then (if (wrap64 ((t141.length : Int) - 1)) ≤ (t141.length : Int) then (some (t141.take ((wrap64 ((t141.length : Int) - 1)) : Int).toNat)) else (none)) else (some t141)) else (none)) else (none))) = some r := h
 clear h
 replace H := Option.bind_eq_some_iff.mp H
 obtain ⟨t141, A20, H⟩ := H
 replace H : (if 0 ≤ (wrap64 ((t141.length : Int) - 1)) then (if (wrap64 ((t141.length : Int) - 1)) < (t141.length : Int) then (if (rdOf ByteArray.empty t141 (wrap64 ((t141.length : Int) - 1))).toList = ([] : List UInt8) then (if (wrap64 ((t141.length : Int) - 1)) ≤ (t141.length : Int) then (some (t141.take ((wrap64 ((t141.length : Int) - 1)) : Int).toNat)) else (none)) else (some t141)) else (none)) else (none)) = some r := H
 have A2 := Aside0.mk A20
 clear A20
 obtain ⟨ji3, hji3⟩ : ∃ j_ : Int, (wrap64 ((t141.length : Int) - 1)) = j_ := ⟨_, rfl⟩
 replace H : (if 0 ≤ (ji3) then (if (ji3) < (t141.length : Int) then (if (rdOf ByteArray.empty t141 (ji3)).toList = ([] : List UInt8) then (if (ji3) ≤ (t141.length : Int) then (some (t141.take ((ji3) : Int).toNat)) else (none)) else (some t141)) else (none)) else (none)) = some r := by first | (rw [hji3] at H; exact H) | (simp only [hji3] at H ⊢; exact H)
 (try rw [hji3] at A2)
 have hji3w : (IntKind.i64.wrap ((t141.length : Int) - 1)) = ji3 := (i64_w _).trans hji3
 by_cases c4 : 0 ≤ (ji3)
 ·rw [if_pos c4] at H
  have c4b0 : decide (0 ≤ (ji3)) = true := decide_eq_true c4
  clear c4
  by_cases c5 : (ji3) < (t141.length : Int)
  ·rw [if_pos c5] at H
   have c5b0 : decide ((ji3) < (t141.length : Int)) = true := decide_eq_true c5
   clear c5
   by_cases c6 : (rdOf ByteArray.empty t141 (ji3)).toList = ([] : List UInt8)
   ·rw [if_pos c6] at H
    have c6b0 : ((rdOf ByteArray.empty t141 (ji3)).toList == ([] : List UInt8)) = true := beq_iff_eq.mpr c6
    have c6b1 : ((rdOf ByteArray.empty t141 (ji3)).toList != ([] : List UInt8)) = false := bne_eq_false_iff_eq.mpr c6
    clear c6
    by_cases c7 : (ji3) ≤ (t141.length : Int)
    ·rw [if_pos c7] at H
     have c7b0 := eq_true c7
     have c7b1 : decide ((ji3) ≤ (t141.length : Int)) = true := decide_eq_true c7
     clear c7
     obtain ⟨y145, hy145⟩ : ∃ y_ : List ByteArray, y_ = (t141.take ((ji3) : Int).toNat) := ⟨_, rfl⟩
     replace H : (some y145) = some r := by first | (rw [hy145]; with_reducible exact H) | (have H2_ := (Option.bind_some _ _).symm.trans H; rw [hy145]; with_reducible exact H2_) | (have H2_ := (Option.bind_some _ _).symm.trans H; with_reducible exact H2_) | with_reducible exact H | (rw [hy145]; exact H) | exact H
     have Ny145 := Aside0.mk hy145
     clear hy145
     obtain rfl := Option.some.inj H
     go_enter Try.func12, Try.ntmps12
     go_wp2_with (first | ((with_reducible refine gate_callee (f := 7) rfl ?_); refine goesM_ (some 5) rfl rfl Try.func7 (by kernel_rfl) rfl #[.string a0, .string (⟨#[10]⟩ : ByteArray)] rfl ?_; (with_reducible refine (spec_SplitAny.calls k a0 (⟨#[10]⟩ : ByteArray) t141 _ A2.out).mono ?_); rintro e w8 ⟨v142, rfl, ho0, hb⟩; refine ⟨_, rfl, ?_⟩; have HO143 := Aside0.mk (Kd.R_lower ho0 (below_size (Lz HB))); replace HB := Aside0.mk (below_step (Lz HB) hb); (try clear hb); (try clear ho0); obtain ⟨Ao9, co9, eo9⟩ := Kd.R_slice HO143.out; subst eo9; have p144 : 0 ≤ ((ji3) : Int) := ofA; have q144 : (ji3) < (t141.length : Int) := ofA; obtain ⟨ad144, e144, hx144_0⟩ := Kd.at_string (Kd.R_reads' HO143.out).2.2 (ji3) p144 q144; cases e144; replace p144 := eq_true p144; replace q144 := eq_true q144; have q10 : ((ji3) : Int) ≤ ((t141.length : Int) : Int) := ofA; obtain ⟨i010, hi010, _, hsz10, _⟩ := info_parts info9; have hcut10 := cut_to (P := Try.prog) 22 9 .i64 Try.underlying22 hi010 (some ad144) t141.length co9 (ji3) (ofA) q10 (Kd.R_reads' HO143.out).2.1; have hr10 := Kd.R_take (m := ((ji3) : Int).toNat) HO143.out (by omega); have hy10 : y145.length = ((ji3) : Int).toNat := (by rw [Ny145.out, List.length_take]; omega); rw [← Ny145.out] at hr10; rw [← hy10] at hr10 hcut10; clear hy10 hi010 hsz10 HO143; have HO147 := Aside0.mk hr10; clear hr10; replace q10 := eq_true q10))
     go_ret
     exact ⟨_, by first | rfl | (simp [errW_none, errW_some] <;> rfl) | (simp only [← hji3]; first | rfl | (simp [errW_none, errW_some] <;> rfl)) | (simp [*, errW_none, errW_some] <;> rfl), by exact Rz HO147, by exact Lz HB⟩
    rw [if_neg c7] at H
    exact absurd H (by simp)
   rw [if_neg c6] at H
   have c6b0 : ((rdOf ByteArray.empty t141 (ji3)).toList == ([] : List UInt8)) = false := beq_eq_false_iff_ne.mpr c6
   have c6b1 : ((rdOf ByteArray.empty t141 (ji3)).toList != ([] : List UInt8)) = true := bne_iff_ne.mpr c6
   obtain rfl := Option.some.inj H
   go_enter Try.func12, Try.ntmps12
   go_wp2_with (first | ((with_reducible refine gate_callee (f := 7) rfl ?_); refine goesM_ (some 5) rfl rfl Try.func7 (by kernel_rfl) rfl #[.string a0, .string (⟨#[10]⟩ : ByteArray)] rfl ?_; (with_reducible refine (spec_SplitAny.calls k a0 (⟨#[10]⟩ : ByteArray) t141 _ A2.out).mono ?_); rintro e w11 ⟨v142, rfl, ho0, hb⟩; refine ⟨_, rfl, ?_⟩; have HO143 := Aside0.mk (Kd.R_lower ho0 (below_size (Lz HB))); replace HB := Aside0.mk (below_step (Lz HB) hb); (try clear hb); (try clear ho0); obtain ⟨Ao12, co12, eo12⟩ := Kd.R_slice HO143.out; subst eo12; have p144 : 0 ≤ ((ji3) : Int) := ofA; have q144 : (ji3) < (t141.length : Int) := ofA; obtain ⟨ad144, e144, hx144_0⟩ := Kd.at_string (Kd.R_reads' HO143.out).2.2 (ji3) p144 q144; cases e144; replace p144 := eq_true p144; replace q144 := eq_true q144))
   go_ret
   exact ⟨_, by first | rfl | (simp [errW_none, errW_some] <;> rfl) | (simp only [← hji3]; first | rfl | (simp [errW_none, errW_some] <;> rfl)) | (simp [*, errW_none, errW_some] <;> rfl), by exact Rz HO143, by exact Lz HB⟩
  rw [if_neg c5] at H
  exact absurd H (by simp)
 rw [if_neg c4] at H
 exact absurd H (by simp)
def impl_SplitLines.f (k : Nat) (a0 : ByteArray) : Option (List ByteArray) := (impl_SplitAny.f k a0 (⟨#[10]⟩ : ByteArray)).bind fun t148 => (if 0 ≤ (wrap64 ((t148.length : Int) - 1)) then (if (wrap64 ((t148.length : Int) - 1)) < (t148.length : Int) then (if (rdOf ByteArray.empty t148 (wrap64 ((t148.length : Int) - 1))).toList = ([] : List UInt8) then (if (wrap64 ((t148.length : Int) - 1)) ≤ (t148.length : Int) then (some (t148.take ((wrap64 ((t148.length : Int) - 1)) : Int).toNat)) else (none)) else (some t148)) else (none)) else (none))
set_option maxHeartbeats 8000000 in
set_option maxRecDepth 100000 in
theorem impl_SplitLines.calls (k : Nat) (a0 : ByteArray) (r : List ByteArray) (w : World) (h : impl_SplitLines.f k a0 = some r) :
  Calls Try.prog 13 #[.string a0] w fun e w' => ∃ v0_ : Value, e = .returned (v0_) ∧ Kd.R Kd.string 9 w' w.heap.size (fun _ => True) v0_ r ∧ Below w.heap.size w w' := by
 have HB := Aside0.mk (Below.refl w.heap.size w)
 have H : ((impl_SplitAny.f k a0 (⟨#[10]⟩ : ByteArray)).bind fun t148 => (if 0 ≤ (wrap64 ((t148.length : Int) - 1)) then (if (wrap64 ((t148.length : Int) - 1)) < (t148.length : Int) then (if (rdOf ByteArray.empty t148 (wrap64 ((t148.length : Int) - 1))).toList = ([] : List UInt8) then (if (wrap64 ((t148.length : Int) - 1)) ≤ (t148.length : Int) then (some (t148.take ((wrap64 ((t148.length : Int) - 1)) : Int).toNat)) else (none)) else (some t148)) else (none)) else (none))) = some r := h
 clear h
 replace H := Option.bind_eq_some_iff.mp H
 obtain ⟨t148, A20, H⟩ := H
 replace H : (if 0 ≤ (wrap64 ((t148.length : Int) - 1)) then (if (wrap64 ((t148.length : Int) - 1)) < (t148.length : Int) then (if (rdOf ByteArray.empty t148 (wrap64 ((t148.length : Int) - 1))).toList = ([] : List UInt8) then (if (wrap64 ((t148.length : Int) - 1)) ≤ (t148.length : Int) then (some (t148.take ((wrap64 ((t148.length : Int) - 1)) : Int).toNat)) else (none)) else (some t148)) else (none)) else (none)) = some r := H
 have A2 := Aside0.mk A20
 clear A20
 obtain ⟨ji3, hji3⟩ : ∃ j_ : Int, (wrap64 ((t148.length : Int) - 1)) = j_ := ⟨_, rfl⟩
 replace H : (if 0 ≤ (ji3) then (if (ji3) < (t148.length : Int) then (if (rdOf ByteArray.empty t148 (ji3)).toList = ([] : List UInt8) then (if (ji3) ≤ (t148.length : Int) then (some (t148.take ((ji3) : Int).toNat)) else (none)) else (some t148)) else (none)) else (none)) = some r := by first | (rw [hji3] at H; exact H) | (simp only [hji3] at H ⊢; exact H)
 (try rw [hji3] at A2)
 have hji3w : (IntKind.i64.wrap ((t148.length : Int) - 1)) = ji3 := (i64_w _).trans hji3
 by_cases c4 : 0 ≤ (ji3)
 ·rw [if_pos c4] at H
  have c4b0 : decide (0 ≤ (ji3)) = true := decide_eq_true c4
  clear c4
  by_cases c5 : (ji3) < (t148.length : Int)
  ·rw [if_pos c5] at H
   have c5b0 : decide ((ji3) < (t148.length : Int)) = true := decide_eq_true c5
   clear c5
   by_cases c6 : (rdOf ByteArray.empty t148 (ji3)).toList = ([] : List UInt8)
   ·rw [if_pos c6] at H
    have c6b0 : ((rdOf ByteArray.empty t148 (ji3)).toList == ([] : List UInt8)) = true := beq_iff_eq.mpr c6
    have c6b1 : ((rdOf ByteArray.empty t148 (ji3)).toList != ([] : List UInt8)) = false := bne_eq_false_iff_eq.mpr c6
    clear c6
    by_cases c7 : (ji3) ≤ (t148.length : Int)
    ·rw [if_pos c7] at H
     have c7b0 := eq_true c7
     have c7b1 : decide ((ji3) ≤ (t148.length : Int)) = true := decide_eq_true c7
     clear c7
     obtain ⟨y152, hy152⟩ : ∃ y_ : List ByteArray, y_ = (t148.take ((ji3) : Int).toNat) := ⟨_, rfl⟩
     replace H : (some y152) = some r := by first | (rw [hy152]; with_reducible exact H) | (have H2_ := (Option.bind_some _ _).symm.trans H; rw [hy152]; with_reducible exact H2_) | (have H2_ := (Option.bind_some _ _).symm.trans H; with_reducible exact H2_) | with_reducible exact H | (rw [hy152]; exact H) | exact H
     have Ny152 := Aside0.mk hy152
     clear hy152
     obtain rfl := Option.some.inj H
     go_enter Try.func13, Try.ntmps13
     go_wp2_with (first | ((with_reducible refine gate_callee (f := 8) rfl ?_); refine goesM_ (some 5) rfl rfl Try.func8 (by kernel_rfl) rfl #[.string a0, .string (⟨#[10]⟩ : ByteArray)] rfl ?_; (with_reducible refine (impl_SplitAny.calls k a0 (⟨#[10]⟩ : ByteArray) t148 _ A2.out).mono ?_); rintro e w8 ⟨v149, rfl, ho0, hb⟩; refine ⟨_, rfl, ?_⟩; have HO150 := Aside0.mk (Kd.R_lower ho0 (below_size (Lz HB))); replace HB := Aside0.mk (below_step (Lz HB) hb); (try clear hb); (try clear ho0); obtain ⟨Ao9, co9, eo9⟩ := Kd.R_slice HO150.out; subst eo9; have p151 : 0 ≤ ((ji3) : Int) := ofA; have q151 : (ji3) < (t148.length : Int) := ofA; obtain ⟨ad151, e151, hx151_0⟩ := Kd.at_string (Kd.R_reads' HO150.out).2.2 (ji3) p151 q151; cases e151; replace p151 := eq_true p151; replace q151 := eq_true q151; have q10 : ((ji3) : Int) ≤ ((t148.length : Int) : Int) := ofA; obtain ⟨i010, hi010, _, hsz10, _⟩ := info_parts info9; have hcut10 := cut_to (P := Try.prog) 22 9 .i64 Try.underlying22 hi010 (some ad151) t148.length co9 (ji3) (ofA) q10 (Kd.R_reads' HO150.out).2.1; have hr10 := Kd.R_take (m := ((ji3) : Int).toNat) HO150.out (by omega); have hy10 : y152.length = ((ji3) : Int).toNat := (by rw [Ny152.out, List.length_take]; omega); rw [← Ny152.out] at hr10; rw [← hy10] at hr10 hcut10; clear hy10 hi010 hsz10 HO150; have HO154 := Aside0.mk hr10; clear hr10; replace q10 := eq_true q10))
     go_ret
     exact ⟨_, by first | rfl | (simp [errW_none, errW_some] <;> rfl) | (simp only [← hji3]; first | rfl | (simp [errW_none, errW_some] <;> rfl)) | (simp [*, errW_none, errW_some] <;> rfl), by exact Rz HO154, by exact Lz HB⟩
    rw [if_neg c7] at H
    exact absurd H (by simp)
   rw [if_neg c6] at H
   have c6b0 : ((rdOf ByteArray.empty t148 (ji3)).toList == ([] : List UInt8)) = false := beq_eq_false_iff_ne.mpr c6
   have c6b1 : ((rdOf ByteArray.empty t148 (ji3)).toList != ([] : List UInt8)) = true := bne_iff_ne.mpr c6
   obtain rfl := Option.some.inj H
   go_enter Try.func13, Try.ntmps13
   go_wp2_with (first | ((with_reducible refine gate_callee (f := 8) rfl ?_); refine goesM_ (some 5) rfl rfl Try.func8 (by kernel_rfl) rfl #[.string a0, .string (⟨#[10]⟩ : ByteArray)] rfl ?_; (with_reducible refine (impl_SplitAny.calls k a0 (⟨#[10]⟩ : ByteArray) t148 _ A2.out).mono ?_); rintro e w11 ⟨v149, rfl, ho0, hb⟩; refine ⟨_, rfl, ?_⟩; have HO150 := Aside0.mk (Kd.R_lower ho0 (below_size (Lz HB))); replace HB := Aside0.mk (below_step (Lz HB) hb); (try clear hb); (try clear ho0); obtain ⟨Ao12, co12, eo12⟩ := Kd.R_slice HO150.out; subst eo12; have p151 : 0 ≤ ((ji3) : Int) := ofA; have q151 : (ji3) < (t148.length : Int) := ofA; obtain ⟨ad151, e151, hx151_0⟩ := Kd.at_string (Kd.R_reads' HO150.out).2.2 (ji3) p151 q151; cases e151; replace p151 := eq_true p151; replace q151 := eq_true q151))
   go_ret
   exact ⟨_, by first | rfl | (simp [errW_none, errW_some] <;> rfl) | (simp only [← hji3]; first | rfl | (simp [errW_none, errW_some] <;> rfl)) | (simp [*, errW_none, errW_some] <;> rfl), by exact Rz HO150, by exact Lz HB⟩
  rw [if_neg c5] at H
  exact absurd H (by simp)
 rw [if_neg c4] at H
 exact absurd H (by simp)
mutual
def laws_FnExactSplitLines.j0 : Nat → ByteArray → Option (Bool)
 | 0, _ => none
 | k + 1, x0 => (spec_SplitLines.f k x0).bind fun t155 => ((impl_SplitLines.f k x0).bind fun t158 => ((laws_eqStringS.f k t158 t155).bind fun t161 => (if t161 = true then (laws_FnExactSplitLines.j1 k x0 t155 t158) else (some false))))
def laws_FnExactSplitLines.j1 : Nat → ByteArray → List ByteArray → List ByteArray → Option (Bool)
 | 0, _, _, _ => none
 | k + 1, x0, x3, x4 => (laws_markStringS.f k x4 1).bind fun bt162 => ((laws_heldStringS.f k bt162.2 1).bind fun t164 => (if t164 < 0 then (some false) else (laws_FnExactSplitLines.j2 k x0 x3 bt162.2 bt162.1 t164)))
def laws_FnExactSplitLines.j2 : Nat → ByteArray → List ByteArray → List ByteArray → Int → Int → Option (Bool)
 | 0, _, _, _, _, _ => none
 | k + 1, x0, x3, x4, x5, x6 => if x6 = x5 then (laws_FnExactSplitLines.j3 k x0 x3 x4 x5) else (some false)
def laws_FnExactSplitLines.j3 : Nat → ByteArray → List ByteArray → List ByteArray → Int → Option (Bool)
 | 0, _, _, _, _ => none
 | k + 1, x0, x3, x4, x5 => (impl_SplitLines.f k x0).bind fun t165 => ((laws_eqStringS.f k t165 x3).bind fun t168 => (if t168 = true then (laws_FnExactSplitLines.j4 k x4 x5) else (some false)))
def laws_FnExactSplitLines.j4 : Nat → List ByteArray → Int → Option (Bool)
 | 0, _, _ => none
 | k + 1, x4, x5 => (laws_heldStringS.f k x4 1).bind fun t169 => (if t169 < 0 then (some false) else (laws_FnExactSplitLines.j5 k x5 t169))
def laws_FnExactSplitLines.j5 : Nat → Int → Int → Option (Bool)
 | 0, _, _ => none
 | k + 1, x5, x6 => if x6 = x5 then (some true) else (some false)
end
def laws_FnExactSplitLines.f (k : Nat) (a0 : ByteArray) : Option (Bool) := if (a0.size : Int) > 1048576 then (some true) else (laws_FnExactSplitLines.j0 k a0)
set_option maxHeartbeats 8000000 in
set_option maxRecDepth 100000 in
theorem laws_FnExactSplitLines.calls (k : Nat) (a0 : ByteArray) (r : Bool) (w : World) (h : laws_FnExactSplitLines.f k a0 = some r) (hR_ : r = true := by rfl) :
  Calls Try.prog 4 #[.string a0] w fun e w' => e = .returned (.bool r) ∧ Below w.heap.size w w' := by
 have HR_ := Aside0.mk hR_
 clear hR_
 have HB := Aside0.mk (Below.refl w.heap.size w)
 have H : (if (a0.size : Int) > 1048576 then (some true) else (laws_FnExactSplitLines.j0 k a0)) = some r := h
 clear h
 have HC2 := Aside0.mk H
 clear H
 go_enter Try.func4, Try.ntmps4
 go_upto_if 10 with (fail)
 go_cut [] (fun wc => ∃ (kq : Nat), Aside0 (laws_FnExactSplitLines.j0 kq a0 = some r) ∧ Aside0 (kq ≤ k) ∧ Aside0 (Below w.heap.size w wc))
 case first =>
  have H := HC2.out
  clear HC2
  by_cases c3 : (a0.size : Int) > 1048576
  ·rw [if_pos c3] at H
   have c3b0 : decide (1048576 < (a0.size : Int)) = true := decide_eq_true c3
   have c3b1 : decide (1048576 < a0.size) = true := decide_eq_true (by omega)
   clear c3
   (first | rw [c3b0] | (simp only [i64_w, i32_w]; rw [c3b0]) | skip)
   obtain rfl := Option.some.inj H
   go_wp2
   go_ret
   exact ⟨by first | rfl | (simp [errW_none, errW_some] <;> rfl) | (simp [*, errW_none, errW_some] <;> rfl), by exact Lz HB⟩
  rw [if_neg c3] at H
  have c3b0 : decide (1048576 < (a0.size : Int)) = false := decide_eq_false c3
  have c3b1 : decide (1048576 < a0.size) = false := decide_eq_false (by omega)
  clear c3
  (first | rw [c3b0] | (simp only [i64_w, i32_w]; rw [c3b0]) | skip)
  have H' := Aside0.mk H
  clear H
  go_wp2
  go_meet
  case rel => exact ⟨_, H', ⟨by first | omega | exact Nat.le_refl _⟩, ⟨by exact Lz HB⟩⟩
 case rest =>
  clear HC2
  try clear c3
  try clear c3b0
  try clear c3b1
  obtain ⟨kq, HA, HJ1, HB⟩ := hcut
  cases kq with
  | zero => exact absurd HA.out (by simp [laws_FnExactSplitLines.j0])
  | succ kj1 =>
   have H := HA.out
   clear HA
   simp only [laws_FnExactSplitLines.j0] at H
   replace H := Option.bind_eq_some_iff.mp H
   obtain ⟨t155, A40, H⟩ := H
   replace H : ((impl_SplitLines.f kj1 a0).bind fun t158 => ((laws_eqStringS.f kj1 t158 t155).bind fun t161 => (if t161 = true then (laws_FnExactSplitLines.j1 kj1 a0 t155 t158) else (some false)))) = some r := H
   have A4 := Aside0.mk A40
   clear A40
   replace H := Option.bind_eq_some_iff.mp H
   obtain ⟨t158, A50, H⟩ := H
   replace H : ((laws_eqStringS.f kj1 t158 t155).bind fun t161 => (if t161 = true then (laws_FnExactSplitLines.j1 kj1 a0 t155 t158) else (some false))) = some r := H
   have A5 := Aside0.mk A50
   clear A50
   replace H := Option.bind_eq_some_iff.mp H
   obtain ⟨t161, A60, H⟩ := H
   replace H : (if t161 = true then (laws_FnExactSplitLines.j1 kj1 a0 t155 t158) else (some false)) = some r := H
   have A6 := Aside0.mk A60
   clear A60
   have HC7 := Aside0.mk H
   clear H
   go_upto_if 18 with (first | ((with_reducible refine gate_callee (f := 12) rfl ?_); refine goesM_ (some 12) rfl rfl Try.func12 (by kernel_rfl) rfl #[.string a0] rfl ?_; (with_reducible refine (spec_SplitLines.calls kj1 a0 t155 _ A4.out).mono ?_); rintro e w8 ⟨v156, rfl, ho0, hb⟩; refine ⟨_, rfl, ?_⟩; have HO157 := Aside0.mk (Kd.R_lower ho0 (below_size (Lz HB))); replace HB := Aside0.mk (below_step (Lz HB) hb); (try clear hb); (try clear ho0)) | ((with_reducible refine gate_callee (f := 13) rfl ?_); refine goesM_ (some 14) rfl rfl Try.func13 (by kernel_rfl) rfl #[.string a0] rfl ?_; (with_reducible refine (impl_SplitLines.calls kj1 a0 t158 _ A5.out).mono ?_); rintro e w9 ⟨v159, rfl, ho0, hb⟩; refine ⟨_, rfl, ?_⟩; have HO160 := Aside0.mk (Kd.R_lower (Kd.R_new' ho0 (Kd.R_lt (Rz HO157))) (below_size (Lz HB))); replace HO157 := Aside0.mk (Kd.R_elder' (Rz HO157) (Kd.R_base ho0) hb); replace HB := Aside0.mk (below_step (Lz HB) hb); (try clear hb); (try clear ho0); obtain ⟨Ao10, co10, eo10⟩ := Kd.R_slice HO160.out; subst eo10; obtain ⟨Ao11, co11, eo11⟩ := Kd.R_slice HO157.out; subst eo11) | ((with_reducible refine gate_callee (f := 9) rfl ?_); refine goesM_ (some 17) rfl rfl Try.func9 (by kernel_rfl) rfl #[.slice Ao10 t158.length co10, .slice Ao11 t155.length co11] rfl ?_; (with_reducible refine (laws_eqStringS.calls kj1 _ _ t158 _ _ t155 t161 _ ?side1 ?side2 ?side3 ?side4 A6.out).mono ?_); (case side1 => exact Cz ((Kd.R_reads' HO160.out).2.2)); (case side2 => exact (Kd.R_reads' HO160.out).2.1); (case side3 => exact Cz ((Kd.R_reads' HO157.out).2.2)); (case side4 => exact (Kd.R_reads' HO157.out).2.1); rintro e w' ⟨rfl, ⟨nd, rfl⟩⟩; refine ⟨_, rfl, ?_⟩))
   (try simp only [Act.put, List.setIfInBounds_toArray, List.set_cons_zero, List.set_cons_succ])
   go_cut [] (fun wc => ∃ (kq : Nat), Aside0 (laws_FnExactSplitLines.j1 kq a0 t155 t158 = some r) ∧ Aside0 (kq ≤ kj1) ∧ Aside0 (Kd.R Kd.string 9 wc w.heap.size (fun k_ => some k_ ≠ ((.slice Ao10 t158.length co10) : Value).ownBlock) (.slice Ao11 t155.length co11) t155) ∧ Aside0 (Kd.R Kd.string 9 wc w.heap.size (fun k_ => some k_ ≠ ((.slice Ao11 t155.length co11) : Value).ownBlock) (.slice Ao10 t158.length co10) t158) ∧ Aside0 (Below w.heap.size w wc))
   case first =>
    have H := HC7.out
    clear HC7
    by_cases c12 : t161 = true
    ·subst c12
     have H1 : (laws_FnExactSplitLines.j1 kj1 a0 t155 t158) = some r := by rw [if_pos rfl] at H; exact H
     clear H
     have H := H1
     clear H1
     have H' := Aside0.mk H
     clear H
     go_wp2
     go_meet
     case rel => exact ⟨_, H', ⟨by have := HJ1.out; first | omega | exact Nat.le_refl _⟩, ⟨by (with_reducible repeat (first | apply Kd.R_alloc | apply Kd.R_drewN | apply Kd.R_drew)); exact Kd.R_mono HO157.out (fun _ hk => hk.2)⟩, ⟨by (with_reducible repeat (first | apply Kd.R_alloc | apply Kd.R_drewN | apply Kd.R_drew)); exact Kd.R_mono HO160.out (fun _ hk => hk.2)⟩, ⟨by exact Lz HB⟩⟩
    replace c12 := Bool.eq_false_iff.mpr c12
    subst c12
    have H1 : (some false) = some r := by rw [if_neg (show ¬ (false = true) by decide)] at H; exact H
    clear H
    have H := H1
    clear H1
    exact absurd (Option.some.inj H) (by rw [HR_.out]; decide)
   case rest =>
    clear HC7
    try clear c3
    try clear c3b0
    try clear c3b1
    try clear c12
    obtain ⟨kq, HA, HJ6, HO_3, HO_4, HB⟩ := hcut
    cases kq with
    | zero => exact absurd HA.out (by simp [laws_FnExactSplitLines.j1])
    | succ kj6 =>
     have H := HA.out
     clear HA
     simp only [laws_FnExactSplitLines.j1] at H
     replace H := Option.bind_eq_some_iff.mp H
     obtain ⟨⟨t162, t163⟩, A130, H⟩ := H
     replace H : ((laws_heldStringS.f kj6 t163 1).bind fun t164 => (if t164 < 0 then (some false) else (laws_FnExactSplitLines.j2 kj6 a0 t155 t163 t162 t164))) = some r := H
     have A13 := Aside0.mk A130
     clear A130
     replace H := Option.bind_eq_some_iff.mp H
     obtain ⟨t164, A140, H⟩ := H
     replace H : (if t164 < 0 then (some false) else (laws_FnExactSplitLines.j2 kj6 a0 t155 t163 t162 t164)) = some r := H
     have A14 := Aside0.mk A140
     clear A140
     have HC15 := Aside0.mk H
     clear H
     go_upto_if 26 with (first | ((with_reducible refine gate_callee (f := 10) rfl ?_); refine goesM_ (some 21) rfl rfl Try.func10 (by kernel_rfl) rfl #[.slice Ao10 t158.length co10, .int .i64 1] rfl ?_; (with_reducible refine (laws_markStringS.calls kj6 (fun k_ => some k_ = (.slice Ao10 t158.length co10 : Value).ownBlock) (.slice Ao10 t158.length co10) t158 1 t162 t163 w _ ?side1 ?side2 A13.out).mono ?_); (case side1 => exact Lz HB); (case side2 => exact Kd.R_tight rfl HO_4.out); rintro e w16 ⟨rfl, hy0, hb, hkp⟩; refine ⟨_, rfl, ?_⟩; replace HO_3 := Aside0.mk (Kd.R_mono (ok' := fun k_ => some k_ ≠ (.slice Ao10 t158.length co10 : Value).ownBlock) (Kd.R_keptB (HO_3.out) hkp (fun k_ hk_ hs_ => (hk_) hs_)) (fun k_ hk_ => hk_.1)); replace HO_4 := Aside0.mk (Kd.R_reok rfl hy0 (fun k_ e_ => HO_4.out.1 k_ e_)); replace HB := Aside0.mk (hb); (try clear hb); (try clear hkp); (try clear hy0)) | ((with_reducible refine gate_callee (f := 11) rfl ?_); refine goesL_ (some 24) rfl rfl Try.func11 (by kernel_rfl) rfl #[.slice Ao10 t163.length co10, .int .i64 1] rfl (by (try simp only [List.map_toArray, List.map_cons, List.map_nil]); first | done | (rw [show t163.length = t158.length from (Kd.R_reads' HO_4.out).1.symm] <;> rfl) | rfl | (simp only [List.length_drop, List.length_take]; rfl)) ?_; (with_reducible refine (laws_heldStringS.calls kj6 _ _ t163 1 t164 _ ?side1 ?side2 A14.out).mono ?_); (case side1 => exact Cz ((Kd.R_reads' HO_4.out).2.2)); (case side2 => rw [show t163.length = t158.length from (Kd.R_reads' HO_4.out).1.symm]; exact (Kd.R_reads' HO_4.out).2.1); rintro e w17 ⟨rfl, hb⟩; refine ⟨_, rfl, ?_⟩; replace HO_3 := Aside0.mk (Kd.R_below (Rz HO_3) hb); replace HO_4 := Aside0.mk (Kd.R_below (Rz HO_4) hb); replace HB := Aside0.mk (below_step (Lz HB) hb); (try clear hb); (try clear hb2); (try clear hk); (try clear hi)))
     (try simp only [Act.put, List.setIfInBounds_toArray, List.set_cons_zero, List.set_cons_succ])
     go_cut [] (fun wc => ∃ (kq : Nat), Aside0 (laws_FnExactSplitLines.j2 kq a0 t155 t163 t162 t164 = some r) ∧ Aside0 (kq ≤ kj6) ∧ Aside0 (Kd.R Kd.string 9 wc w.heap.size (fun k_ => some k_ ≠ ((.slice Ao10 t158.length co10) : Value).ownBlock) (.slice Ao11 t155.length co11) t155) ∧ Aside0 (Kd.R Kd.string 9 wc w.heap.size (fun k_ => some k_ ≠ ((.slice Ao11 t155.length co11) : Value).ownBlock) (.slice Ao10 t158.length co10) t163) ∧ Aside0 (Below w.heap.size w wc))
     case first =>
      have H := HC15.out
      clear HC15
      by_cases c18 : t164 < 0
      ·rw [if_pos c18] at H
       have c18b0 : decide (t164 < 0) = true := decide_eq_true c18
       clear c18
       (first | rw [c18b0] | (simp only [i64_w, i32_w]; rw [c18b0]) | skip)
       obtain rfl := Option.some.inj H
       go_wp2
       go_ret
       exact ⟨by first | rfl | (simp [errW_none, errW_some] <;> rfl) | (simp [*, errW_none, errW_some] <;> rfl), by exact Lz HB⟩
      rw [if_neg c18] at H
      have c18b0 : decide (t164 < 0) = false := decide_eq_false c18
      clear c18
      (first | rw [c18b0] | (simp only [i64_w, i32_w]; rw [c18b0]) | skip)
      have H' := Aside0.mk H
      clear H
      go_wp2
      go_meet
      case rel => exact ⟨_, H', ⟨by have := HJ1.out; have := HJ6.out; first | omega | exact Nat.le_refl _⟩, ⟨by exact Rz HO_3⟩, ⟨by exact Rz HO_4⟩, ⟨by exact Lz HB⟩⟩
     case rest =>
      clear HC15
      try clear c3
      try clear c3b0
      try clear c3b1
      try clear c12
      try clear c18
      try clear c18b0
      obtain ⟨kq, HA, HJ14, HO_3, HO_4, HB⟩ := hcut
      have hl4_14 := (Kd.R_reads' HO_4.out).1
      rw [hl4_14] at HO_4
      (try simp only [hl4_14])
      (try simp only [hl4_14] at HO_3)
      cases kq with
      | zero => exact absurd HA.out (by simp [laws_FnExactSplitLines.j2])
      | succ kj14 =>
       have H := HA.out
       clear HA
       simp only [laws_FnExactSplitLines.j2] at H
       have HC19 := Aside0.mk H
       clear H
       go_upto_if 29 with (fail)
       go_cut [] (fun wc => ∃ (kq : Nat), Aside0 (laws_FnExactSplitLines.j3 kq a0 t155 t163 t162 = some r) ∧ Aside0 (kq ≤ kj14) ∧ Aside0 (Kd.R Kd.string 9 wc w.heap.size (fun k_ => some k_ ≠ ((.slice Ao10 t163.length co10) : Value).ownBlock) (.slice Ao11 t155.length co11) t155) ∧ Aside0 (Kd.R Kd.string 9 wc w.heap.size (fun k_ => some k_ ≠ ((.slice Ao11 t155.length co11) : Value).ownBlock) (.slice Ao10 t163.length co10) t163) ∧ Aside0 (Below w.heap.size w wc))
       case first =>
        have H := HC19.out
        clear HC19
        by_cases c20 : t164 = t162
        ·rw [if_pos c20] at H
         have c20b0 : (t164 == t162) = true := beq_iff_eq.mpr c20
         have c20b1 : (t164 != t162) = false := bne_eq_false_iff_eq.mpr c20
         clear c20
         (first | rw [c20b0] | (simp only [i64_w, i32_w]; rw [c20b0]) | skip)
         have H' := Aside0.mk H
         clear H
         go_wp2
         go_meet
         case rel => exact ⟨_, H', ⟨by have := HJ1.out; have := HJ6.out; have := HJ14.out; first | omega | exact Nat.le_refl _⟩, ⟨by (try simp only [hl4_14]); exact Rz HO_3⟩, ⟨by (try simp only [hl4_14]); exact Rz HO_4⟩, ⟨by exact Lz HB⟩⟩
        rw [if_neg c20] at H
        have c20b0 : (t164 == t162) = false := beq_eq_false_iff_ne.mpr c20
        have c20b1 : (t164 != t162) = true := bne_iff_ne.mpr c20
        (first | rw [c20b0] | (simp only [i64_w, i32_w]; rw [c20b0]) | skip)
        obtain rfl := Option.some.inj H
        go_wp2
        go_ret
        exact ⟨by first | rfl | (simp [errW_none, errW_some] <;> rfl) | (simp [*, errW_none, errW_some] <;> rfl), by exact Lz HB⟩
       case rest =>
        clear HC19
        try clear c3
        try clear c3b0
        try clear c3b1
        try clear c12
        try clear c18
        try clear c18b0
        try clear c20
        try clear c20b0
        try clear c20b1
        obtain ⟨kq, HA, HJ18, HO_3, HO_4, HB⟩ := hcut
        cases kq with
        | zero => exact absurd HA.out (by simp [laws_FnExactSplitLines.j3])
        | succ kj18 =>
         have H := HA.out
         clear HA
         simp only [laws_FnExactSplitLines.j3] at H
         replace H := Option.bind_eq_some_iff.mp H
         obtain ⟨t165, A210, H⟩ := H
         replace H : ((laws_eqStringS.f kj18 t165 t155).bind fun t168 => (if t168 = true then (laws_FnExactSplitLines.j4 kj18 t163 t162) else (some false))) = some r := H
         have A21 := Aside0.mk A210
         clear A210
         replace H := Option.bind_eq_some_iff.mp H
         obtain ⟨t168, A220, H⟩ := H
         replace H : (if t168 = true then (laws_FnExactSplitLines.j4 kj18 t163 t162) else (some false)) = some r := H
         have A22 := Aside0.mk A220
         clear A220
         have HC23 := Aside0.mk H
         clear H
         go_upto_if 35 with (first | ((with_reducible refine gate_callee (f := 13) rfl ?_); refine goesM_ (some 31) rfl rfl Try.func13 (by kernel_rfl) rfl #[.string a0] rfl ?_; (with_reducible refine (impl_SplitLines.calls kj18 a0 t165 _ A21.out).mono ?_); rintro e w24 ⟨v166, rfl, ho0, hb⟩; refine ⟨_, rfl, ?_⟩; have HO167 := Aside0.mk (Kd.R_lower (Kd.R_new' (Kd.R_new' ho0 (Kd.R_lt (Rz HO_3))) (Kd.R_lt (Rz HO_4))) (below_size (Lz HB))); replace HO_3 := Aside0.mk (Kd.R_elder' (Rz HO_3) (Kd.R_base ho0) hb); replace HO_4 := Aside0.mk (Kd.R_elder' (Rz HO_4) (Kd.R_base ho0) hb); replace HB := Aside0.mk (below_step (Lz HB) hb); (try clear hb); (try clear ho0); obtain ⟨Ao25, co25, eo25⟩ := Kd.R_slice HO167.out; subst eo25) | ((with_reducible refine gate_callee (f := 9) rfl ?_); refine goesM_ (some 34) rfl rfl Try.func9 (by kernel_rfl) rfl #[.slice Ao25 t165.length co25, .slice Ao11 t155.length co11] rfl ?_; (with_reducible refine (laws_eqStringS.calls kj18 _ _ t165 _ _ t155 t168 _ ?side1 ?side2 ?side3 ?side4 A22.out).mono ?_); (case side1 => exact Cz ((Kd.R_reads' HO167.out).2.2)); (case side2 => exact (Kd.R_reads' HO167.out).2.1); (case side3 => exact Cz ((Kd.R_reads' HO_3.out).2.2)); (case side4 => exact (Kd.R_reads' HO_3.out).2.1); rintro e w' ⟨rfl, ⟨nd, rfl⟩⟩; refine ⟨_, rfl, ?_⟩))
         (try simp only [Act.put, List.setIfInBounds_toArray, List.set_cons_zero, List.set_cons_succ])
         go_cut [] (fun wc => ∃ (kq : Nat), Aside0 (laws_FnExactSplitLines.j4 kq t163 t162 = some r) ∧ Aside0 (kq ≤ kj18) ∧ Aside0 (Kd.R Kd.string 9 wc w.heap.size (fun _ => True) (.slice Ao10 t163.length co10) t163) ∧ Aside0 (Below w.heap.size w wc))
         case first =>
          have H := HC23.out
          clear HC23
          by_cases c26 : t168 = true
          ·subst c26
           have H1 : (laws_FnExactSplitLines.j4 kj18 t163 t162) = some r := by rw [if_pos rfl] at H; exact H
           clear H
           have H := H1
           clear H1
           have H' := Aside0.mk H
           clear H
           go_wp2
           go_meet
           case rel => exact ⟨_, H', ⟨by have := HJ1.out; have := HJ6.out; have := HJ14.out; have := HJ18.out; first | omega | exact Nat.le_refl _⟩, ⟨by (try simp only [hl4_14]); (with_reducible repeat (first | apply Kd.R_alloc | apply Kd.R_drewN | apply Kd.R_drew)); exact Kd.R_mono HO_4.out (fun _ hk => trivial)⟩, ⟨by exact Lz HB⟩⟩
          replace c26 := Bool.eq_false_iff.mpr c26
          subst c26
          have H1 : (some false) = some r := by rw [if_neg (show ¬ (false = true) by decide)] at H; exact H
          clear H
          have H := H1
          clear H1
          exact absurd (Option.some.inj H) (by rw [HR_.out]; decide)
         case rest =>
          clear HC23
          try clear c3
          try clear c3b0
          try clear c3b1
          try clear c12
          try clear c18
          try clear c18b0
          try clear c20
          try clear c20b0
          try clear c20b1
          try clear c26
          obtain ⟨kq, HA, HJ22, HO_4, HB⟩ := hcut
          cases kq with
          | zero => exact absurd HA.out (by simp [laws_FnExactSplitLines.j4])
          | succ kj22 =>
           have H := HA.out
           clear HA
           simp only [laws_FnExactSplitLines.j4] at H
           replace H := Option.bind_eq_some_iff.mp H
           obtain ⟨t169, A270, H⟩ := H
           replace H : (if t169 < 0 then (some false) else (laws_FnExactSplitLines.j5 kj22 t162 t169)) = some r := H
           have A27 := Aside0.mk A270
           clear A270
           have HC28 := Aside0.mk H
           clear H
           go_upto_if 40 with (first | ((with_reducible refine gate_callee (f := 11) rfl ?_); refine goesM_ (some 38) rfl rfl Try.func11 (by kernel_rfl) rfl #[.slice Ao10 t163.length co10, .int .i64 1] rfl ?_; (with_reducible refine (laws_heldStringS.calls kj22 _ _ t163 1 t169 _ ?side1 ?side2 A27.out).mono ?_); (case side1 => exact Cz ((Kd.R_reads' HO_4.out).2.2)); (case side2 => exact (Kd.R_reads' HO_4.out).2.1); rintro e w29 ⟨rfl, hb⟩; refine ⟨_, rfl, ?_⟩; replace HO_4 := Aside0.mk (Kd.R_below (Rz HO_4) hb); replace HB := Aside0.mk (below_step (Lz HB) hb); (try clear hb); (try clear hb2); (try clear hk); (try clear hi)))
           (try simp only [Act.put, List.setIfInBounds_toArray, List.set_cons_zero, List.set_cons_succ])
           go_cut [] (fun wc => ∃ (kq : Nat), Aside0 (laws_FnExactSplitLines.j5 kq t162 t169 = some r) ∧ Aside0 (kq ≤ kj22) ∧ Aside0 (Below w.heap.size w wc))
           case first =>
            have H := HC28.out
            clear HC28
            by_cases c30 : t169 < 0
            ·rw [if_pos c30] at H
             have c30b0 : decide (t169 < 0) = true := decide_eq_true c30
             clear c30
             (first | rw [c30b0] | (simp only [i64_w, i32_w]; rw [c30b0]) | skip)
             obtain rfl := Option.some.inj H
             go_wp2
             go_ret
             exact ⟨by first | rfl | (simp [errW_none, errW_some] <;> rfl) | (simp [*, errW_none, errW_some] <;> rfl), by exact Lz HB⟩
            rw [if_neg c30] at H
            have c30b0 : decide (t169 < 0) = false := decide_eq_false c30
            clear c30
            (first | rw [c30b0] | (simp only [i64_w, i32_w]; rw [c30b0]) | skip)
            have H' := Aside0.mk H
            clear H
            go_wp2
            go_meet
            case rel => exact ⟨_, H', ⟨by have := HJ1.out; have := HJ6.out; have := HJ14.out; have := HJ18.out; have := HJ22.out; first | omega | exact Nat.le_refl _⟩, ⟨by exact Lz HB⟩⟩
           case rest =>
            clear HC28
            try clear c3
            try clear c3b0
            try clear c3b1
            try clear c12
            try clear c18
            try clear c18b0
            try clear c20
            try clear c20b0
            try clear c20b1
            try clear c26
            try clear c30
            try clear c30b0
            obtain ⟨kq, HA, HJ27, HB⟩ := hcut
            cases kq with
            | zero => exact absurd HA.out (by simp [laws_FnExactSplitLines.j5])
            | succ kj27 =>
             have H := HA.out
             clear HA
             simp only [laws_FnExactSplitLines.j5] at H
             by_cases c31 : t169 = t162
             ·rw [if_pos c31] at H
              have c31b0 : (t169 == t162) = true := beq_iff_eq.mpr c31
              have c31b1 : (t169 != t162) = false := bne_eq_false_iff_eq.mpr c31
              clear c31
              obtain rfl := Option.some.inj H
              go_wp2
              go_ret
              exact ⟨by first | rfl | (simp [errW_none, errW_some] <;> rfl) | (simp [*, errW_none, errW_some] <;> rfl), by exact Lz HB⟩
             rw [if_neg c31] at H
             have c31b0 : (t169 == t162) = false := beq_eq_false_iff_ne.mpr c31
             have c31b1 : (t169 != t162) = true := bne_iff_ne.mpr c31
             obtain rfl := Option.some.inj H
             go_wp2
             go_ret
             exact ⟨by first | rfl | (simp [errW_none, errW_some] <;> rfl) | (simp [*, errW_none, errW_some] <;> rfl), by exact Lz HB⟩
def laws_FnExactSplitLines.Pure : Prop := ∀ (a0 : ByteArray), a0.size ≤ 140737488351232 → ∃ k, laws_FnExactSplitLines.f k a0 = some true
end Go.Proofs.Yteojcamllgdheaa.P
end
section
namespace Go.Proofs.Yteojcamllgdheaa.Pure
open Go.RowKit Go.Proofs.Yteojcamllgdheaa.P Go.Proofs.YteojcamllgdheaaW.PrintWords Go.Proofs.YteojcamllgdheaaW.PrintLast Go.Proofs.YteojcamllgdheaaW.PrintMore
def StatFnExactSplitLines : Prop := ∀ (a0 : ByteArray), a0.size ≤ maxLen → ∃ k, laws_FnExactSplitLines.f k a0 = some true
end Go.Proofs.Yteojcamllgdheaa.Pure
end
section
set_option linter.unusedVariables false
set_option linter.unusedSimpArgs false
namespace Go.Proofs.Yteojcamllgdheaa.Pure
open Go.RowKit Go.Proofs.Yteojcamllgdheaa.P Go.Proofs.YteojcamllgdheaaW.PrintWords Go.Proofs.YteojcamllgdheaaW.PrintLast Go.Proofs.YteojcamllgdheaaW.PrintMore Go.Proofs.Yteojcamllgdheaa.Base Go.Proofs.Yteojcamllgdheaa.Loops
def linesF (l : List ByteArray) : List ByteArray := if (rdOf ByteArray.empty l (wrap64 ((l.length : Int) - 1))).toList = ([] : List UInt8) then l.take (wrap64 ((l.length : Int) - 1)).toNat else l
theorem linesF_len (l : List ByteArray) : (linesF l).length ≤ l.length := by
  unfold linesF
  split
  · simp; omega
  · exact Nat.le_refl _
theorem lines_both (s : ByteArray) (hs : s.size ≤ 1048576) : Ev (fun k => impl_SplitLines.f k s) (linesF (cuts s ⟨#[10]⟩)) ∧ Ev (fun k => spec_SplitLines.f k s) (linesF (cuts s ⟨#[10]⟩)) ∧ (linesF (cuts s ⟨#[10]⟩)).length ≤ 1048577 := by
  have g1 := implSplit_ev s ⟨#[10]⟩ hs
  have g2 := specSplit_ev s ⟨#[10]⟩ hs (by decide)
  obtain ⟨l1, l2⟩ := cutF_len s ⟨#[10]⟩ s.size 0 0 []
  have l1' : (cuts s ⟨#[10]⟩).length ≤ 1048577 := by unfold cuts; simp only [List.length_nil] at l1; omega
  have l2' : 1 ≤ (cuts s ⟨#[10]⟩).length := by unfold cuts; simp only [List.length_nil] at l2; omega
  have hw : wrap64 (((cuts s ⟨#[10]⟩).length : Int) - 1) = ((cuts s ⟨#[10]⟩).length : Int) - 1 := by unfold wrap64; omega
  refine ⟨?_, ?_, Nat.le_trans (linesF_len _) l1'⟩
  · simp only [impl_SplitLines.f, linesF]
    refine Ev.bind g1 ?_
    rw [hw]
    refine ev_ift (by omega) (ev_ift (by omega) ?_)
    split
    · exact ev_ift (by omega) (Ev.now _)
    · exact Ev.now _
  · simp only [spec_SplitLines.f, linesF]
    refine Ev.bind g2 ?_
    rw [hw]
    refine ev_ift (by omega) (ev_ift (by omega) ?_)
    split
    · exact ev_ift (by omega) (Ev.now _)
    · exact Ev.now _
theorem lawSplitLines (s : ByteArray) : Ev (fun k => laws_FnExactSplitLines.f k s) true := by
  simp only [laws_FnExactSplitLines.f]
  by_cases h1 : (s.size : Int) > 1048576
  · exact ev_ift h1 (Ev.now _)
  refine ev_ifn h1 ?_
  obtain ⟨g1, g2, hl⟩ := lines_both s (by omega)
  generalize linesF (cuts s ⟨#[10]⟩) = r at *
  have e := eqStr_ev r (by omega)
  have m := markStr_ev r (by omega)
  have h := heldStr_ev r.length (by omega)
  repeat (first
    | exact Ev.now _
    | dsimp only
    | (with_reducible refine Ev.bind g1 ?_) | (with_reducible refine Ev.bind g2 ?_) | (with_reducible refine Ev.bind e ?_) | (with_reducible refine Ev.bind m ?_) | (with_reducible refine Ev.bind h ?_)
    | with_reducible refine ev_ift (by first | rfl | with_reducible exact True.intro | omega) ?_
    | with_reducible refine ev_ifn (by omega) ?_
    | (refine ev_succ ?_; simp only [if_true, laws_FnExactSplitLines.j0, laws_FnExactSplitLines.j1, laws_FnExactSplitLines.j2, laws_FnExactSplitLines.j3, laws_FnExactSplitLines.j4, laws_FnExactSplitLines.j5])
    )
theorem FnExactSplitLines : StatFnExactSplitLines := by
  intro s _
  exact Ev.rounds (r := true) (lawSplitLines s)
end Go.Proofs.Yteojcamllgdheaa.Pure
end
