/- Functions of the program as plain Lean functions and that the machine's calls answer as they do, the words of the print that these use, lemmas and plain proofs of laws. Put together by a program of this work that leaves out what nothing uses; Lean checks it. -/
import Derived.Test.YtbcfccdoffbncaaGa2b5af435a
import Derived.Test.YtbcfccdoffbncaaGaac7f9c49c
section
namespace Go.Proofs.Ytbcfccdoffbncaa.P
open Go.RowKit Go.Proofs.YtbcfccdoffbncaaW.PrintWords Go.Proofs.YtbcfccdoffbncaaW.PrintLast Go.Proofs.YtbcfccdoffbncaaW.PrintMore
attribute [local go_sem] max2_int min2_int max_two min_two max_three min_three max_four min_four
set_option linter.unusedVariables false
set_option linter.unusedSimpArgs false
def spec_l01Below.f (s0_0 : List Int) (s0_1 : Int) (s0_2 : Int) (a1 : Int) : Option (Int × Int × Int) := if a1 ≤ 0 then (some (0, s0_1, s0_2)) else (if a1 ≤ 256 then ((spec_l01Byte.f s0_0 s0_1 s0_2).bind fun bt631 => (if a1 = 0 then (none) else (some (Int.tmod bt631.1 a1, bt631.2.1, bt631.2.2)))) else ((spec_l01Byte.f s0_0 s0_1 s0_2).bind fun bt634 => ((spec_l01Byte.f s0_0 bt634.2.1 bt634.2.2).bind fun bt637 => ((spec_l01Byte.f s0_0 bt637.2.1 bt637.2.2).bind fun bt640 => ((spec_l01Byte.f s0_0 bt640.2.1 bt640.2.2).bind fun bt643 => (if a1 = 0 then (none) else (some (Int.tmod (wrap64 ((wrap64 ((wrap64 ((wrap64 (bt634.1 * 16777216)) + (wrap64 (bt637.1 * 65536)))) + (wrap64 (bt640.1 * 256)))) + bt643.1)) a1, bt643.2.1, bt643.2.2))))))))
set_option maxHeartbeats 8000000 in
set_option maxRecDepth 100000 in
theorem spec_l01Below.calls (g : Nat) (s0_0 : List Int) (s0_1 : Int) (s0_2 : Int) (a1 : Int) (r1 : Int) (r2 : Int) (r3 : Int) (w0 w : World) (hI : IsS101 w0 w g s0_0 s0_1 s0_2) (hB : Below w0.heap.size w0 w) (h : spec_l01Below.f s0_0 s0_1 s0_2 a1 = some (r1, r2, r3)) :
  Calls Try.prog 75 #[.pointer (some ⟨g, 0, none⟩), .int .i64 a1] w fun e w' => e = .returned (.int .i64 r1) ∧ IsS101 w0 w' g s0_0 r2 r3 ∧ Below w0.heap.size w0 w' ∧ KeepBut w w' g none := by
 have HI0 := Aside0.mk hI
 have HK := Aside0.mk (KeepBut.refl w g none)
 have HL := Aside0.mk hB.size
 clear hI
 have HW0 := Aside0.mk hB.size
 have HB := Aside0.mk hB
 clear hB
 have H : (if a1 ≤ 0 then (some (0, s0_1, s0_2)) else (if a1 ≤ 256 then ((spec_l01Byte.f s0_0 s0_1 s0_2).bind fun bt631 => (if a1 = 0 then (none) else (some (Int.tmod bt631.1 a1, bt631.2.1, bt631.2.2)))) else ((spec_l01Byte.f s0_0 s0_1 s0_2).bind fun bt634 => ((spec_l01Byte.f s0_0 bt634.2.1 bt634.2.2).bind fun bt637 => ((spec_l01Byte.f s0_0 bt637.2.1 bt637.2.2).bind fun bt640 => ((spec_l01Byte.f s0_0 bt640.2.1 bt640.2.2).bind fun bt643 => (if a1 = 0 then (none) else (some (Int.tmod (wrap64 ((wrap64 ((wrap64 ((wrap64 (bt634.1 * 16777216)) + (wrap64 (bt637.1 * 65536)))) + (wrap64 (bt640.1 * 256)))) + bt643.1)) a1, bt643.2.1, bt643.2.2))))))))) = some (r1, r2, r3) := h
 clear h
 by_cases c3 : a1 ≤ 0
 ·rw [if_pos c3] at H
  have c3b0 : decide (a1 ≤ 0) = true := decide_eq_true c3
  clear c3
  simp only [Option.some.injEq, Prod.mk.injEq] at H
  obtain ⟨rfl, rfl, rfl⟩ := H
  go_enter Try.func75, Try.ntmps75
  go_wp2
  go_ret
  exact ⟨by first | rfl | (simp [errW_none, errW_some] <;> rfl) | (simp [*, errW_none, errW_some] <;> rfl), by repeat (first | (with_reducible first | exact HI0.out | apply IsS101.alloc | apply IsS101.drewN | apply IsS101.drew | apply IsS101.set_1 | apply IsS101.set_2) | exact HI0.out), by repeat (first | (with_reducible first | exact HB.out | apply below_alloc | apply pw_below_drewN | apply below_drew1 | refine below_set ?_ (IsS101.ge HI0.out)) | exact HB.out), by repeat (first | (with_reducible first | exact HK.out | apply KeepBut.set_ | apply keep_drewN | apply keep_drew | apply keep_alloc) | exact HK.out)⟩
 rw [if_neg c3] at H
 have c3b0 : decide (a1 ≤ 0) = false := decide_eq_false c3
 clear c3
 by_cases c4 : a1 ≤ 256
 ·rw [if_pos c4] at H
  have c4b0 : decide (a1 ≤ 256) = true := decide_eq_true c4
  clear c4
  replace H := Option.bind_eq_some_iff.mp H
  obtain ⟨⟨t631, t632, t633⟩, A50, H⟩ := H
  replace H : (if a1 = 0 then (none) else (some (Int.tmod t631 a1, t632, t633))) = some (r1, r2, r3) := H
  have A5 := Aside0.mk A50
  clear A50
  by_cases c6 : a1 = 0
  ·rw [if_pos c6] at H
   exact absurd H (by simp)
  rw [if_neg c6] at H
  have c6b0 : (a1 == 0) = false := beq_eq_false_iff_ne.mpr c6
  have c6b1 : (a1 != 0) = true := bne_iff_ne.mpr c6
  simp only [Option.some.injEq, Prod.mk.injEq] at H
  obtain ⟨rfl, rfl, rfl⟩ := H
  go_enter Try.func75, Try.ntmps75
  go_wp2_with (first | ((with_reducible refine gate_callee (f := 70) rfl ?_); refine goesM_ (some 14) rfl rfl Try.func70 (by kernel_rfl) rfl #[.pointer (some ⟨g, 0, none⟩)] rfl ?_; (with_reducible refine (spec_l01Byte.calls g s0_0 s0_1 s0_2 t631 t632 t633 w0 _ ?side1 ?side2 A5.out).mono ?_); (case side1 => repeat (first | (with_reducible first | exact HI0.out | apply IsS101.alloc | apply IsS101.drewN | apply IsS101.drew | apply IsS101.set_1 | apply IsS101.set_2) | exact HI0.out)); (case side2 => repeat (first | (with_reducible first | exact HB.out | apply below_alloc | apply pw_below_drewN | apply below_drew1 | refine below_set ?_ (IsS101.ge HI0.out)) | exact HB.out)); rintro e w7 ⟨rfl, hi, hb, hk⟩; refine ⟨_, rfl, ?_⟩; replace HK := Aside0.mk (KeepBut.trans (by repeat (first | (with_reducible first | exact HK.out | apply KeepBut.set_ | apply keep_drewN | apply keep_drew | apply keep_alloc) | exact HK.out)) hk (.inl rfl)); replace HB := Aside0.mk (hb); replace HI0 := Aside0.mk (hi); (try clear hb); (try clear hb2); (try clear hk); (try clear hi)))
  go_ret
  exact ⟨by first | rfl | (simp [errW_none, errW_some] <;> rfl) | (simp [*, errW_none, errW_some] <;> rfl), by repeat (first | (with_reducible first | exact HI0.out | apply IsS101.alloc | apply IsS101.drewN | apply IsS101.drew | apply IsS101.set_1 | apply IsS101.set_2) | exact HI0.out), by repeat (first | (with_reducible first | exact HB.out | apply below_alloc | apply pw_below_drewN | apply below_drew1 | refine below_set ?_ (IsS101.ge HI0.out)) | exact HB.out), by repeat (first | (with_reducible first | exact HK.out | apply KeepBut.set_ | apply keep_drewN | apply keep_drew | apply keep_alloc) | exact HK.out)⟩
 rw [if_neg c4] at H
 have c4b0 : decide (a1 ≤ 256) = false := decide_eq_false c4
 clear c4
 replace H := Option.bind_eq_some_iff.mp H
 obtain ⟨⟨t634, t635, t636⟩, A80, H⟩ := H
 replace H : ((spec_l01Byte.f s0_0 t635 t636).bind fun bt637 => ((spec_l01Byte.f s0_0 bt637.2.1 bt637.2.2).bind fun bt640 => ((spec_l01Byte.f s0_0 bt640.2.1 bt640.2.2).bind fun bt643 => (if a1 = 0 then (none) else (some (Int.tmod (wrap64 ((wrap64 ((wrap64 ((wrap64 (t634 * 16777216)) + (wrap64 (bt637.1 * 65536)))) + (wrap64 (bt640.1 * 256)))) + bt643.1)) a1, bt643.2.1, bt643.2.2)))))) = some (r1, r2, r3) := H
 have A8 := Aside0.mk A80
 clear A80
 replace H := Option.bind_eq_some_iff.mp H
 obtain ⟨⟨t637, t638, t639⟩, A90, H⟩ := H
 replace H : ((spec_l01Byte.f s0_0 t638 t639).bind fun bt640 => ((spec_l01Byte.f s0_0 bt640.2.1 bt640.2.2).bind fun bt643 => (if a1 = 0 then (none) else (some (Int.tmod (wrap64 ((wrap64 ((wrap64 ((wrap64 (t634 * 16777216)) + (wrap64 (t637 * 65536)))) + (wrap64 (bt640.1 * 256)))) + bt643.1)) a1, bt643.2.1, bt643.2.2))))) = some (r1, r2, r3) := H
 have A9 := Aside0.mk A90
 clear A90
 replace H := Option.bind_eq_some_iff.mp H
 obtain ⟨⟨t640, t641, t642⟩, A100, H⟩ := H
 replace H : ((spec_l01Byte.f s0_0 t641 t642).bind fun bt643 => (if a1 = 0 then (none) else (some (Int.tmod (wrap64 ((wrap64 ((wrap64 ((wrap64 (t634 * 16777216)) + (wrap64 (t637 * 65536)))) + (wrap64 (t640 * 256)))) + bt643.1)) a1, bt643.2.1, bt643.2.2)))) = some (r1, r2, r3) := H
 have A10 := Aside0.mk A100
 clear A100
 replace H := Option.bind_eq_some_iff.mp H
 obtain ⟨⟨t643, t644, t645⟩, A110, H⟩ := H
 replace H : (if a1 = 0 then (none) else (some (Int.tmod (wrap64 ((wrap64 ((wrap64 ((wrap64 (t634 * 16777216)) + (wrap64 (t637 * 65536)))) + (wrap64 (t640 * 256)))) + t643)) a1, t644, t645))) = some (r1, r2, r3) := H
 have A11 := Aside0.mk A110
 clear A110
 by_cases c12 : a1 = 0
 ·rw [if_pos c12] at H
  exact absurd H (by simp)
 rw [if_neg c12] at H
 have c12b0 : (a1 == 0) = false := beq_eq_false_iff_ne.mpr c12
 have c12b1 : (a1 != 0) = true := bne_iff_ne.mpr c12
 simp only [Option.some.injEq, Prod.mk.injEq] at H
 obtain ⟨rfl, rfl, rfl⟩ := H
 go_enter Try.func75, Try.ntmps75
 go_wp2_with (first | ((with_reducible refine gate_callee (f := 70) rfl ?_); refine goesM_ (some 18) rfl rfl Try.func70 (by kernel_rfl) rfl #[.pointer (some ⟨g, 0, none⟩)] rfl ?_; (with_reducible refine (spec_l01Byte.calls g s0_0 s0_1 s0_2 t634 t635 t636 w0 _ ?side1 ?side2 A8.out).mono ?_); (case side1 => repeat (first | (with_reducible first | exact HI0.out | apply IsS101.alloc | apply IsS101.drewN | apply IsS101.drew | apply IsS101.set_1 | apply IsS101.set_2) | exact HI0.out)); (case side2 => repeat (first | (with_reducible first | exact HB.out | apply below_alloc | apply pw_below_drewN | apply below_drew1 | refine below_set ?_ (IsS101.ge HI0.out)) | exact HB.out)); rintro e w13 ⟨rfl, hi, hb, hk⟩; refine ⟨_, rfl, ?_⟩; replace HK := Aside0.mk (KeepBut.trans (by repeat (first | (with_reducible first | exact HK.out | apply KeepBut.set_ | apply keep_drewN | apply keep_drew | apply keep_alloc) | exact HK.out)) hk (.inl rfl)); replace HB := Aside0.mk (hb); replace HI0 := Aside0.mk (hi); (try clear hb); (try clear hb2); (try clear hk); (try clear hi)) | ((with_reducible refine gate_callee (f := 70) rfl ?_); refine goesM_ (some 20) rfl rfl Try.func70 (by kernel_rfl) rfl #[.pointer (some ⟨g, 0, none⟩)] rfl ?_; (with_reducible refine (spec_l01Byte.calls g s0_0 t635 t636 t637 t638 t639 w0 _ ?side1 ?side2 A9.out).mono ?_); (case side1 => repeat (first | (with_reducible first | exact HI0.out | apply IsS101.alloc | apply IsS101.drewN | apply IsS101.drew | apply IsS101.set_1 | apply IsS101.set_2) | exact HI0.out)); (case side2 => repeat (first | (with_reducible first | exact HB.out | apply below_alloc | apply pw_below_drewN | apply below_drew1 | refine below_set ?_ (IsS101.ge HI0.out)) | exact HB.out)); rintro e w14 ⟨rfl, hi, hb, hk⟩; refine ⟨_, rfl, ?_⟩; replace HK := Aside0.mk (KeepBut.trans (by repeat (first | (with_reducible first | exact HK.out | apply KeepBut.set_ | apply keep_drewN | apply keep_drew | apply keep_alloc) | exact HK.out)) hk (.inl rfl)); replace HB := Aside0.mk (hb); replace HI0 := Aside0.mk (hi); (try clear hb); (try clear hb2); (try clear hk); (try clear hi)) | ((with_reducible refine gate_callee (f := 70) rfl ?_); refine goesM_ (some 22) rfl rfl Try.func70 (by kernel_rfl) rfl #[.pointer (some ⟨g, 0, none⟩)] rfl ?_; (with_reducible refine (spec_l01Byte.calls g s0_0 t638 t639 t640 t641 t642 w0 _ ?side1 ?side2 A10.out).mono ?_); (case side1 => repeat (first | (with_reducible first | exact HI0.out | apply IsS101.alloc | apply IsS101.drewN | apply IsS101.drew | apply IsS101.set_1 | apply IsS101.set_2) | exact HI0.out)); (case side2 => repeat (first | (with_reducible first | exact HB.out | apply below_alloc | apply pw_below_drewN | apply below_drew1 | refine below_set ?_ (IsS101.ge HI0.out)) | exact HB.out)); rintro e w15 ⟨rfl, hi, hb, hk⟩; refine ⟨_, rfl, ?_⟩; replace HK := Aside0.mk (KeepBut.trans (by repeat (first | (with_reducible first | exact HK.out | apply KeepBut.set_ | apply keep_drewN | apply keep_drew | apply keep_alloc) | exact HK.out)) hk (.inl rfl)); replace HB := Aside0.mk (hb); replace HI0 := Aside0.mk (hi); (try clear hb); (try clear hb2); (try clear hk); (try clear hi)) | ((with_reducible refine gate_callee (f := 70) rfl ?_); refine goesM_ (some 24) rfl rfl Try.func70 (by kernel_rfl) rfl #[.pointer (some ⟨g, 0, none⟩)] rfl ?_; (with_reducible refine (spec_l01Byte.calls g s0_0 t641 t642 t643 t644 t645 w0 _ ?side1 ?side2 A11.out).mono ?_); (case side1 => repeat (first | (with_reducible first | exact HI0.out | apply IsS101.alloc | apply IsS101.drewN | apply IsS101.drew | apply IsS101.set_1 | apply IsS101.set_2) | exact HI0.out)); (case side2 => repeat (first | (with_reducible first | exact HB.out | apply below_alloc | apply pw_below_drewN | apply below_drew1 | refine below_set ?_ (IsS101.ge HI0.out)) | exact HB.out)); rintro e w16 ⟨rfl, hi, hb, hk⟩; refine ⟨_, rfl, ?_⟩; replace HK := Aside0.mk (KeepBut.trans (by repeat (first | (with_reducible first | exact HK.out | apply KeepBut.set_ | apply keep_drewN | apply keep_drew | apply keep_alloc) | exact HK.out)) hk (.inl rfl)); replace HB := Aside0.mk (hb); replace HI0 := Aside0.mk (hi); (try clear hb); (try clear hb2); (try clear hk); (try clear hi)))
 go_ret
 exact ⟨by first | rfl | (simp [errW_none, errW_some] <;> rfl) | (simp [*, errW_none, errW_some] <;> rfl), by repeat (first | (with_reducible first | exact HI0.out | apply IsS101.alloc | apply IsS101.drewN | apply IsS101.drew | apply IsS101.set_1 | apply IsS101.set_2) | exact HI0.out), by repeat (first | (with_reducible first | exact HB.out | apply below_alloc | apply pw_below_drewN | apply below_drew1 | refine below_set ?_ (IsS101.ge HI0.out)) | exact HB.out), by repeat (first | (with_reducible first | exact HK.out | apply KeepBut.set_ | apply keep_drewN | apply keep_drew | apply keep_alloc) | exact HK.out)⟩
def spec_l01In.f (a0 : Int) (a1 : Int) (a2 : Int) : Option (Bool) := if a0 ≥ a1 then (some (decide (a0 ≤ a2))) else (some false)
set_option maxHeartbeats 8000000 in
set_option maxRecDepth 100000 in
theorem spec_l01In.calls (a0 : Int) (a1 : Int) (a2 : Int) (r : Bool) (w : World) (h : spec_l01In.f a0 a1 a2 = some r) :
  Calls Try.prog 117 #[.int .i64 a0, .int .i64 a1, .int .i64 a2] w fun e w' => e = .returned (.bool r) ∧ Drawn0 w w' := by
 have H : (if a0 ≥ a1 then (some (decide (a0 ≤ a2))) else (some false)) = some r := h
 clear h
 by_cases c4 : a0 ≥ a1
 ·rw [if_pos c4] at H
  have c4b0 : decide (a1 ≤ a0) = true := decide_eq_true c4
  clear c4
  obtain rfl := Option.some.inj H
  go_enter Try.func117, Try.ntmps117
  go_wp2
  go_ret
  exact ⟨eqA, by repeat (first | exact Drawn0.refl _ | apply Drawn0.step)⟩
 rw [if_neg c4] at H
 have c4b0 : decide (a1 ≤ a0) = false := decide_eq_false c4
 clear c4
 obtain rfl := Option.some.inj H
 go_enter Try.func117, Try.ntmps117
 go_wp2
 go_ret
 exact ⟨eqA, by repeat (first | exact Drawn0.refl _ | apply Drawn0.step)⟩
mutual
def spec_EdgesOk.j0 : Nat → Bool → Int → List (S67) → Option (Bool)
 | 0, _, _, _ => none
 | k + 1, x14, x171000, x171001 => if x14 = true then (some false) else (spec_EdgesOk.l0 k x171001 (x171001.length : Int) 0 x171000 x171001)
def spec_EdgesOk.l0 : Nat → List (S67) → Int → Int → Int → List (S67) → Option (Bool)
 | 0, _, _, _, _, _ => none
 | k + 1, x16, x17, x18, x171000, x171001 => if x18 < x17 then (if 0 ≤ x18 then (if x18 < (x16.length : Int) then ((spec_l01In.f ((rd_T67 x16 x18).f0) 0 (wrap64 (x171000 - 1))).bind fun t174 => (if t174 = true then ((spec_l01In.f ((rd_T67 x16 x18).f1) (wrap64 (((rd_T67 x16 x18).f0) + 1)) (wrap64 (x171000 - 1))).bind fun t175 => (if t175 = true then (spec_EdgesOk.l0 k x16 x17 (wrap64 (x18 + 1)) x171000 x171001) else (some false))) else (some false))) else (none)) else (none)) else (some true)
end
def spec_EdgesOk.f (k : Nat) (a0_0 : Int) (l0_1 : List (S67)) : Option (Bool) := (spec_l01In.f a0_0 1 6).bind fun t171 => (if t171 = true then (spec_EdgesOk.j0 k (decide ((l0_1.length : Int) > 12)) a0_0 l0_1) else (spec_EdgesOk.j0 k true a0_0 l0_1))
set_option maxHeartbeats 8000000 in
set_option maxRecDepth 100000 in
theorem spec_EdgesOk.calls (k : Nat) (a0_0 : Int) (A0_1 : Option Addr) (c0_1 : Nat) (l0_1 : List (S67)) (r : Bool) (w : World) (hr0_1 : Kd.C k67 w A0_1 l0_1.length l0_1) (hc0_1 : l0_1.length ≤ c0_1) (h : spec_EdgesOk.f k a0_0 l0_1 = some r) :
  Calls Try.prog 132 #[.agg #[.int .i64 a0_0, .slice A0_1 l0_1.length c0_1]] w fun e w' => e = .returned (.bool r) ∧ Below w.heap.size w w' := by
 have hu31 := Try.underlying31
 have hu67 := Try.underlying67
 have HR0_1 := Aside0.mk hr0_1
 have HC0_1 := Aside0.mk hc0_1
 clear hr0_1 hc0_1
 have HB := Aside0.mk (Below.refl w.heap.size w)
 have H : ((spec_l01In.f a0_0 1 6).bind fun t171 => (if t171 = true then (spec_EdgesOk.j0 k (decide ((l0_1.length : Int) > 12)) a0_0 l0_1) else (spec_EdgesOk.j0 k true a0_0 l0_1))) = some r := h
 clear h
 have HC2 := Aside0.mk H
 clear H
 go_enter Try.func132, Try.ntmps132
 go_upto_region 1 with (first | ((with_reducible refine gate_dst (N := 1) rfl ?_); (try (refine gate_guard (by rfl) ?_; dsimp only)); refine box_event ?hg (N := 1) ?hd (cs := #[.int .i64 a0_0, .slice A0_1 l0_1.length c0_1]) (t := 31) ?hr ?_; (case hd => rfl); (case hg => rfl); (case hr => first | (go_simp; done) | (go_simp; rfl)); intro gb170 hg w3 hbox hb; have BK170 := Aside0.mk (hbox); have GW170 := Aside0.mk ((by rw [hg]; exact (below_size (Lz HB)) : w.heap.size ≤ gb170)); have GE170 := Aside0.mk ((by rw [hg]; exact (below_size (Lz HB)) : w.heap.size ≤ gb170)); replace HB := Aside0.mk (below_step (Lz HB) hb); clear hb hbox hg))
 (try simp only [Act.put, List.setIfInBounds_toArray, List.set_cons_zero, List.set_cons_succ])
 go_cut [14] (fun v14 wc => ∃ (kq : Nat) (x14_1 : Bool), v14 = .bool x14_1 ∧ Aside0 (spec_EdgesOk.j0 kq x14_1 a0_0 l0_1 = some r) ∧ Aside0 (kq ≤ k) ∧ Aside0 (wc.heap[gb170]? = some (.cells #[.int .i64 a0_0, (.slice A0_1 l0_1.length c0_1)] 31 (0, 0))) ∧ Aside0 (Below w.heap.size w wc))
 case first =>
  have H := HC2.out
  clear HC2
  replace H := Option.bind_eq_some_iff.mp H
  obtain ⟨t171, A40, H⟩ := H
  replace H : (if t171 = true then (spec_EdgesOk.j0 k (decide ((l0_1.length : Int) > 12)) a0_0 l0_1) else (spec_EdgesOk.j0 k true a0_0 l0_1)) = some r := H
  have A4 := Aside0.mk A40
  clear A40
  by_cases c5 : t171 = true
  ·subst c5
   have H1 : (spec_EdgesOk.j0 k (decide ((l0_1.length : Int) > 12)) a0_0 l0_1) = some r := by rw [if_pos rfl] at H; exact H
   clear H
   have H := H1
   clear H1
   have H' := Aside0.mk H
   clear H
   have hcz6_0 : w3.cell? ⟨gb170, 0, none⟩ = some (.int .i64 a0_0) := (blk_cell BK170.out 0).trans rfl
   have hcz6_1 : w3.cell? ⟨gb170, 1, none⟩ = some (.slice A0_1 l0_1.length c0_1) := (blk_cell BK170.out 1).trans rfl
   have hfz6_0 := blk_frozen BK170.out 0
   have hfz6_1 := blk_frozen BK170.out 1
   go_wp2_with (first | ((with_reducible refine gate_callee (f := 117) rfl ?_); refine goesM_ (some 7) rfl rfl Try.func117 (by kernel_rfl) rfl #[.int .i64 a0_0, .int .i64 1, .int .i64 6] rfl ?_; (with_reducible refine (spec_l01In.calls a0_0 1 6 true _ A4.out).mono ?_); rintro e w' ⟨rfl, ⟨nd, rfl⟩⟩; refine ⟨_, rfl, ?_⟩))
   go_meet
   case rel => exact ⟨_, (decide ((l0_1.length : Int) > 12)), eqA, H', ⟨by first | omega | exact Nat.le_refl _⟩, ⟨by exact Bz BK170⟩, ⟨by exact Lz1 HB GE170⟩⟩
  replace c5 := Bool.eq_false_iff.mpr c5
  subst c5
  have H1 : (spec_EdgesOk.j0 k true a0_0 l0_1) = some r := by rw [if_neg (show ¬ (false = true) by decide)] at H; exact H
  clear H
  have H := H1
  clear H1
  have H' := Aside0.mk H
  clear H
  have hcz7_0 : w3.cell? ⟨gb170, 0, none⟩ = some (.int .i64 a0_0) := (blk_cell BK170.out 0).trans rfl
  have hcz7_1 : w3.cell? ⟨gb170, 1, none⟩ = some (.slice A0_1 l0_1.length c0_1) := (blk_cell BK170.out 1).trans rfl
  have hfz7_0 := blk_frozen BK170.out 0
  have hfz7_1 := blk_frozen BK170.out 1
  go_wp2_with (first | ((with_reducible refine gate_callee (f := 117) rfl ?_); refine goesM_ (some 7) rfl rfl Try.func117 (by kernel_rfl) rfl #[.int .i64 a0_0, .int .i64 1, .int .i64 6] rfl ?_; (with_reducible refine (spec_l01In.calls a0_0 1 6 false _ A4.out).mono ?_); rintro e w' ⟨rfl, ⟨nd, rfl⟩⟩; refine ⟨_, rfl, ?_⟩))
  go_meet
  case rel => exact ⟨_, (true), eqA, H', ⟨by first | omega | exact Nat.le_refl _⟩, ⟨by exact Bz BK170⟩, ⟨by exact Lz1 HB GE170⟩⟩
 case rest =>
  clear HC2
  try clear c5
  obtain ⟨kq, x14_1, rfl, HA, HJ1, BK170, HB⟩ := hcut
  cases kq with
  | zero => exact absurd HA.out (by simp [spec_EdgesOk.j0])
  | succ kj1 =>
   have H := HA.out
   clear HA
   simp only [spec_EdgesOk.j0] at H
   by_cases c8 : x14_1 = true
   ·subst c8
    have H1 : (some false) = some r := by rw [if_pos rfl] at H; exact H
    clear H
    have H := H1
    clear H1
    obtain rfl := Option.some.inj H
    go_wp2
    go_ret
    exact ⟨by first | rfl | (simp [errW_none, errW_some] <;> rfl) | (simp [*, errW_none, errW_some] <;> rfl), by exact Lz1 HB GE170⟩
   replace c8 := Bool.eq_false_iff.mpr c8
   subst c8
   have H1 : (spec_EdgesOk.l0 kj1 l0_1 (l0_1.length : Int) 0 a0_0 l0_1) = some r := by rw [if_neg (show ¬ (false = true) by decide)] at H; exact H
   clear H
   have H := H1
   clear H1
   have H' := Aside0.mk H
   clear H
   have hcz9_0 : wc.cell? ⟨gb170, 0, none⟩ = some (.int .i64 a0_0) := (blk_cell BK170.out 0).trans rfl
   have hcz9_1 : wc.cell? ⟨gb170, 1, none⟩ = some (.slice A0_1 l0_1.length c0_1) := (blk_cell BK170.out 1).trans rfl
   have hfz9_0 := blk_frozen BK170.out 0
   have hfz9_1 := blk_frozen BK170.out 1
   go_wp2
   go_loopg [18] kj1 (fun kq v18 w' => ∃ (x18_2 : Int), v18 = .int .i64 x18_2 ∧ Aside0 (spec_EdgesOk.l0 kq l0_1 (l0_1.length : Int) x18_2 a0_0 l0_1 = some r) ∧ Aside0 (kq ≤ kj1) ∧ Aside0 (w'.heap[gb170]? = some (.cells #[.int .i64 a0_0, (.slice A0_1 l0_1.length c0_1)] 31 (0, 0))) ∧ Aside0 (Below w.heap.size w w'))
   case atStart => exact ⟨(0), eqA, H', ⟨Nat.le_refl _⟩, ⟨by exact Bz BK170⟩, ⟨by exact Lz1 HB GE170⟩⟩
   case round =>
    clear H'
    try clear c5
    try clear c8
    obtain ⟨x18_2, rfl, HA, HK2, BK170, HB⟩ := hrel
    cases gk with
    | zero => exact absurd HA.out (by simp [spec_EdgesOk.l0])
    | succ k2 =>
     have H := HA.out
     clear HA
     simp only [spec_EdgesOk.l0] at H
     by_cases c10 : x18_2 < (l0_1.length : Int)
     ·rw [if_pos c10] at H
      have c10b0 : decide (x18_2 < (l0_1.length : Int)) = true := decide_eq_true c10
      clear c10
      by_cases c11 : 0 ≤ x18_2
      ·rw [if_pos c11] at H
       have c11b0 : decide (0 ≤ x18_2) = true := decide_eq_true c11
       clear c11
       by_cases c12 : x18_2 < (l0_1.length : Int)
       ·rw [if_pos c12] at H
        have c12b0 : decide (x18_2 < (l0_1.length : Int)) = true := decide_eq_true c12
        clear c12
        replace H := Option.bind_eq_some_iff.mp H
        obtain ⟨t174, A130, H⟩ := H
        replace H : (if t174 = true then ((spec_l01In.f ((rd_T67 l0_1 x18_2).f1) (wrap64 (((rd_T67 l0_1 x18_2).f0) + 1)) (wrap64 (a0_0 - 1))).bind fun t175 => (if t175 = true then (spec_EdgesOk.l0 k2 l0_1 (l0_1.length : Int) (wrap64 (x18_2 + 1)) a0_0 l0_1) else (some false))) else (some false)) = some r := H
        have A13 := Aside0.mk A130
        clear A130
        by_cases c14 : t174 = true
        ·subst c14
         have H1 : ((spec_l01In.f ((rd_T67 l0_1 x18_2).f1) (wrap64 (((rd_T67 l0_1 x18_2).f0) + 1)) (wrap64 (a0_0 - 1))).bind fun t175 => (if t175 = true then (spec_EdgesOk.l0 k2 l0_1 (l0_1.length : Int) (wrap64 (x18_2 + 1)) a0_0 l0_1) else (some false))) = some r := by rw [if_pos rfl] at H; exact H
         clear H
         have H := H1
         clear H1
         replace H := Option.bind_eq_some_iff.mp H
         obtain ⟨t175, A150, H⟩ := H
         replace H : (if t175 = true then (spec_EdgesOk.l0 k2 l0_1 (l0_1.length : Int) (wrap64 (x18_2 + 1)) a0_0 l0_1) else (some false)) = some r := H
         have A15 := Aside0.mk A150
         clear A150
         by_cases c16 : t175 = true
         ·subst c16
          have H1 : (spec_EdgesOk.l0 k2 l0_1 (l0_1.length : Int) (wrap64 (x18_2 + 1)) a0_0 l0_1) = some r := by rw [if_pos rfl] at H; exact H
          clear H
          have H := H1
          clear H1
          have H' := Aside0.mk H
          clear H
          have p172 : 0 ≤ (x18_2 : Int) := ofA
          have q172 : x18_2 < (l0_1.length : Int) := ofA
          obtain ⟨ad172, e172, hx172_0, hx172_1⟩ := at_T67 HR0_1.out x18_2 p172 q172
          cases e172
          replace hx172_0 := (HB.out.cell (World.block_lt_of_cell? w _ hx172_0)).trans hx172_0
          replace hx172_1 := (HB.out.cell (World.block_lt_of_cell? w _ hx172_1)).trans hx172_1
          replace p172 := eq_true p172
          replace q172 := eq_true q172
          go_wp2_with (first | ((with_reducible refine gate_dst (N := 4) rfl ?_); (try (refine gate_guard (by rfl) ?_; dsimp only)); refine box_event ?hg (N := 4) ?hd (cs := #[.int .i64 0, .int .i64 0]) (t := 67) ?hr ?_; (case hd => rfl); (case hg => rfl); (case hr => first | (go_simp; done) | (go_simp; rfl)); intro gb173 hg w17 hbox hb; have BK173 := Aside0.mk (hbox); have GW173 := Aside0.mk ((by rw [hg]; exact (below_size (by exact Lz1 HB GE170)) : w.heap.size ≤ gb173)); have GE173 := Aside0.mk ((by rw [hg]; exact (below_size (by exact Lz1 HB GE170)) : w.heap.size ≤ gb173)); replace HB := Aside0.mk (below_step (by exact Lz1 HB GE170) hb); have NB170_173 := Aside0.mk ((by rw [hg]; exact Nat.ne_of_lt (blk_lt (g := gb170) (o := .cells #[.int .i64 a0_0, .slice (some ad172) l0_1.length c0_1] 31 (0, 0)) (Bz BK170)) : gb170 ≠ gb173)); have NB173_170 := Aside0.mk ((by rw [hg]; exact Nat.ne_of_gt (blk_lt (g := gb170) (o := .cells #[.int .i64 a0_0, .slice (some ad172) l0_1.length c0_1] 31 (0, 0)) (Bz BK170)) : gb173 ≠ gb170)); replace BK170 := Aside0.mk (blk_below (g := gb170) (o := .cells #[.int .i64 a0_0, .slice (some ad172) l0_1.length c0_1] 31 (0, 0)) (Bz BK170) hb); clear hb hbox hg; have hnb18 := NB173_170.out; have hnc18 := NB170_173.out; have hcz19_0 : w17.cell? ⟨gb173, 0, none⟩ = some (.int .i64 0) := (blk_cell BK173.out 0).trans rfl; have hcz19_1 : w17.cell? ⟨gb173, 1, none⟩ = some (.int .i64 0) := (blk_cell BK173.out 1).trans rfl; have hfz19_0 := blk_frozen BK173.out 0; have hfz19_1 := blk_frozen BK173.out 1; have hcz20_0 : w17.cell? ⟨gb170, 0, none⟩ = some (.int .i64 a0_0) := (blk_cell BK170.out 0).trans rfl; have hcz20_1 : w17.cell? ⟨gb170, 1, none⟩ = some (.slice (some ad172) l0_1.length c0_1) := (blk_cell BK170.out 1).trans rfl; have hfz20_0 := blk_frozen BK170.out 0; have hfz20_1 := blk_frozen BK170.out 1) | ((with_reducible refine gate_callee (f := 117) rfl ?_); refine goesM_ (some 27) rfl rfl Try.func117 (by kernel_rfl) rfl #[.int .i64 ((rd_T67 l0_1 x18_2).f0), .int .i64 0, .int .i64 (wrap64 (a0_0 - 1))] rfl ?_; (with_reducible refine (spec_l01In.calls ((rd_T67 l0_1 x18_2).f0) 0 (wrap64 (a0_0 - 1)) true _ A13.out).mono ?_); rintro e w' ⟨rfl, ⟨nd, rfl⟩⟩; refine ⟨_, rfl, ?_⟩) | (go_at_call 117; (with_reducible refine (spec_l01In.calls ((rd_T67 l0_1 x18_2).f1) (wrap64 (((rd_T67 l0_1 x18_2).f0) + 1)) (wrap64 (a0_0 - 1)) true _ A15.out).mono ?_); rintro e w' ⟨rfl, ⟨nd, rfl⟩⟩))
          go_roundg k2
          case measure => have := HJ1.out; have := HK2.out; omega
          case rel => exact ⟨(wrap64 (x18_2 + 1)), eqA, H', ⟨by have := HJ1.out; have := HK2.out; omega⟩, ⟨by (with_reducible repeat (first | refine blk_drewN ?_ _ | refine blk_drew ?_ | refine blk_alloc ?_ _)); refine blk_far ?_ NB170_173.out _; (with_reducible repeat (first | refine blk_drewN ?_ _ | refine blk_drew ?_ | refine blk_alloc ?_ _)); refine blk_far ?_ NB170_173.out _; exact Bz BK170⟩, ⟨by exact Lz2 HB GE170 GE173⟩⟩
         replace c16 := Bool.eq_false_iff.mpr c16
         subst c16
         have H1 : (some false) = some r := by rw [if_neg (show ¬ (false = true) by decide)] at H; exact H
         clear H
         have H := H1
         clear H1
         obtain rfl := Option.some.inj H
         have p172 : 0 ≤ (x18_2 : Int) := ofA
         have q172 : x18_2 < (l0_1.length : Int) := ofA
         obtain ⟨ad172, e172, hx172_0, hx172_1⟩ := at_T67 HR0_1.out x18_2 p172 q172
         cases e172
         replace hx172_0 := (HB.out.cell (World.block_lt_of_cell? w _ hx172_0)).trans hx172_0
         replace hx172_1 := (HB.out.cell (World.block_lt_of_cell? w _ hx172_1)).trans hx172_1
         replace p172 := eq_true p172
         replace q172 := eq_true q172
         go_wp2_with (first | ((with_reducible refine gate_dst (N := 4) rfl ?_); (try (refine gate_guard (by rfl) ?_; dsimp only)); refine box_event ?hg (N := 4) ?hd (cs := #[.int .i64 0, .int .i64 0]) (t := 67) ?hr ?_; (case hd => rfl); (case hg => rfl); (case hr => first | (go_simp; done) | (go_simp; rfl)); intro gb173 hg w21 hbox hb; have BK173 := Aside0.mk (hbox); have GW173 := Aside0.mk ((by rw [hg]; exact (below_size (by exact Lz1 HB GE170)) : w.heap.size ≤ gb173)); have GE173 := Aside0.mk ((by rw [hg]; exact (below_size (by exact Lz1 HB GE170)) : w.heap.size ≤ gb173)); replace HB := Aside0.mk (below_step (by exact Lz1 HB GE170) hb); have NB170_173 := Aside0.mk ((by rw [hg]; exact Nat.ne_of_lt (blk_lt (g := gb170) (o := .cells #[.int .i64 a0_0, .slice (some ad172) l0_1.length c0_1] 31 (0, 0)) (Bz BK170)) : gb170 ≠ gb173)); have NB173_170 := Aside0.mk ((by rw [hg]; exact Nat.ne_of_gt (blk_lt (g := gb170) (o := .cells #[.int .i64 a0_0, .slice (some ad172) l0_1.length c0_1] 31 (0, 0)) (Bz BK170)) : gb173 ≠ gb170)); replace BK170 := Aside0.mk (blk_below (g := gb170) (o := .cells #[.int .i64 a0_0, .slice (some ad172) l0_1.length c0_1] 31 (0, 0)) (Bz BK170) hb); clear hb hbox hg; have hnb22 := NB173_170.out; have hnc22 := NB170_173.out; have hcz23_0 : w21.cell? ⟨gb173, 0, none⟩ = some (.int .i64 0) := (blk_cell BK173.out 0).trans rfl; have hcz23_1 : w21.cell? ⟨gb173, 1, none⟩ = some (.int .i64 0) := (blk_cell BK173.out 1).trans rfl; have hfz23_0 := blk_frozen BK173.out 0; have hfz23_1 := blk_frozen BK173.out 1; have hcz24_0 : w21.cell? ⟨gb170, 0, none⟩ = some (.int .i64 a0_0) := (blk_cell BK170.out 0).trans rfl; have hcz24_1 : w21.cell? ⟨gb170, 1, none⟩ = some (.slice (some ad172) l0_1.length c0_1) := (blk_cell BK170.out 1).trans rfl; have hfz24_0 := blk_frozen BK170.out 0; have hfz24_1 := blk_frozen BK170.out 1) | ((with_reducible refine gate_callee (f := 117) rfl ?_); refine goesM_ (some 27) rfl rfl Try.func117 (by kernel_rfl) rfl #[.int .i64 ((rd_T67 l0_1 x18_2).f0), .int .i64 0, .int .i64 (wrap64 (a0_0 - 1))] rfl ?_; (with_reducible refine (spec_l01In.calls ((rd_T67 l0_1 x18_2).f0) 0 (wrap64 (a0_0 - 1)) true _ A13.out).mono ?_); rintro e w' ⟨rfl, ⟨nd, rfl⟩⟩; refine ⟨_, rfl, ?_⟩) | (go_at_call 117; (with_reducible refine (spec_l01In.calls ((rd_T67 l0_1 x18_2).f1) (wrap64 (((rd_T67 l0_1 x18_2).f0) + 1)) (wrap64 (a0_0 - 1)) false _ A15.out).mono ?_); rintro e w' ⟨rfl, ⟨nd, rfl⟩⟩))
         go_ret
         exact ⟨by first | rfl | (simp [errW_none, errW_some] <;> rfl) | (simp [*, errW_none, errW_some] <;> rfl), by exact Lz2 HB GE170 GE173⟩
        replace c14 := Bool.eq_false_iff.mpr c14
        subst c14
        have H1 : (some false) = some r := by rw [if_neg (show ¬ (false = true) by decide)] at H; exact H
        clear H
        have H := H1
        clear H1
        obtain rfl := Option.some.inj H
        have p172 : 0 ≤ (x18_2 : Int) := ofA
        have q172 : x18_2 < (l0_1.length : Int) := ofA
        obtain ⟨ad172, e172, hx172_0, hx172_1⟩ := at_T67 HR0_1.out x18_2 p172 q172
        cases e172
        replace hx172_0 := (HB.out.cell (World.block_lt_of_cell? w _ hx172_0)).trans hx172_0
        replace hx172_1 := (HB.out.cell (World.block_lt_of_cell? w _ hx172_1)).trans hx172_1
        replace p172 := eq_true p172
        replace q172 := eq_true q172
        go_wp2_with (first | ((with_reducible refine gate_dst (N := 4) rfl ?_); (try (refine gate_guard (by rfl) ?_; dsimp only)); refine box_event ?hg (N := 4) ?hd (cs := #[.int .i64 0, .int .i64 0]) (t := 67) ?hr ?_; (case hd => rfl); (case hg => rfl); (case hr => first | (go_simp; done) | (go_simp; rfl)); intro gb173 hg w25 hbox hb; have BK173 := Aside0.mk (hbox); have GW173 := Aside0.mk ((by rw [hg]; exact (below_size (by exact Lz1 HB GE170)) : w.heap.size ≤ gb173)); have GE173 := Aside0.mk ((by rw [hg]; exact (below_size (by exact Lz1 HB GE170)) : w.heap.size ≤ gb173)); replace HB := Aside0.mk (below_step (by exact Lz1 HB GE170) hb); have NB170_173 := Aside0.mk ((by rw [hg]; exact Nat.ne_of_lt (blk_lt (g := gb170) (o := .cells #[.int .i64 a0_0, .slice (some ad172) l0_1.length c0_1] 31 (0, 0)) (Bz BK170)) : gb170 ≠ gb173)); have NB173_170 := Aside0.mk ((by rw [hg]; exact Nat.ne_of_gt (blk_lt (g := gb170) (o := .cells #[.int .i64 a0_0, .slice (some ad172) l0_1.length c0_1] 31 (0, 0)) (Bz BK170)) : gb173 ≠ gb170)); replace BK170 := Aside0.mk (blk_below (g := gb170) (o := .cells #[.int .i64 a0_0, .slice (some ad172) l0_1.length c0_1] 31 (0, 0)) (Bz BK170) hb); clear hb hbox hg; have hnb26 := NB173_170.out; have hnc26 := NB170_173.out; have hcz27_0 : w25.cell? ⟨gb173, 0, none⟩ = some (.int .i64 0) := (blk_cell BK173.out 0).trans rfl; have hcz27_1 : w25.cell? ⟨gb173, 1, none⟩ = some (.int .i64 0) := (blk_cell BK173.out 1).trans rfl; have hfz27_0 := blk_frozen BK173.out 0; have hfz27_1 := blk_frozen BK173.out 1; have hcz28_0 : w25.cell? ⟨gb170, 0, none⟩ = some (.int .i64 a0_0) := (blk_cell BK170.out 0).trans rfl; have hcz28_1 : w25.cell? ⟨gb170, 1, none⟩ = some (.slice (some ad172) l0_1.length c0_1) := (blk_cell BK170.out 1).trans rfl; have hfz28_0 := blk_frozen BK170.out 0; have hfz28_1 := blk_frozen BK170.out 1) | ((with_reducible refine gate_callee (f := 117) rfl ?_); refine goesM_ (some 27) rfl rfl Try.func117 (by kernel_rfl) rfl #[.int .i64 ((rd_T67 l0_1 x18_2).f0), .int .i64 0, .int .i64 (wrap64 (a0_0 - 1))] rfl ?_; (with_reducible refine (spec_l01In.calls ((rd_T67 l0_1 x18_2).f0) 0 (wrap64 (a0_0 - 1)) false _ A13.out).mono ?_); rintro e w' ⟨rfl, ⟨nd, rfl⟩⟩; refine ⟨_, rfl, ?_⟩))
        go_ret
        exact ⟨by first | rfl | (simp [errW_none, errW_some] <;> rfl) | (simp [*, errW_none, errW_some] <;> rfl), by exact Lz2 HB GE170 GE173⟩
       rw [if_neg c12] at H
       exact absurd H (by simp)
      rw [if_neg c11] at H
      exact absurd H (by simp)
     rw [if_neg c10] at H
     have c10b0 : decide (x18_2 < (l0_1.length : Int)) = false := decide_eq_false c10
     clear c10
     obtain rfl := Option.some.inj H
     go_wp2
     go_ret
     exact ⟨by first | rfl | (simp [errW_none, errW_some] <;> rfl) | (simp [*, errW_none, errW_some] <;> rfl), by exact Lz1 HB GE170⟩
def spec_l02Has.l0 : Nat → Int → List Int → Int → Int → Option (Bool)
 | 0, _, _, _, _ => none
 | k + 1, x1, x7, x8, x9 => if x9 < x8 then (if 0 ≤ x9 then (if x9 < (x7.length : Int) then (if (rd x7 x9) = x1 then (some true) else (spec_l02Has.l0 k x1 x7 x8 (wrap64 (x9 + 1)))) else (none)) else (none)) else (some false)
def spec_l02Has.f (k : Nat) (l0 : List Int) (a1 : Int) : Option (Bool) := spec_l02Has.l0 k a1 l0 (l0.length : Int) 0
set_option maxHeartbeats 8000000 in
set_option maxRecDepth 100000 in
theorem spec_l02Has.calls (k : Nat) (A0 : Option Addr) (c0 : Nat) (l0 : List Int) (a1 : Int) (r : Bool) (w : World) (hr0 : Kd.C (Kd.int .i64) w A0 l0.length l0) (hc0 : l0.length ≤ c0) (h : spec_l02Has.f k l0 a1 = some r) :
  Calls Try.prog 98 #[.slice A0 l0.length c0, .int .i64 a1] w fun e w' => e = .returned (.bool r) ∧ Drawn0 w w' := by
 have HR0 := Aside0.mk hr0
 have HC0 := Aside0.mk hc0
 clear hr0 hc0
 have H : (spec_l02Has.l0 k a1 l0 (l0.length : Int) 0) = some r := h
 clear h
 have H' := Aside0.mk H
 clear H
 go_enter Try.func98, Try.ntmps98
 go_wp2
 go_loopg [9] k (fun kq v9 w' => ∃ (x9_1 : Int), v9 = .int .i64 x9_1 ∧ Aside0 (spec_l02Has.l0 kq a1 l0 (l0.length : Int) x9_1 = some r) ∧ Aside0 (kq ≤ k) ∧ Drawn0 w w')
 case atStart => exact ⟨(0), eqA, H', ⟨Nat.le_refl _⟩, by repeat (first | exact Drawn0.refl _ | apply Drawn0.step)⟩
 case round =>
  clear H'
  obtain ⟨x9_1, rfl, HA, HK1, ⟨m1, rfl⟩⟩ := hrel
  cases gk with
  | zero => exact absurd HA.out (by simp [spec_l02Has.l0])
  | succ k1 =>
   have H := HA.out
   clear HA
   simp only [spec_l02Has.l0] at H
   by_cases c3 : x9_1 < (l0.length : Int)
   ·rw [if_pos c3] at H
    have c3b0 : decide (x9_1 < (l0.length : Int)) = true := decide_eq_true c3
    clear c3
    by_cases c4 : 0 ≤ x9_1
    ·rw [if_pos c4] at H
     have c4b0 : decide (0 ≤ x9_1) = true := decide_eq_true c4
     clear c4
     by_cases c5 : x9_1 < (l0.length : Int)
     ·rw [if_pos c5] at H
      have c5b0 : decide (x9_1 < (l0.length : Int)) = true := decide_eq_true c5
      clear c5
      by_cases c6 : (rd l0 x9_1) = a1
      ·rw [if_pos c6] at H
       have c6b0 : ((rd l0 x9_1) == a1) = true := beq_iff_eq.mpr c6
       have c6b1 : ((rd l0 x9_1) != a1) = false := bne_eq_false_iff_eq.mpr c6
       clear c6
       obtain rfl := Option.some.inj H
       have p143 : 0 ≤ (x9_1 : Int) := ofA
       have q143 : x9_1 < (l0.length : Int) := ofA
       obtain ⟨ad143, e143, hx143_0⟩ := Kd.at_int HR0.out x9_1 p143 q143
       cases e143
       replace p143 := eq_true p143
       replace q143 := eq_true q143
       go_wp2
       go_ret
       exact ⟨eqA, by repeat (first | exact Drawn0.refl _ | apply Drawn0.step)⟩
      rw [if_neg c6] at H
      have c6b0 : ((rd l0 x9_1) == a1) = false := beq_eq_false_iff_ne.mpr c6
      have c6b1 : ((rd l0 x9_1) != a1) = true := bne_iff_ne.mpr c6
      have H' := Aside0.mk H
      clear H
      have p143 : 0 ≤ (x9_1 : Int) := ofA
      have q143 : x9_1 < (l0.length : Int) := ofA
      obtain ⟨ad143, e143, hx143_0⟩ := Kd.at_int HR0.out x9_1 p143 q143
      cases e143
      replace p143 := eq_true p143
      replace q143 := eq_true q143
      go_wp2
      go_roundg k1
      case measure => have := HK1.out; omega
      case rel => exact ⟨(wrap64 (x9_1 + 1)), eqA, H', ⟨by have := HK1.out; omega⟩, by repeat (first | exact Drawn0.refl _ | apply Drawn0.step)⟩
     rw [if_neg c5] at H
     exact absurd H (by simp)
    rw [if_neg c4] at H
    exact absurd H (by simp)
   rw [if_neg c3] at H
   have c3b0 : decide (x9_1 < (l0.length : Int)) = false := decide_eq_false c3
   clear c3
   obtain rfl := Option.some.inj H
   go_wp2
   go_ret
   exact ⟨eqA, by repeat (first | exact Drawn0.refl _ | apply Drawn0.step)⟩
mutual
def spec_l02Reach.l0 : Nat → List Int → Int → Int → List (S67) → Option (List Int)
 | 0, _, _, _, _ => none
 | k + 1, x3, x4, x177000, x177001 => if x4 < (x3.length : Int) then (spec_l02Reach.l1 k x3 x4 x177001 (x177001.length : Int) 0 x177000 x177001) else (some x3)
def spec_l02Reach.l1 : Nat → List Int → Int → List (S67) → Int → Int → Int → List (S67) → Option (List Int)
 | 0, _, _, _, _, _, _, _ => none
 | k + 1, x3, x4, x15, x16, x17, x177000, x177001 => if x17 < x16 then (if 0 ≤ x17 then (if x17 < (x15.length : Int) then (if 0 ≤ x4 then (if x4 < (x3.length : Int) then (if ((rd_T67 x15 x17).f0) = (rd x3 x4) then ((spec_l02Has.f k x3 ((rd_T67 x15 x17).f1)).bind fun t183 => (spec_l02Reach.j2 k x3 x4 x15 x16 x17 (!t183) x177000 x177001 ((rd_T67 x15 x17).f0) ((rd_T67 x15 x17).f1))) else (spec_l02Reach.j2 k x3 x4 x15 x16 x17 false x177000 x177001 ((rd_T67 x15 x17).f0) ((rd_T67 x15 x17).f1))) else (none)) else (none)) else (none)) else (none)) else (spec_l02Reach.l0 k x3 (wrap64 (x4 + 1)) x177000 x177001)
def spec_l02Reach.j2 : Nat → List Int → Int → List (S67) → Int → Int → Bool → Int → List (S67) → Int → Int → Option (List Int)
 | 0, _, _, _, _, _, _, _, _, _, _ => none
 | k + 1, x3, x4, x15, x16, x17, x34, x177000, x177001, x182000, x182001 => if x34 = true then (if x3.length < 17592186044416 then (spec_l02Reach.j3 k (x3 ++ [x182001]) x4 x15 x16 x17 x177000 x177001 x182000 x182001) else (none)) else (spec_l02Reach.j3 k x3 x4 x15 x16 x17 x177000 x177001 x182000 x182001)
def spec_l02Reach.j3 : Nat → List Int → Int → List (S67) → Int → Int → Int → List (S67) → Int → Int → Option (List Int)
 | 0, _, _, _, _, _, _, _, _, _ => none
 | k + 1, x3, x4, x15, x16, x17, x177000, x177001, x182000, x182001 => if 0 ≤ x4 then (if x4 < (x3.length : Int) then (if x182001 = (rd x3 x4) then ((spec_l02Has.f k x3 x182000).bind fun t188 => (if t188 = true then (spec_l02Reach.l1 k x3 x4 x15 x16 (wrap64 (x17 + 1)) x177000 x177001) else (if x3.length < 17592186044416 then (spec_l02Reach.l1 k (x3 ++ [x182000]) x4 x15 x16 (wrap64 (x17 + 1)) x177000 x177001) else (none)))) else (spec_l02Reach.l1 k x3 x4 x15 x16 (wrap64 (x17 + 1)) x177000 x177001)) else (none)) else (none)
end
def spec_l02Reach.f (k : Nat) (a0_0 : Int) (l0_1 : List (S67)) : Option (List Int) := spec_l02Reach.l0 k (([0] : List Int)) 0 a0_0 l0_1
set_option maxHeartbeats 8000000 in
set_option maxRecDepth 100000 in
theorem spec_l02Reach.calls (k : Nat) (a0_0 : Int) (A0_1 : Option Addr) (c0_1 : Nat) (l0_1 : List (S67)) (r : List Int) (w : World) (hr0_1 : Kd.C k67 w A0_1 l0_1.length l0_1) (hc0_1 : l0_1.length ≤ c0_1) (h : spec_l02Reach.f k a0_0 l0_1 = some r) :
  Calls Try.prog 133 #[.agg #[.int .i64 a0_0, .slice A0_1 l0_1.length c0_1]] w fun e w' => ∃ v0_ : Value, e = .returned (v0_) ∧ Kd.R (Kd.int .i64) 3 w' w.heap.size (fun _ => True) v0_ r ∧ Below w.heap.size w w' := by
 have hu31 := Try.underlying31
 have hu67 := Try.underlying67
 have HR0_1 := Aside0.mk hr0_1
 have HC0_1 := Aside0.mk hc0_1
 clear hr0_1 hc0_1
 have HB := Aside0.mk (Below.refl w.heap.size w)
 have H : (spec_l02Reach.l0 k (([0] : List Int)) 0 a0_0 l0_1) = some r := h
 clear h
 obtain ⟨y177, hy177⟩ : ∃ y_ : List Int, y_ = (([0] : List Int)) := ⟨_, rfl⟩
 replace H : (spec_l02Reach.l0 k y177 0 a0_0 l0_1) = some r := by first | (rw [hy177]; with_reducible exact H) | (have H2_ := (Option.bind_some _ _).symm.trans H; rw [hy177]; with_reducible exact H2_) | (have H2_ := (Option.bind_some _ _).symm.trans H; with_reducible exact H2_) | with_reducible exact H | (rw [hy177]; exact H) | exact H
 have Ny177 := Aside0.mk hy177
 clear hy177
 have H' := Aside0.mk H
 clear H
 go_enter Try.func133, Try.ntmps133
 go_wp2_with (first | ((with_reducible refine gate_dst (N := 1) rfl ?_); refine box_event ?hg (N := 1) ?hd (cs := #[.int .i64 a0_0, .slice A0_1 l0_1.length c0_1]) (t := 31) ?hr ?_; (case hd => rfl); (case hg => rfl); (case hr => first | (go_simp; done) | (go_simp; rfl)); intro gb176 hg w2 hbox hb; have BK176 := Aside0.mk (hbox); have GW176 := Aside0.mk ((by rw [hg]; exact (below_size (Lz HB)) : w.heap.size ≤ gb176)); have GE176 := Aside0.mk ((by rw [hg]; exact (below_size (Lz HB)) : w.heap.size ≤ gb176)); replace HB := Aside0.mk (below_step (Lz HB) hb); clear hb hbox hg) | ((with_reducible refine gate_dst (N := 7) rfl ?_); refine Kd.R_lit (Kd.int .i64) _ 3 ?hg (N := 7) ?hd (xs := ([0] : List Int)) (inner := [.int .i64 0]) (ok := fun _ => True) (okp := fun _ => True) ?hr ?hp (fun _ hk => hk) trivial (Below.refl _ _) (Nat.le_refl _) (by simp) ?_; (case hd => rfl); (case hg => rfl); (case hr => first | (go_simp; done) | (go_simp; rfl)); (case hp => exact (Reps.one (show Kd.M (Kd.int .i64) _ _ _ 0 [.int .i64 0] from rfl) (Reps.none _ _))); intro v178 w3 ho4 hb hg_ hnew_; clear hg_ hnew_; (first | rw [← Ny177.out] at ho4 | (simp only [Int.reduceToNat] at ho4; rw [← Ny177.out] at ho4)); have HO179 := Aside0.mk (Kd.R_lower ho4 (below_size (by exact Lz1 HB GE176))); replace BK176 := Aside0.mk (blk_below (g := gb176) (o := .cells #[.int .i64 a0_0, .slice A0_1 l0_1.length c0_1] 31 (0, 0)) (Bz BK176) hb); replace HB := Aside0.mk (below_step (by exact Lz1 HB GE176) hb); clear hb ho4))
 repeat (go_quiet (first | ((with_reducible refine gate_dst (N := 1) rfl ?_); refine box_event ?hg (N := 1) ?hd (cs := #[.int .i64 a0_0, .slice A0_1 l0_1.length c0_1]) (t := 31) ?hr ?_; (case hd => rfl); (case hg => rfl); (case hr => first | (go_simp; done) | (go_simp; rfl)); intro gb176 hg w2 hbox hb; have BK176 := Aside0.mk (hbox); have GW176 := Aside0.mk ((by rw [hg]; exact (below_size (Lz HB)) : w.heap.size ≤ gb176)); have GE176 := Aside0.mk ((by rw [hg]; exact (below_size (Lz HB)) : w.heap.size ≤ gb176)); replace HB := Aside0.mk (below_step (Lz HB) hb); clear hb hbox hg) | ((with_reducible refine gate_dst (N := 7) rfl ?_); refine Kd.R_lit (Kd.int .i64) _ 3 ?hg (N := 7) ?hd (xs := ([0] : List Int)) (inner := [.int .i64 0]) (ok := fun _ => True) (okp := fun _ => True) ?hr ?hp (fun _ hk => hk) trivial (Below.refl _ _) (Nat.le_refl _) (by simp) ?_; (case hd => rfl); (case hg => rfl); (case hr => first | (go_simp; done) | (go_simp; rfl)); (case hp => exact (Reps.one (show Kd.M (Kd.int .i64) _ _ _ 0 [.int .i64 0] from rfl) (Reps.none _ _))); intro v178 w3 ho4 hb hg_ hnew_; clear hg_ hnew_; (first | rw [← Ny177.out] at ho4 | (simp only [Int.reduceToNat] at ho4; rw [← Ny177.out] at ho4)); have HO179 := Aside0.mk (Kd.R_lower ho4 (below_size (by exact Lz1 HB GE176))); replace BK176 := Aside0.mk (blk_below (g := gb176) (o := .cells #[.int .i64 a0_0, .slice A0_1 l0_1.length c0_1] 31 (0, 0)) (Bz BK176) hb); replace HB := Aside0.mk (below_step (by exact Lz1 HB GE176) hb); clear hb ho4)); try go_wp2_with (first | ((with_reducible refine gate_dst (N := 1) rfl ?_); refine box_event ?hg (N := 1) ?hd (cs := #[.int .i64 a0_0, .slice A0_1 l0_1.length c0_1]) (t := 31) ?hr ?_; (case hd => rfl); (case hg => rfl); (case hr => first | (go_simp; done) | (go_simp; rfl)); intro gb176 hg w2 hbox hb; have BK176 := Aside0.mk (hbox); have GW176 := Aside0.mk ((by rw [hg]; exact (below_size (Lz HB)) : w.heap.size ≤ gb176)); have GE176 := Aside0.mk ((by rw [hg]; exact (below_size (Lz HB)) : w.heap.size ≤ gb176)); replace HB := Aside0.mk (below_step (Lz HB) hb); clear hb hbox hg) | ((with_reducible refine gate_dst (N := 7) rfl ?_); refine Kd.R_lit (Kd.int .i64) _ 3 ?hg (N := 7) ?hd (xs := ([0] : List Int)) (inner := [.int .i64 0]) (ok := fun _ => True) (okp := fun _ => True) ?hr ?hp (fun _ hk => hk) trivial (Below.refl _ _) (Nat.le_refl _) (by simp) ?_; (case hd => rfl); (case hg => rfl); (case hr => first | (go_simp; done) | (go_simp; rfl)); (case hp => exact (Reps.one (show Kd.M (Kd.int .i64) _ _ _ 0 [.int .i64 0] from rfl) (Reps.none _ _))); intro v178 w3 ho4 hb hg_ hnew_; clear hg_ hnew_; (first | rw [← Ny177.out] at ho4 | (simp only [Int.reduceToNat] at ho4; rw [← Ny177.out] at ho4)); have HO179 := Aside0.mk (Kd.R_lower ho4 (below_size (by exact Lz1 HB GE176))); replace BK176 := Aside0.mk (blk_below (g := gb176) (o := .cells #[.int .i64 a0_0, .slice A0_1 l0_1.length c0_1] 31 (0, 0)) (Bz BK176) hb); replace HB := Aside0.mk (below_step (by exact Lz1 HB GE176) hb); clear hb ho4)))
 go_loopg [3, 4] k (fun kq v3 v4 w' => ∃ (x3_1 : List Int) (x4_1 : Int), v4 = .int .i64 x4_1 ∧ Aside0 (spec_l02Reach.l0 kq x3_1 x4_1 a0_0 l0_1 = some r) ∧ Aside0 (kq ≤ k) ∧ Aside0 (Kd.R (Kd.int .i64) 3 w' w.heap.size (fun _ => True) v3 x3_1) ∧ Aside0 (w'.heap[gb176]? = some (.cells #[.int .i64 a0_0, (.slice A0_1 l0_1.length c0_1)] 31 (0, 0))) ∧ Aside0 (Below w.heap.size w w'))
 case atStart => exact ⟨(y177), (0), eqA, H', ⟨Nat.le_refl _⟩, ⟨by exact Rz HO179⟩, ⟨by exact Bz BK176⟩, ⟨by exact Lz1 HB GE176⟩⟩
 case round =>
  clear H'
  obtain ⟨x3_1, x4_1, rfl, HA, HK1, HO_3, BK176, HB⟩ := hrel
  cases gk with
  | zero => exact absurd HA.out (by simp [spec_l02Reach.l0])
  | succ k1 =>
   have H := HA.out
   clear HA
   simp only [spec_l02Reach.l0] at H
   by_cases c5 : x4_1 < (x3_1.length : Int)
   ·rw [if_pos c5] at H
    have c5b0 : decide (x4_1 < (x3_1.length : Int)) = true := decide_eq_true c5
    clear c5
    have H' := Aside0.mk H
    clear H
    obtain ⟨Ao6, co6, eo6⟩ := Kd.R_slice HO_3.out
    subst eo6
    have hcz7_0 : wr.cell? ⟨gb176, 0, none⟩ = some (.int .i64 a0_0) := (blk_cell BK176.out 0).trans rfl
    have hcz7_1 : wr.cell? ⟨gb176, 1, none⟩ = some (.slice A0_1 l0_1.length c0_1) := (blk_cell BK176.out 1).trans rfl
    have hfz7_0 := blk_frozen BK176.out 0
    have hfz7_1 := blk_frozen BK176.out 1
    go_wp2
    repeat (go_quiet (fail); try go_wp2)
    go_loopg [3, 17] k1 (fun kq v3 v17 w' => ∃ (x3_2 : List Int) (x17_2 : Int), v17 = .int .i64 x17_2 ∧ Aside0 (spec_l02Reach.l1 kq x3_2 x4_1 l0_1 (l0_1.length : Int) x17_2 a0_0 l0_1 = some r) ∧ Aside0 (kq ≤ k1) ∧ Aside0 (Kd.R (Kd.int .i64) 3 w' w.heap.size (fun _ => True) v3 x3_2) ∧ Aside0 (w'.heap[gb176]? = some (.cells #[.int .i64 a0_0, (.slice A0_1 l0_1.length c0_1)] 31 (0, 0))) ∧ Aside0 (Below w.heap.size w w'))
    case atStart => exact ⟨(x3_1), (0), eqA, H', ⟨Nat.le_refl _⟩, ⟨by exact Rz HO_3⟩, ⟨by exact Bz BK176⟩, ⟨by exact Lz1 HB GE176⟩⟩
    case round =>
     clear H'
     try clear c5
     try clear c5b0
     obtain ⟨x3_2, x17_2, rfl, HA, HK2, HO_3, BK176, HB⟩ := hrel
     cases gk with
     | zero => exact absurd HA.out (by simp [spec_l02Reach.l1])
     | succ k2 =>
      have H := HA.out
      clear HA
      simp only [spec_l02Reach.l1] at H
      by_cases c8 : x17_2 < (l0_1.length : Int)
      ·rw [if_pos c8] at H
       have c8b0 : decide (x17_2 < (l0_1.length : Int)) = true := decide_eq_true c8
       clear c8
       by_cases c9 : 0 ≤ x17_2
       ·rw [if_pos c9] at H
        have c9b0 : decide (0 ≤ x17_2) = true := decide_eq_true c9
        clear c9
        by_cases c10 : x17_2 < (l0_1.length : Int)
        ·rw [if_pos c10] at H
         have c10b0 : decide (x17_2 < (l0_1.length : Int)) = true := decide_eq_true c10
         clear c10
         have HC11 := Aside0.mk H
         clear H
         have p180 : 0 ≤ (x17_2 : Int) := ofA
         have q180 : x17_2 < (l0_1.length : Int) := ofA
         obtain ⟨ad180, e180, hx180_0, hx180_1⟩ := at_T67 HR0_1.out x17_2 p180 q180
         cases e180
         replace hx180_0 := (HB.out.cell (World.block_lt_of_cell? w _ hx180_0)).trans hx180_0
         replace hx180_1 := (HB.out.cell (World.block_lt_of_cell? w _ hx180_1)).trans hx180_1
         replace p180 := eq_true p180
         replace q180 := eq_true q180
         go_upto_region 8 with (first | ((with_reducible refine gate_dst (N := 6) rfl ?_); refine box_event ?hg (N := 6) ?hd (cs := #[.int .i64 0, .int .i64 0]) (t := 67) ?hr ?_; (case hd => rfl); (case hg => rfl); (case hr => first | (go_simp; done) | (go_simp; rfl)); intro gb181 hg w12 hbox hb; replace HO_3 := Aside0.mk (Kd.R_below (Rz HO_3) hb); have BK181 := Aside0.mk (hbox); have GW181 := Aside0.mk ((by rw [hg]; exact (below_size (by exact Lz1 HB GE176)) : w.heap.size ≤ gb181)); have GE181 := Aside0.mk ((by rw [hg]; exact (below_size (by exact Lz1 HB GE176)) : w.heap.size ≤ gb181)); replace HB := Aside0.mk (below_step (by exact Lz1 HB GE176) hb); have NB176_181 := Aside0.mk ((by rw [hg]; exact Nat.ne_of_lt (blk_lt (g := gb176) (o := .cells #[.int .i64 a0_0, .slice (some ad180) l0_1.length c0_1] 31 (0, 0)) (Bz BK176)) : gb176 ≠ gb181)); have NB181_176 := Aside0.mk ((by rw [hg]; exact Nat.ne_of_gt (blk_lt (g := gb176) (o := .cells #[.int .i64 a0_0, .slice (some ad180) l0_1.length c0_1] 31 (0, 0)) (Bz BK176)) : gb181 ≠ gb176)); replace BK176 := Aside0.mk (blk_below (g := gb176) (o := .cells #[.int .i64 a0_0, .slice (some ad180) l0_1.length c0_1] 31 (0, 0)) (Bz BK176) hb); clear hb hbox hg; have hnb13 := NB181_176.out; have hnc13 := NB176_181.out; have hcz14_0 : w12.cell? ⟨gb181, 0, none⟩ = some (.int .i64 0) := (blk_cell BK181.out 0).trans rfl; have hcz14_1 : w12.cell? ⟨gb181, 1, none⟩ = some (.int .i64 0) := (blk_cell BK181.out 1).trans rfl; have hfz14_0 := blk_frozen BK181.out 0; have hfz14_1 := blk_frozen BK181.out 1))
         repeat (go_quiet (first | ((with_reducible refine gate_dst (N := 6) rfl ?_); refine box_event ?hg (N := 6) ?hd (cs := #[.int .i64 0, .int .i64 0]) (t := 67) ?hr ?_; (case hd => rfl); (case hg => rfl); (case hr => first | (go_simp; done) | (go_simp; rfl)); intro gb181 hg w12 hbox hb; replace HO_3 := Aside0.mk (Kd.R_below (Rz HO_3) hb); have BK181 := Aside0.mk (hbox); have GW181 := Aside0.mk ((by rw [hg]; exact (below_size (by exact Lz1 HB GE176)) : w.heap.size ≤ gb181)); have GE181 := Aside0.mk ((by rw [hg]; exact (below_size (by exact Lz1 HB GE176)) : w.heap.size ≤ gb181)); replace HB := Aside0.mk (below_step (by exact Lz1 HB GE176) hb); have NB176_181 := Aside0.mk ((by rw [hg]; exact Nat.ne_of_lt (blk_lt (g := gb176) (o := .cells #[.int .i64 a0_0, .slice (some ad180) l0_1.length c0_1] 31 (0, 0)) (Bz BK176)) : gb176 ≠ gb181)); have NB181_176 := Aside0.mk ((by rw [hg]; exact Nat.ne_of_gt (blk_lt (g := gb176) (o := .cells #[.int .i64 a0_0, .slice (some ad180) l0_1.length c0_1] 31 (0, 0)) (Bz BK176)) : gb181 ≠ gb176)); replace BK176 := Aside0.mk (blk_below (g := gb176) (o := .cells #[.int .i64 a0_0, .slice (some ad180) l0_1.length c0_1] 31 (0, 0)) (Bz BK176) hb); clear hb hbox hg; have hnb13 := NB181_176.out; have hnc13 := NB176_181.out; have hcz14_0 : w12.cell? ⟨gb181, 0, none⟩ = some (.int .i64 0) := (blk_cell BK181.out 0).trans rfl; have hcz14_1 : w12.cell? ⟨gb181, 1, none⟩ = some (.int .i64 0) := (blk_cell BK181.out 1).trans rfl; have hfz14_0 := blk_frozen BK181.out 0; have hfz14_1 := blk_frozen BK181.out 1)); go_upto_region 8 with (first | ((with_reducible refine gate_dst (N := 6) rfl ?_); refine box_event ?hg (N := 6) ?hd (cs := #[.int .i64 0, .int .i64 0]) (t := 67) ?hr ?_; (case hd => rfl); (case hg => rfl); (case hr => first | (go_simp; done) | (go_simp; rfl)); intro gb181 hg w12 hbox hb; replace HO_3 := Aside0.mk (Kd.R_below (Rz HO_3) hb); have BK181 := Aside0.mk (hbox); have GW181 := Aside0.mk ((by rw [hg]; exact (below_size (by exact Lz1 HB GE176)) : w.heap.size ≤ gb181)); have GE181 := Aside0.mk ((by rw [hg]; exact (below_size (by exact Lz1 HB GE176)) : w.heap.size ≤ gb181)); replace HB := Aside0.mk (below_step (by exact Lz1 HB GE176) hb); have NB176_181 := Aside0.mk ((by rw [hg]; exact Nat.ne_of_lt (blk_lt (g := gb176) (o := .cells #[.int .i64 a0_0, .slice (some ad180) l0_1.length c0_1] 31 (0, 0)) (Bz BK176)) : gb176 ≠ gb181)); have NB181_176 := Aside0.mk ((by rw [hg]; exact Nat.ne_of_gt (blk_lt (g := gb176) (o := .cells #[.int .i64 a0_0, .slice (some ad180) l0_1.length c0_1] 31 (0, 0)) (Bz BK176)) : gb181 ≠ gb176)); replace BK176 := Aside0.mk (blk_below (g := gb176) (o := .cells #[.int .i64 a0_0, .slice (some ad180) l0_1.length c0_1] 31 (0, 0)) (Bz BK176) hb); clear hb hbox hg; have hnb13 := NB181_176.out; have hnc13 := NB176_181.out; have hcz14_0 : w12.cell? ⟨gb181, 0, none⟩ = some (.int .i64 0) := (blk_cell BK181.out 0).trans rfl; have hcz14_1 : w12.cell? ⟨gb181, 1, none⟩ = some (.int .i64 0) := (blk_cell BK181.out 1).trans rfl; have hfz14_0 := blk_frozen BK181.out 0; have hfz14_1 := blk_frozen BK181.out 1)))
         (try simp only [Act.put, List.setIfInBounds_toArray, List.set_cons_zero, List.set_cons_succ])
         go_cut [34] (fun v34 wc => ∃ (kq : Nat) (x34_10 : Bool), v34 = .bool x34_10 ∧ Aside0 (spec_l02Reach.j2 kq x3_2 x4_1 l0_1 (l0_1.length : Int) x17_2 x34_10 a0_0 l0_1 ((rd_T67 l0_1 x17_2).f0) ((rd_T67 l0_1 x17_2).f1) = some r) ∧ Aside0 (kq ≤ k2) ∧ Aside0 (Kd.R (Kd.int .i64) 3 wc w.heap.size (fun _ => True) u3 x3_2) ∧ Aside0 (wc.heap[gb176]? = some (.cells #[.int .i64 a0_0, (.slice (some ad180) l0_1.length c0_1)] 31 (0, 0))) ∧ Aside0 (wc.heap[gb181]? = some (.cells #[.int .i64 ((rd_T67 l0_1 x17_2).f0), .int .i64 ((rd_T67 l0_1 x17_2).f1)] 67 (0, 0))) ∧ Aside0 (Below w.heap.size w wc))
         case first =>
          have H := HC11.out
          clear HC11
          by_cases c15 : 0 ≤ x4_1
          ·rw [if_pos c15] at H
           have c15b0 : decide (0 ≤ x4_1) = true := decide_eq_true c15
           clear c15
           (first | rw [c15b0] | (simp only [i64_w, i32_w]; rw [c15b0]) | skip)
           by_cases c16 : x4_1 < (x3_2.length : Int)
           ·rw [if_pos c16] at H
            have c16b0 : decide (x4_1 < (x3_2.length : Int)) = true := decide_eq_true c16
            clear c16
            by_cases c17 : ((rd_T67 l0_1 x17_2).f0) = (rd x3_2 x4_1)
            ·rw [if_pos c17] at H
             have c17b0 : (((rd_T67 l0_1 x17_2).f0) == (rd x3_2 x4_1)) = true := beq_iff_eq.mpr c17
             have c17b1 : (((rd_T67 l0_1 x17_2).f0) != (rd x3_2 x4_1)) = false := bne_eq_false_iff_eq.mpr c17
             clear c17
             replace H := Option.bind_eq_some_iff.mp H
             obtain ⟨t183, A180, H⟩ := H
             replace H : (spec_l02Reach.j2 k2 x3_2 x4_1 l0_1 (l0_1.length : Int) x17_2 (!t183) a0_0 l0_1 ((rd_T67 l0_1 x17_2).f0) ((rd_T67 l0_1 x17_2).f1)) = some r := H
             have A18 := Aside0.mk A180
             clear A180
             have H' := Aside0.mk H
             clear H
             have hnb19 := NB181_176.out
             have hnc19 := NB176_181.out
             have hcz20_0 : w12.cell? ⟨gb181, 0, none⟩ = some (.int .i64 0) := (blk_cell BK181.out 0).trans rfl
             have hcz20_1 : w12.cell? ⟨gb181, 1, none⟩ = some (.int .i64 0) := (blk_cell BK181.out 1).trans rfl
             have hfz20_0 := blk_frozen BK181.out 0
             have hfz20_1 := blk_frozen BK181.out 1
             obtain ⟨Ao21, co21, eo21⟩ := Kd.R_slice HO_3.out
             subst eo21
             have p182 : 0 ≤ (x4_1 : Int) := ofA
             have q182 : x4_1 < (x3_2.length : Int) := ofA
             obtain ⟨ad182, e182, hx182_0⟩ := Kd.at_int (Kd.R_reads' HO_3.out).2.2 x4_1 p182 q182
             cases e182
             have hn182_0 : ad182.block ≠ gb181 := Kd.own_blk (Kd.R_ne HO_3.out BK181.out (by decide))
             have hn182_1 : ad182.block ≠ gb181 := Kd.own_blk (Kd.R_ne HO_3.out BK181.out (by decide))
             replace hx182_0 := (cell_far (p := ⟨gb181, 0, none⟩) (by first | (rw [add_block]; exact hn182_0) | (show (Addr.add _ _).block ≠ _; rw [add_block]; exact hn182_0) | exact hn182_0) (.int .i64 ((rd_T67 l0_1 x17_2).f0))).trans hx182_0
             replace hx182_0 := (cell_far (p := ⟨gb181, 1, none⟩) (by first | (rw [add_block]; exact hn182_1) | (show (Addr.add _ _).block ≠ _; rw [add_block]; exact hn182_1) | exact hn182_1) (.int .i64 ((rd_T67 l0_1 x17_2).f1))).trans hx182_0
             (try have hy182_0 := fun (n_ : Nat) => (show ((((w12.drewN n_).setCell ⟨gb181, 0, none⟩ (.int .i64 ((rd_T67 l0_1 x17_2).f0))).setCell ⟨gb181, 1, none⟩ (.int .i64 ((rd_T67 l0_1 x17_2).f1)))).cell? _ = some _ from hx182_0))
             clear hn182_0
             clear hn182_1
             replace p182 := eq_true p182
             replace q182 := eq_true q182
             go_wp2_with (first | (go_at_call 98; (with_reducible refine (spec_l02Has.calls k2 _ _ x3_2 ((rd_T67 l0_1 x17_2).f1) t183 _ ?side1 ?side2 A18.out).mono ?_); (case side1 => refine (Kd.R_reads' (e := 3) (base := w.heap.size) (ok := fun k_ => True) (n := x3_2.length) (c := co21) ?_).2.2; exact (by (with_reducible repeat (first | apply Kd.R_alloc | apply Kd.R_drewN | apply Kd.R_drew)); exact (Kd.R_mono (Kd.R_far (p := ⟨gb181, 1, none⟩) (Kd.R_far (p := ⟨gb181, 0, none⟩) (Kd.R_types HO_3.out BK181.out (by decide)) (fun _ hk => hk.2) (.int .i64 ((rd_T67 l0_1 x17_2).f0))) (fun _ hk => hk.2) (.int .i64 ((rd_T67 l0_1 x17_2).f1))) (fun _ h_ => h_.1)))); (case side2 => exact (Kd.R_reads' HO_3.out).2.1); rintro e w' ⟨rfl, ⟨nd, rfl⟩⟩; (try first | exact ⟨rfl, _, World.drewN_drewN _ _ _⟩ | exact ⟨rfl, _, Eq.trans (World.drewN_drewN _ _ _) (congrArg (World.drewN _) (Nat.add_assoc _ _ _))⟩)))
             repeat (go_quiet (first | (go_at_call 98; (with_reducible refine (spec_l02Has.calls k2 _ _ x3_2 ((rd_T67 l0_1 x17_2).f1) t183 _ ?side1 ?side2 A18.out).mono ?_); (case side1 => refine (Kd.R_reads' (e := 3) (base := w.heap.size) (ok := fun k_ => True) (n := x3_2.length) (c := co21) ?_).2.2; exact (by (with_reducible repeat (first | apply Kd.R_alloc | apply Kd.R_drewN | apply Kd.R_drew)); exact (Kd.R_mono (Kd.R_far (p := ⟨gb181, 1, none⟩) (Kd.R_far (p := ⟨gb181, 0, none⟩) (Kd.R_types HO_3.out BK181.out (by decide)) (fun _ hk => hk.2) (.int .i64 ((rd_T67 l0_1 x17_2).f0))) (fun _ hk => hk.2) (.int .i64 ((rd_T67 l0_1 x17_2).f1))) (fun _ h_ => h_.1)))); (case side2 => exact (Kd.R_reads' HO_3.out).2.1); rintro e w' ⟨rfl, ⟨nd, rfl⟩⟩; (try first | exact ⟨rfl, _, World.drewN_drewN _ _ _⟩ | exact ⟨rfl, _, Eq.trans (World.drewN_drewN _ _ _) (congrArg (World.drewN _) (Nat.add_assoc _ _ _))⟩))); try go_wp2_with (first | (go_at_call 98; (with_reducible refine (spec_l02Has.calls k2 _ _ x3_2 ((rd_T67 l0_1 x17_2).f1) t183 _ ?side1 ?side2 A18.out).mono ?_); (case side1 => refine (Kd.R_reads' (e := 3) (base := w.heap.size) (ok := fun k_ => True) (n := x3_2.length) (c := co21) ?_).2.2; exact (by (with_reducible repeat (first | apply Kd.R_alloc | apply Kd.R_drewN | apply Kd.R_drew)); exact (Kd.R_mono (Kd.R_far (p := ⟨gb181, 1, none⟩) (Kd.R_far (p := ⟨gb181, 0, none⟩) (Kd.R_types HO_3.out BK181.out (by decide)) (fun _ hk => hk.2) (.int .i64 ((rd_T67 l0_1 x17_2).f0))) (fun _ hk => hk.2) (.int .i64 ((rd_T67 l0_1 x17_2).f1))) (fun _ h_ => h_.1)))); (case side2 => exact (Kd.R_reads' HO_3.out).2.1); rintro e w' ⟨rfl, ⟨nd, rfl⟩⟩; (try first | exact ⟨rfl, _, World.drewN_drewN _ _ _⟩ | exact ⟨rfl, _, Eq.trans (World.drewN_drewN _ _ _) (congrArg (World.drewN _) (Nat.add_assoc _ _ _))⟩))))
             go_meet
             case rel => exact ⟨_, (!t183), eqA, H', ⟨by have := HK1.out; have := HK2.out; first | omega | exact Nat.le_refl _⟩, ⟨by (with_reducible repeat (first | apply Kd.R_alloc | apply Kd.R_drewN | apply Kd.R_drew)); exact Kd.R_mono (Kd.R_far (p := ⟨gb181, 1, none⟩) (Kd.R_far (p := ⟨gb181, 0, none⟩) (Kd.R_types HO_3.out BK181.out (by decide)) (fun _ hk => hk.2) (.int .i64 ((rd_T67 l0_1 x17_2).f0))) (fun _ hk => hk.2) (.int .i64 ((rd_T67 l0_1 x17_2).f1))) (fun _ hk => trivial)⟩, ⟨by (with_reducible repeat (first | refine blk_drewN ?_ _ | refine blk_drew ?_ | refine blk_alloc ?_ _)); refine blk_far ?_ NB176_181.out _; (with_reducible repeat (first | refine blk_drewN ?_ _ | refine blk_drew ?_ | refine blk_alloc ?_ _)); refine blk_far ?_ NB176_181.out _; exact Bz BK176⟩, ⟨by (with_reducible repeat (first | refine blk_drewN ?_ _ | refine blk_drew ?_ | refine blk_alloc ?_ _)); refine blk_put (cs := #[.int .i64 ((rd_T67 l0_1 x17_2).f0), .int .i64 0]) ?_ 1 _ rfl; (with_reducible repeat (first | refine blk_drewN ?_ _ | refine blk_drew ?_ | refine blk_alloc ?_ _)); refine blk_put (cs := #[.int .i64 0, .int .i64 0]) ?_ 0 _ rfl; exact Bz BK181⟩, ⟨by exact Lz2 HB GE176 GE181⟩⟩
            rw [if_neg c17] at H
            have c17b0 : (((rd_T67 l0_1 x17_2).f0) == (rd x3_2 x4_1)) = false := beq_eq_false_iff_ne.mpr c17
            have c17b1 : (((rd_T67 l0_1 x17_2).f0) != (rd x3_2 x4_1)) = true := bne_iff_ne.mpr c17
            have H' := Aside0.mk H
            clear H
            have hnb22 := NB181_176.out
            have hnc22 := NB176_181.out
            have hcz23_0 : w12.cell? ⟨gb181, 0, none⟩ = some (.int .i64 0) := (blk_cell BK181.out 0).trans rfl
            have hcz23_1 : w12.cell? ⟨gb181, 1, none⟩ = some (.int .i64 0) := (blk_cell BK181.out 1).trans rfl
            have hfz23_0 := blk_frozen BK181.out 0
            have hfz23_1 := blk_frozen BK181.out 1
            obtain ⟨Ao24, co24, eo24⟩ := Kd.R_slice HO_3.out
            subst eo24
            have p182 : 0 ≤ (x4_1 : Int) := ofA
            have q182 : x4_1 < (x3_2.length : Int) := ofA
            obtain ⟨ad182, e182, hx182_0⟩ := Kd.at_int (Kd.R_reads' HO_3.out).2.2 x4_1 p182 q182
            cases e182
            have hn182_0 : ad182.block ≠ gb181 := Kd.own_blk (Kd.R_ne HO_3.out BK181.out (by decide))
            have hn182_1 : ad182.block ≠ gb181 := Kd.own_blk (Kd.R_ne HO_3.out BK181.out (by decide))
            replace hx182_0 := (cell_far (p := ⟨gb181, 0, none⟩) (by first | (rw [add_block]; exact hn182_0) | (show (Addr.add _ _).block ≠ _; rw [add_block]; exact hn182_0) | exact hn182_0) (.int .i64 ((rd_T67 l0_1 x17_2).f0))).trans hx182_0
            replace hx182_0 := (cell_far (p := ⟨gb181, 1, none⟩) (by first | (rw [add_block]; exact hn182_1) | (show (Addr.add _ _).block ≠ _; rw [add_block]; exact hn182_1) | exact hn182_1) (.int .i64 ((rd_T67 l0_1 x17_2).f1))).trans hx182_0
            (try have hy182_0 := fun (n_ : Nat) => (show ((((w12.drewN n_).setCell ⟨gb181, 0, none⟩ (.int .i64 ((rd_T67 l0_1 x17_2).f0))).setCell ⟨gb181, 1, none⟩ (.int .i64 ((rd_T67 l0_1 x17_2).f1)))).cell? _ = some _ from hx182_0))
            clear hn182_0
            clear hn182_1
            replace p182 := eq_true p182
            replace q182 := eq_true q182
            go_wp2
            repeat (go_quiet (fail); try go_wp2)
            go_meet
            case rel => exact ⟨_, (false), eqA, H', ⟨by have := HK1.out; have := HK2.out; first | omega | exact Nat.le_refl _⟩, ⟨by (with_reducible repeat (first | apply Kd.R_alloc | apply Kd.R_drewN | apply Kd.R_drew)); exact Kd.R_mono (Kd.R_far (p := ⟨gb181, 1, none⟩) (Kd.R_far (p := ⟨gb181, 0, none⟩) (Kd.R_types HO_3.out BK181.out (by decide)) (fun _ hk => hk.2) (.int .i64 ((rd_T67 l0_1 x17_2).f0))) (fun _ hk => hk.2) (.int .i64 ((rd_T67 l0_1 x17_2).f1))) (fun _ hk => trivial)⟩, ⟨by (with_reducible repeat (first | refine blk_drewN ?_ _ | refine blk_drew ?_ | refine blk_alloc ?_ _)); refine blk_far ?_ NB176_181.out _; (with_reducible repeat (first | refine blk_drewN ?_ _ | refine blk_drew ?_ | refine blk_alloc ?_ _)); refine blk_far ?_ NB176_181.out _; exact Bz BK176⟩, ⟨by (with_reducible repeat (first | refine blk_drewN ?_ _ | refine blk_drew ?_ | refine blk_alloc ?_ _)); refine blk_put (cs := #[.int .i64 ((rd_T67 l0_1 x17_2).f0), .int .i64 0]) ?_ 1 _ rfl; (with_reducible repeat (first | refine blk_drewN ?_ _ | refine blk_drew ?_ | refine blk_alloc ?_ _)); refine blk_put (cs := #[.int .i64 0, .int .i64 0]) ?_ 0 _ rfl; exact Bz BK181⟩, ⟨by exact Lz2 HB GE176 GE181⟩⟩
           rw [if_neg c16] at H
           exact absurd H (by simp)
          rw [if_neg c15] at H
          exact absurd H (by simp)
         case rest =>
          clear HC11
          try clear c5
          try clear c5b0
          try clear c8
          try clear c8b0
          try clear c9
          try clear c9b0
          try clear c10
          try clear c10b0
          try clear c15
          try clear c15b0
          try clear c16
          try clear c16b0
          try clear c17
          try clear c17b0
          try clear c17b1
          try clear p180
          try clear p182
          try clear q180
          try clear q182
          obtain ⟨kq, x34_10, rfl, HA, HJ10, HO_3, BK176, BK181, HB⟩ := hcut
          cases kq with
          | zero => exact absurd HA.out (by simp [spec_l02Reach.j2])
          | succ kj10 =>
           have H := HA.out
           clear HA
           simp only [spec_l02Reach.j2] at H
           have HC25 := Aside0.mk H
           clear H
           go_upto_if 34 with (fail)
           repeat (go_quiet (fail); go_upto_if 34 with (fail))
           go_cut [3] (fun v3 wc => ∃ (kq : Nat) (x3_24 : List Int), Aside0 (spec_l02Reach.j3 kq x3_24 x4_1 l0_1 (l0_1.length : Int) x17_2 a0_0 l0_1 ((rd_T67 l0_1 x17_2).f0) ((rd_T67 l0_1 x17_2).f1) = some r) ∧ Aside0 (kq ≤ kj10) ∧ Aside0 (Kd.R (Kd.int .i64) 3 wc w.heap.size (fun _ => True) v3 x3_24) ∧ Aside0 (wc.heap[gb176]? = some (.cells #[.int .i64 a0_0, (.slice (some ad180) l0_1.length c0_1)] 31 (0, 0))) ∧ Aside0 (wc.heap[gb181]? = some (.cells #[.int .i64 ((rd_T67 l0_1 x17_2).f0), .int .i64 ((rd_T67 l0_1 x17_2).f1)] 67 (0, 0))) ∧ Aside0 (Below w.heap.size w wc))
           case first =>
            have H := HC25.out
            clear HC25
            by_cases c26 : x34_10 = true
            ·subst c26
             have H1 : (if x3_2.length < 17592186044416 then (spec_l02Reach.j3 kj10 (x3_2 ++ [((rd_T67 l0_1 x17_2).f1)]) x4_1 l0_1 (l0_1.length : Int) x17_2 a0_0 l0_1 ((rd_T67 l0_1 x17_2).f0) ((rd_T67 l0_1 x17_2).f1)) else (none)) = some r := by rw [if_pos rfl] at H; exact H
             clear H
             have H := H1
             clear H1
             by_cases c27 : x3_2.length < 17592186044416
             ·rw [if_pos c27] at H
              have LMc27 := Aside0.mk c27
              clear c27
              obtain ⟨y184, hy184⟩ : ∃ y_ : List Int, y_ = (x3_2 ++ [((rd_T67 l0_1 x17_2).f1)]) := ⟨_, rfl⟩
              replace H : (spec_l02Reach.j3 kj10 y184 x4_1 l0_1 (l0_1.length : Int) x17_2 a0_0 l0_1 ((rd_T67 l0_1 x17_2).f0) ((rd_T67 l0_1 x17_2).f1)) = some r := by first | (rw [hy184]; with_reducible exact H) | (have H2_ := (Option.bind_some _ _).symm.trans H; rw [hy184]; with_reducible exact H2_) | (have H2_ := (Option.bind_some _ _).symm.trans H; with_reducible exact H2_) | with_reducible exact H | (rw [hy184]; exact H) | exact H
              have Ny184 := Aside0.mk hy184
              clear hy184
              have H' := Aside0.mk H
              clear H
              have hnb28 := NB181_176.out
              have hnc28 := NB176_181.out
              have hcz29_0 : wc.cell? ⟨gb181, 0, none⟩ = some (.int .i64 ((rd_T67 l0_1 x17_2).f0)) := (blk_cell BK181.out 0).trans rfl
              have hcz29_1 : wc.cell? ⟨gb181, 1, none⟩ = some (.int .i64 ((rd_T67 l0_1 x17_2).f1)) := (blk_cell BK181.out 1).trans rfl
              have hfz29_0 := blk_frozen BK181.out 0
              have hfz29_1 := blk_frozen BK181.out 1
              go_wp2_with (first | ((with_reducible refine gate_builtin (b := .append) (xs := #[.tmp 35, .tmp 38]) rfl ?_); at_builtin; refine Kd.R_append (Kd.int .i64) (w0 := w) w.heap.size rfl (.tmp 35) (.tmp 38) 25 3 (.int .i64 0) 8 rfl Try.underlying25 info3 rfl (by decide) (by omega) u3 x3_2 ((rd_T67 l0_1 x17_2).f1) [.int .i64 ((rd_T67 l0_1 x17_2).f1)] (fun _ => True) (fun _ => False) rfl rfl ?aP (fun _ hk => hk.elim) ?aF ?aO ?aB ?aS ?aL ?_; (case aP => exact rfl); (case aB => exact (by exact Lz2 HB GE176 GE181)); (case aF => exact (fun _ _ => trivial)); (case aO => exact (Rz HO_3)); (case aS => exact (below_size (by exact Lz2 HB GE176 GE181))); (case aL => have := LMc27.out; omega); intro v185 w30 ho hb hg hat; rw [← Ny184.out] at ho; replace BK176 := Aside0.mk (blk_grown (g := gb176) (o := .cells #[.int .i64 a0_0, .slice (some ad180) l0_1.length c0_1] 31 (0, 0)) (Bz BK176) hg (Kd.R_ne HO_3.out BK176.out (by decide))); replace BK181 := Aside0.mk (blk_grown (g := gb181) (o := .cells #[.int .i64 ((rd_T67 l0_1 x17_2).f0), .int .i64 ((rd_T67 l0_1 x17_2).f1)] 67 (0, 0)) (Bz BK181) hg (Kd.R_ne HO_3.out BK181.out (by decide))); replace HB := Aside0.mk (hb); have HO186 := Aside0.mk (ho); clear HO_3; clear ho hb hg hat))
              repeat (go_quiet (first | ((with_reducible refine gate_builtin (b := .append) (xs := #[.tmp 35, .tmp 38]) rfl ?_); at_builtin; refine Kd.R_append (Kd.int .i64) (w0 := w) w.heap.size rfl (.tmp 35) (.tmp 38) 25 3 (.int .i64 0) 8 rfl Try.underlying25 info3 rfl (by decide) (by omega) u3 x3_2 ((rd_T67 l0_1 x17_2).f1) [.int .i64 ((rd_T67 l0_1 x17_2).f1)] (fun _ => True) (fun _ => False) rfl rfl ?aP (fun _ hk => hk.elim) ?aF ?aO ?aB ?aS ?aL ?_; (case aP => exact rfl); (case aB => exact (by exact Lz2 HB GE176 GE181)); (case aF => exact (fun _ _ => trivial)); (case aO => exact (Rz HO_3)); (case aS => exact (below_size (by exact Lz2 HB GE176 GE181))); (case aL => have := LMc27.out; omega); intro v185 w30 ho hb hg hat; rw [← Ny184.out] at ho; replace BK176 := Aside0.mk (blk_grown (g := gb176) (o := .cells #[.int .i64 a0_0, .slice (some ad180) l0_1.length c0_1] 31 (0, 0)) (Bz BK176) hg (Kd.R_ne HO_3.out BK176.out (by decide))); replace BK181 := Aside0.mk (blk_grown (g := gb181) (o := .cells #[.int .i64 ((rd_T67 l0_1 x17_2).f0), .int .i64 ((rd_T67 l0_1 x17_2).f1)] 67 (0, 0)) (Bz BK181) hg (Kd.R_ne HO_3.out BK181.out (by decide))); replace HB := Aside0.mk (hb); have HO186 := Aside0.mk (ho); clear HO_3; clear ho hb hg hat)); try go_wp2_with (first | ((with_reducible refine gate_builtin (b := .append) (xs := #[.tmp 35, .tmp 38]) rfl ?_); at_builtin; refine Kd.R_append (Kd.int .i64) (w0 := w) w.heap.size rfl (.tmp 35) (.tmp 38) 25 3 (.int .i64 0) 8 rfl Try.underlying25 info3 rfl (by decide) (by omega) u3 x3_2 ((rd_T67 l0_1 x17_2).f1) [.int .i64 ((rd_T67 l0_1 x17_2).f1)] (fun _ => True) (fun _ => False) rfl rfl ?aP (fun _ hk => hk.elim) ?aF ?aO ?aB ?aS ?aL ?_; (case aP => exact rfl); (case aB => exact (by exact Lz2 HB GE176 GE181)); (case aF => exact (fun _ _ => trivial)); (case aO => exact (Rz HO_3)); (case aS => exact (below_size (by exact Lz2 HB GE176 GE181))); (case aL => have := LMc27.out; omega); intro v185 w30 ho hb hg hat; rw [← Ny184.out] at ho; replace BK176 := Aside0.mk (blk_grown (g := gb176) (o := .cells #[.int .i64 a0_0, .slice (some ad180) l0_1.length c0_1] 31 (0, 0)) (Bz BK176) hg (Kd.R_ne HO_3.out BK176.out (by decide))); replace BK181 := Aside0.mk (blk_grown (g := gb181) (o := .cells #[.int .i64 ((rd_T67 l0_1 x17_2).f0), .int .i64 ((rd_T67 l0_1 x17_2).f1)] 67 (0, 0)) (Bz BK181) hg (Kd.R_ne HO_3.out BK181.out (by decide))); replace HB := Aside0.mk (hb); have HO186 := Aside0.mk (ho); clear HO_3; clear ho hb hg hat)))
              go_meet
              case rel => exact ⟨_, (y184), H', ⟨by have := HK1.out; have := HK2.out; have := HJ10.out; first | omega | exact Nat.le_refl _⟩, ⟨by exact Rz HO186⟩, ⟨by exact Bz BK176⟩, ⟨by exact Bz BK181⟩, ⟨by exact Lz2 HB GE176 GE181⟩⟩
             rw [if_neg c27] at H
             exact absurd H (by simp)
            replace c26 := Bool.eq_false_iff.mpr c26
            subst c26
            have H1 : (spec_l02Reach.j3 kj10 x3_2 x4_1 l0_1 (l0_1.length : Int) x17_2 a0_0 l0_1 ((rd_T67 l0_1 x17_2).f0) ((rd_T67 l0_1 x17_2).f1)) = some r := by rw [if_neg (show ¬ (false = true) by decide)] at H; exact H
            clear H
            have H := H1
            clear H1
            have H' := Aside0.mk H
            clear H
            go_wp2
            repeat (go_quiet (fail); try go_wp2)
            go_meet
            case rel => exact ⟨_, (x3_2), H', ⟨by have := HK1.out; have := HK2.out; have := HJ10.out; first | omega | exact Nat.le_refl _⟩, ⟨by exact Rz HO_3⟩, ⟨by exact Bz BK176⟩, ⟨by exact Bz BK181⟩, ⟨by exact Lz2 HB GE176 GE181⟩⟩
           case rest =>
            clear HC25
            try clear c5
            try clear c5b0
            try clear c8
            try clear c8b0
            try clear c9
            try clear c9b0
            try clear c10
            try clear c10b0
            try clear c15
            try clear c15b0
            try clear c16
            try clear c16b0
            try clear c17
            try clear c17b0
            try clear c17b1
            try clear c26
            try clear c27
            try clear p180
            try clear p182
            try clear q180
            try clear q182
            obtain ⟨kq, x3_24, HA, HJ24, HO_3, BK176, BK181, HB⟩ := hcut
            cases kq with
            | zero => exact absurd HA.out (by simp [spec_l02Reach.j3])
            | succ kj24 =>
             have H := HA.out
             clear HA
             simp only [spec_l02Reach.j3] at H
             by_cases c31 : 0 ≤ x4_1
             ·rw [if_pos c31] at H
              have c31b0 : decide (0 ≤ x4_1) = true := decide_eq_true c31
              clear c31
              by_cases c32 : x4_1 < (x3_24.length : Int)
              ·rw [if_pos c32] at H
               have c32b0 : decide (x4_1 < (x3_24.length : Int)) = true := decide_eq_true c32
               clear c32
               by_cases c33 : ((rd_T67 l0_1 x17_2).f1) = (rd x3_24 x4_1)
               ·rw [if_pos c33] at H
                have c33b0 : (((rd_T67 l0_1 x17_2).f1) == (rd x3_24 x4_1)) = true := beq_iff_eq.mpr c33
                have c33b1 : (((rd_T67 l0_1 x17_2).f1) != (rd x3_24 x4_1)) = false := bne_eq_false_iff_eq.mpr c33
                clear c33
                replace H := Option.bind_eq_some_iff.mp H
                obtain ⟨t188, A340, H⟩ := H
                replace H : (if t188 = true then (spec_l02Reach.l1 kj24 x3_24 x4_1 l0_1 (l0_1.length : Int) (wrap64 (x17_2 + 1)) a0_0 l0_1) else (if x3_24.length < 17592186044416 then (spec_l02Reach.l1 kj24 (x3_24 ++ [((rd_T67 l0_1 x17_2).f0)]) x4_1 l0_1 (l0_1.length : Int) (wrap64 (x17_2 + 1)) a0_0 l0_1) else (none))) = some r := H
                have A34 := Aside0.mk A340
                clear A340
                by_cases c35 : t188 = true
                ·subst c35
                 have H1 : (spec_l02Reach.l1 kj24 x3_24 x4_1 l0_1 (l0_1.length : Int) (wrap64 (x17_2 + 1)) a0_0 l0_1) = some r := by rw [if_pos rfl] at H; exact H
                 clear H
                 have H := H1
                 clear H1
                 have H' := Aside0.mk H
                 clear H
                 have hnb36 := NB181_176.out
                 have hnc36 := NB176_181.out
                 have hcz37_0 : wc.cell? ⟨gb181, 0, none⟩ = some (.int .i64 ((rd_T67 l0_1 x17_2).f0)) := (blk_cell BK181.out 0).trans rfl
                 have hcz37_1 : wc.cell? ⟨gb181, 1, none⟩ = some (.int .i64 ((rd_T67 l0_1 x17_2).f1)) := (blk_cell BK181.out 1).trans rfl
                 have hfz37_0 := blk_frozen BK181.out 0
                 have hfz37_1 := blk_frozen BK181.out 1
                 obtain ⟨Ao38, co38, eo38⟩ := Kd.R_slice HO_3.out
                 subst eo38
                 have p187 : 0 ≤ (x4_1 : Int) := ofA
                 have q187 : x4_1 < (x3_24.length : Int) := ofA
                 obtain ⟨ad187, e187, hx187_0⟩ := Kd.at_int (Kd.R_reads' HO_3.out).2.2 x4_1 p187 q187
                 cases e187
                 replace p187 := eq_true p187
                 replace q187 := eq_true q187
                 go_wp2_with (first | (go_at_call 98; (with_reducible refine (spec_l02Has.calls kj24 _ _ x3_24 ((rd_T67 l0_1 x17_2).f0) true _ ?side1 ?side2 A34.out).mono ?_); (case side1 => exact Cz ((Kd.R_reads' HO_3.out).2.2)); (case side2 => exact (Kd.R_reads' HO_3.out).2.1); rintro e w' ⟨rfl, ⟨nd, rfl⟩⟩; (try first | exact ⟨rfl, _, World.drewN_drewN _ _ _⟩ | exact ⟨rfl, _, Eq.trans (World.drewN_drewN _ _ _) (congrArg (World.drewN _) (Nat.add_assoc _ _ _))⟩)))
                 repeat (go_quiet (first | (go_at_call 98; (with_reducible refine (spec_l02Has.calls kj24 _ _ x3_24 ((rd_T67 l0_1 x17_2).f0) true _ ?side1 ?side2 A34.out).mono ?_); (case side1 => exact Cz ((Kd.R_reads' HO_3.out).2.2)); (case side2 => exact (Kd.R_reads' HO_3.out).2.1); rintro e w' ⟨rfl, ⟨nd, rfl⟩⟩; (try first | exact ⟨rfl, _, World.drewN_drewN _ _ _⟩ | exact ⟨rfl, _, Eq.trans (World.drewN_drewN _ _ _) (congrArg (World.drewN _) (Nat.add_assoc _ _ _))⟩))); try go_wp2_with (first | (go_at_call 98; (with_reducible refine (spec_l02Has.calls kj24 _ _ x3_24 ((rd_T67 l0_1 x17_2).f0) true _ ?side1 ?side2 A34.out).mono ?_); (case side1 => exact Cz ((Kd.R_reads' HO_3.out).2.2)); (case side2 => exact (Kd.R_reads' HO_3.out).2.1); rintro e w' ⟨rfl, ⟨nd, rfl⟩⟩; (try first | exact ⟨rfl, _, World.drewN_drewN _ _ _⟩ | exact ⟨rfl, _, Eq.trans (World.drewN_drewN _ _ _) (congrArg (World.drewN _) (Nat.add_assoc _ _ _))⟩))))
                 go_roundg kj24
                 case measure => have := HK1.out; have := HK2.out; have := HJ10.out; have := HJ24.out; omega
                 case rel => exact ⟨(x3_24), (wrap64 (x17_2 + 1)), eqA, H', ⟨by have := HK1.out; have := HK2.out; have := HJ10.out; have := HJ24.out; omega⟩, ⟨by exact Rz HO_3⟩, ⟨by exact Bz BK176⟩, ⟨by exact Lz2 HB GE176 GE181⟩⟩
                replace c35 := Bool.eq_false_iff.mpr c35
                subst c35
                have H1 : (if x3_24.length < 17592186044416 then (spec_l02Reach.l1 kj24 (x3_24 ++ [((rd_T67 l0_1 x17_2).f0)]) x4_1 l0_1 (l0_1.length : Int) (wrap64 (x17_2 + 1)) a0_0 l0_1) else (none)) = some r := by rw [if_neg (show ¬ (false = true) by decide)] at H; exact H
                clear H
                have H := H1
                clear H1
                by_cases c39 : x3_24.length < 17592186044416
                ·rw [if_pos c39] at H
                 have LMc39 := Aside0.mk c39
                 clear c39
                 obtain ⟨y189, hy189⟩ : ∃ y_ : List Int, y_ = (x3_24 ++ [((rd_T67 l0_1 x17_2).f0)]) := ⟨_, rfl⟩
                 replace H : (spec_l02Reach.l1 kj24 y189 x4_1 l0_1 (l0_1.length : Int) (wrap64 (x17_2 + 1)) a0_0 l0_1) = some r := by first | (rw [hy189]; with_reducible exact H) | (have H2_ := (Option.bind_some _ _).symm.trans H; rw [hy189]; with_reducible exact H2_) | (have H2_ := (Option.bind_some _ _).symm.trans H; with_reducible exact H2_) | with_reducible exact H | (rw [hy189]; exact H) | exact H
                 have Ny189 := Aside0.mk hy189
                 clear hy189
                 have H' := Aside0.mk H
                 clear H
                 have hnb40 := NB181_176.out
                 have hnc40 := NB176_181.out
                 have hcz41_0 : wc.cell? ⟨gb181, 0, none⟩ = some (.int .i64 ((rd_T67 l0_1 x17_2).f0)) := (blk_cell BK181.out 0).trans rfl
                 have hcz41_1 : wc.cell? ⟨gb181, 1, none⟩ = some (.int .i64 ((rd_T67 l0_1 x17_2).f1)) := (blk_cell BK181.out 1).trans rfl
                 have hfz41_0 := blk_frozen BK181.out 0
                 have hfz41_1 := blk_frozen BK181.out 1
                 obtain ⟨Ao42, co42, eo42⟩ := Kd.R_slice HO_3.out
                 subst eo42
                 have p187 : 0 ≤ (x4_1 : Int) := ofA
                 have q187 : x4_1 < (x3_24.length : Int) := ofA
                 obtain ⟨ad187, e187, hx187_0⟩ := Kd.at_int (Kd.R_reads' HO_3.out).2.2 x4_1 p187 q187
                 cases e187
                 replace p187 := eq_true p187
                 replace q187 := eq_true q187
                 go_wp2_with (first | (go_at_call 98; (with_reducible refine (spec_l02Has.calls kj24 _ _ x3_24 ((rd_T67 l0_1 x17_2).f0) false _ ?side1 ?side2 A34.out).mono ?_); (case side1 => exact Cz ((Kd.R_reads' HO_3.out).2.2)); (case side2 => exact (Kd.R_reads' HO_3.out).2.1); rintro e w' ⟨rfl, ⟨nd, rfl⟩⟩; (try first | exact ⟨rfl, _, World.drewN_drewN _ _ _⟩ | exact ⟨rfl, _, Eq.trans (World.drewN_drewN _ _ _) (congrArg (World.drewN _) (Nat.add_assoc _ _ _))⟩)) | ((with_reducible refine gate_builtin (b := .append) (xs := #[.tmp 54, .tmp 57]) rfl ?_); at_builtin; refine Kd.R_append (Kd.int .i64) (w0 := w) w.heap.size rfl (.tmp 54) (.tmp 57) 25 3 (.int .i64 0) 8 rfl Try.underlying25 info3 rfl (by decide) (by omega) (.slice (some ad187) x3_24.length co42) x3_24 ((rd_T67 l0_1 x17_2).f0) [.int .i64 ((rd_T67 l0_1 x17_2).f0)] (fun _ => True) (fun _ => False) rfl rfl ?aP (fun _ hk => hk.elim) ?aF ?aO ?aB ?aS ?aL ?_; (case aP => exact rfl); (case aB => exact (by exact Lz2 HB GE176 GE181)); (case aF => exact (fun _ _ => trivial)); (case aO => exact (Rz HO_3)); (case aS => exact (below_size (by exact Lz2 HB GE176 GE181))); (case aL => have := LMc39.out; omega); intro v190 w43 ho hb hg hat; rw [← Ny189.out] at ho; replace BK176 := Aside0.mk (blk_grown (g := gb176) (o := .cells #[.int .i64 a0_0, .slice (some ad180) l0_1.length c0_1] 31 (0, 0)) (Bz BK176) hg (Kd.R_ne HO_3.out BK176.out (by decide))); replace BK181 := Aside0.mk (blk_grown (g := gb181) (o := .cells #[.int .i64 ((rd_T67 l0_1 x17_2).f0), .int .i64 ((rd_T67 l0_1 x17_2).f1)] 67 (0, 0)) (Bz BK181) hg (Kd.R_ne HO_3.out BK181.out (by decide))); replace HB := Aside0.mk (hb); have HO191 := Aside0.mk (ho); clear HO_3; clear ho hb hg hat))
                 repeat (go_quiet (first | (go_at_call 98; (with_reducible refine (spec_l02Has.calls kj24 _ _ x3_24 ((rd_T67 l0_1 x17_2).f0) false _ ?side1 ?side2 A34.out).mono ?_); (case side1 => exact Cz ((Kd.R_reads' HO_3.out).2.2)); (case side2 => exact (Kd.R_reads' HO_3.out).2.1); rintro e w' ⟨rfl, ⟨nd, rfl⟩⟩; (try first | exact ⟨rfl, _, World.drewN_drewN _ _ _⟩ | exact ⟨rfl, _, Eq.trans (World.drewN_drewN _ _ _) (congrArg (World.drewN _) (Nat.add_assoc _ _ _))⟩)) | ((with_reducible refine gate_builtin (b := .append) (xs := #[.tmp 54, .tmp 57]) rfl ?_); at_builtin; refine Kd.R_append (Kd.int .i64) (w0 := w) w.heap.size rfl (.tmp 54) (.tmp 57) 25 3 (.int .i64 0) 8 rfl Try.underlying25 info3 rfl (by decide) (by omega) (.slice (some ad187) x3_24.length co42) x3_24 ((rd_T67 l0_1 x17_2).f0) [.int .i64 ((rd_T67 l0_1 x17_2).f0)] (fun _ => True) (fun _ => False) rfl rfl ?aP (fun _ hk => hk.elim) ?aF ?aO ?aB ?aS ?aL ?_; (case aP => exact rfl); (case aB => exact (by exact Lz2 HB GE176 GE181)); (case aF => exact (fun _ _ => trivial)); (case aO => exact (Rz HO_3)); (case aS => exact (below_size (by exact Lz2 HB GE176 GE181))); (case aL => have := LMc39.out; omega); intro v190 w43 ho hb hg hat; rw [← Ny189.out] at ho; replace BK176 := Aside0.mk (blk_grown (g := gb176) (o := .cells #[.int .i64 a0_0, .slice (some ad180) l0_1.length c0_1] 31 (0, 0)) (Bz BK176) hg (Kd.R_ne HO_3.out BK176.out (by decide))); replace BK181 := Aside0.mk (blk_grown (g := gb181) (o := .cells #[.int .i64 ((rd_T67 l0_1 x17_2).f0), .int .i64 ((rd_T67 l0_1 x17_2).f1)] 67 (0, 0)) (Bz BK181) hg (Kd.R_ne HO_3.out BK181.out (by decide))); replace HB := Aside0.mk (hb); have HO191 := Aside0.mk (ho); clear HO_3; clear ho hb hg hat)); try go_wp2_with (first | (go_at_call 98; (with_reducible refine (spec_l02Has.calls kj24 _ _ x3_24 ((rd_T67 l0_1 x17_2).f0) false _ ?side1 ?side2 A34.out).mono ?_); (case side1 => exact Cz ((Kd.R_reads' HO_3.out).2.2)); (case side2 => exact (Kd.R_reads' HO_3.out).2.1); rintro e w' ⟨rfl, ⟨nd, rfl⟩⟩; (try first | exact ⟨rfl, _, World.drewN_drewN _ _ _⟩ | exact ⟨rfl, _, Eq.trans (World.drewN_drewN _ _ _) (congrArg (World.drewN _) (Nat.add_assoc _ _ _))⟩)) | ((with_reducible refine gate_builtin (b := .append) (xs := #[.tmp 54, .tmp 57]) rfl ?_); at_builtin; refine Kd.R_append (Kd.int .i64) (w0 := w) w.heap.size rfl (.tmp 54) (.tmp 57) 25 3 (.int .i64 0) 8 rfl Try.underlying25 info3 rfl (by decide) (by omega) (.slice (some ad187) x3_24.length co42) x3_24 ((rd_T67 l0_1 x17_2).f0) [.int .i64 ((rd_T67 l0_1 x17_2).f0)] (fun _ => True) (fun _ => False) rfl rfl ?aP (fun _ hk => hk.elim) ?aF ?aO ?aB ?aS ?aL ?_; (case aP => exact rfl); (case aB => exact (by exact Lz2 HB GE176 GE181)); (case aF => exact (fun _ _ => trivial)); (case aO => exact (Rz HO_3)); (case aS => exact (below_size (by exact Lz2 HB GE176 GE181))); (case aL => have := LMc39.out; omega); intro v190 w43 ho hb hg hat; rw [← Ny189.out] at ho; replace BK176 := Aside0.mk (blk_grown (g := gb176) (o := .cells #[.int .i64 a0_0, .slice (some ad180) l0_1.length c0_1] 31 (0, 0)) (Bz BK176) hg (Kd.R_ne HO_3.out BK176.out (by decide))); replace BK181 := Aside0.mk (blk_grown (g := gb181) (o := .cells #[.int .i64 ((rd_T67 l0_1 x17_2).f0), .int .i64 ((rd_T67 l0_1 x17_2).f1)] 67 (0, 0)) (Bz BK181) hg (Kd.R_ne HO_3.out BK181.out (by decide))); replace HB := Aside0.mk (hb); have HO191 := Aside0.mk (ho); clear HO_3; clear ho hb hg hat)))
                 go_roundg kj24
                 case measure => have := HK1.out; have := HK2.out; have := HJ10.out; have := HJ24.out; omega
                 case rel => exact ⟨(y189), (wrap64 (x17_2 + 1)), eqA, H', ⟨by have := HK1.out; have := HK2.out; have := HJ10.out; have := HJ24.out; omega⟩, ⟨by exact Rz HO191⟩, ⟨by exact Bz BK176⟩, ⟨by exact Lz2 HB GE176 GE181⟩⟩
                rw [if_neg c39] at H
                exact absurd H (by simp)
               rw [if_neg c33] at H
               have c33b0 : (((rd_T67 l0_1 x17_2).f1) == (rd x3_24 x4_1)) = false := beq_eq_false_iff_ne.mpr c33
               have c33b1 : (((rd_T67 l0_1 x17_2).f1) != (rd x3_24 x4_1)) = true := bne_iff_ne.mpr c33
               have H' := Aside0.mk H
               clear H
               have hnb44 := NB181_176.out
               have hnc44 := NB176_181.out
               have hcz45_0 : wc.cell? ⟨gb181, 0, none⟩ = some (.int .i64 ((rd_T67 l0_1 x17_2).f0)) := (blk_cell BK181.out 0).trans rfl
               have hcz45_1 : wc.cell? ⟨gb181, 1, none⟩ = some (.int .i64 ((rd_T67 l0_1 x17_2).f1)) := (blk_cell BK181.out 1).trans rfl
               have hfz45_0 := blk_frozen BK181.out 0
               have hfz45_1 := blk_frozen BK181.out 1
               obtain ⟨Ao46, co46, eo46⟩ := Kd.R_slice HO_3.out
               subst eo46
               have p187 : 0 ≤ (x4_1 : Int) := ofA
               have q187 : x4_1 < (x3_24.length : Int) := ofA
               obtain ⟨ad187, e187, hx187_0⟩ := Kd.at_int (Kd.R_reads' HO_3.out).2.2 x4_1 p187 q187
               cases e187
               replace p187 := eq_true p187
               replace q187 := eq_true q187
               go_wp2
               repeat (go_quiet (fail); try go_wp2)
               go_roundg kj24
               case measure => have := HK1.out; have := HK2.out; have := HJ10.out; have := HJ24.out; omega
               case rel => exact ⟨(x3_24), (wrap64 (x17_2 + 1)), eqA, H', ⟨by have := HK1.out; have := HK2.out; have := HJ10.out; have := HJ24.out; omega⟩, ⟨by exact Rz HO_3⟩, ⟨by exact Bz BK176⟩, ⟨by exact Lz2 HB GE176 GE181⟩⟩
              rw [if_neg c32] at H
              exact absurd H (by simp)
             rw [if_neg c31] at H
             exact absurd H (by simp)
        rw [if_neg c10] at H
        exact absurd H (by simp)
       rw [if_neg c9] at H
       exact absurd H (by simp)
      rw [if_neg c8] at H
      have c8b0 : decide (x17_2 < (l0_1.length : Int)) = false := decide_eq_false c8
      clear c8
      have H' := Aside0.mk H
      clear H
      go_wp2
      repeat (go_quiet (fail); try go_wp2)
      go_roundg k2
      case measure => have := HK1.out; have := HK2.out; omega
      case rel => exact ⟨(x3_2), (wrap64 (x4_1 + 1)), eqA, H', ⟨by have := HK1.out; have := HK2.out; omega⟩, ⟨by exact Rz HO_3⟩, ⟨by exact Bz BK176⟩, ⟨by exact Lz1 HB GE176⟩⟩
   rw [if_neg c5] at H
   have c5b0 : decide (x4_1 < (x3_1.length : Int)) = false := decide_eq_false c5
   clear c5
   obtain rfl := Option.some.inj H
   obtain ⟨Ao47, co47, eo47⟩ := Kd.R_slice HO_3.out
   subst eo47
   go_wp2
   repeat (go_quiet (fail); try go_wp2)
   go_ret
   exact ⟨_, by first | rfl | (simp [errW_none, errW_some] <;> rfl) | (simp [*, errW_none, errW_some] <;> rfl), by exact Rz HO_3, by exact Lz1 HB GE176⟩
mutual
def spec_GraphOk.l0 : Nat → List (S67) → Int → Int → Int → List (S67) → Option (Bool)
 | 0, _, _, _, _, _ => none
 | k + 1, x9, x10, x11, x193000, x193001 => if x11 < x10 then (if 0 ≤ x11 then (if x11 < (x9.length : Int) then (if x11 > 0 then (if 0 ≤ (wrap64 (x11 - 1)) then (if (wrap64 (x11 - 1)) < (x193001.length : Int) then (if ((rd_T67 x9 x11).f0) < ((rd_T67 x193001 (wrap64 (x11 - 1))).f0) then (spec_GraphOk.j1 k x9 x10 x11 true x193000 x193001) else (if ((rd_T67 x9 x11).f0) = ((rd_T67 x193001 (wrap64 (x11 - 1))).f0) then (spec_GraphOk.j1 k x9 x10 x11 (decide (((rd_T67 x9 x11).f1) < ((rd_T67 x193001 (wrap64 (x11 - 1))).f1))) x193000 x193001) else (spec_GraphOk.j1 k x9 x10 x11 false x193000 x193001))) else (none)) else (none)) else (spec_GraphOk.j1 k x9 x10 x11 false x193000 x193001)) else (none)) else (none)) else ((spec_l02Reach.f k x193000 x193001).bind fun t194 => (some ((t194.length : Int) == x193000)))
def spec_GraphOk.j1 : Nat → List (S67) → Int → Int → Bool → Int → List (S67) → Option (Bool)
 | 0, _, _, _, _, _, _ => none
 | k + 1, x9, x10, x11, x53, x193000, x193001 => if x53 = true then (some false) else (spec_GraphOk.l0 k x9 x10 (wrap64 (x11 + 1)) x193000 x193001)
end
def spec_GraphOk.f (k : Nat) (a0_0 : Int) (l0_1 : List (S67)) : Option (Bool) := (spec_EdgesOk.f k a0_0 l0_1).bind fun t193 => (if t193 = true then (spec_GraphOk.l0 k l0_1 (l0_1.length : Int) 0 a0_0 l0_1) else (some false))
def spec_GraphOk.T6 : Bool × List (List Nat × List Nat) := (true, [([], []), ([0], [0]), ([1], [1]), ([2], [2]), ([3, 2], [2, 3]), ([2], [2]), ([5, 2], [2, 5]), ([2], [2]), ([7, 2], [2, 7]), ([6, 8, 2], [2, 6, 8]), ([9, 2], [2, 9]), ([10, 2], [2, 10]), ([4, 11, 2], [2, 4, 11]), ([12, 2, 2], [2, 12]), ([13], [13]), ([14, 13], [13, 14]), ([13], [13]), ([16, 13], [13, 16]), ([13], [13]), ([18, 13], [13, 18]), ([17, 19, 13], [13, 17, 19]), ([20, 13], [13, 20]), ([21, 13], [13, 21]), ([15, 22, 13], [13, 15, 22]), ([23, 13, 13], [13, 23]), ([24], [24]), ([25, 24], [24, 25]), ([24], [24]), ([27, 24], [24, 27]), ([24], [24]), ([29, 24], [24, 29]), ([28, 30, 24], [24, 28, 30]), ([31, 24], [24, 31]), ([32, 24], [24, 32]), ([26, 33, 24], [24, 26, 33]), ([24, 34, 13], [13, 24, 34]), ([13, 35, 2], [2, 13, 35]), ([2, 36], [2, 36])])
def spec_GraphOk.B6 : List Nat := [0, 1, 3, 7, 15, 7, 39, 7, 135, 487, 999, 2023, 4095, 8191, 16383, 32767, 16383, 81919, 16383, 278527, 999423, 2047999, 4145151, 8388607, 16777215, 33554431, 67108863, 33554431, 167772159, 33554431, 570425343, 2046820351, 4194303999, 8489271295, 17179869183, 34359738367, 68719476735, 137438953471]
theorem spec_GraphOk.tab6 : rtab .any (opsOf Try.f116 6) = spec_GraphOk.T6 := by kernel_rfl
theorem spec_GraphOk.bits6 : waitsOk spec_GraphOk.T6.2 spec_GraphOk.B6 = true := by kernel_rfl
set_option maxHeartbeats 8000000 in
set_option maxRecDepth 100000 in
theorem spec_GraphOk.calls (k : Nat) (a0_0 : Int) (A0_1 : Option Addr) (c0_1 : Nat) (l0_1 : List (S67)) (r : Bool) (w : World) (hr0_1 : Kd.C k67 w A0_1 l0_1.length l0_1) (hc0_1 : l0_1.length ≤ c0_1) (h : spec_GraphOk.f k a0_0 l0_1 = some r) :
  Calls Try.prog 116 #[.agg #[.int .i64 a0_0, .slice A0_1 l0_1.length c0_1]] w fun e w' => e = .returned (.bool r) ∧ Below w.heap.size w w' := by
 have hu31 := Try.underlying31
 have hu67 := Try.underlying67
 have HR0_1 := Aside0.mk hr0_1
 have HC0_1 := Aside0.mk hc0_1
 clear hr0_1 hc0_1
 have HB := Aside0.mk (Below.refl w.heap.size w)
 have H : ((spec_EdgesOk.f k a0_0 l0_1).bind fun t193 => (if t193 = true then (spec_GraphOk.l0 k l0_1 (l0_1.length : Int) 0 a0_0 l0_1) else (some false))) = some r := h
 clear h
 replace H := Option.bind_eq_some_iff.mp H
 obtain ⟨t193, A20, H⟩ := H
 replace H : (if t193 = true then (spec_GraphOk.l0 k l0_1 (l0_1.length : Int) 0 a0_0 l0_1) else (some false)) = some r := H
 have A2 := Aside0.mk A20
 clear A20
 by_cases c3 : t193 = true
 ·subst c3
  have H1 : (spec_GraphOk.l0 k l0_1 (l0_1.length : Int) 0 a0_0 l0_1) = some r := by rw [if_pos rfl] at H; exact H
  clear H
  have H := H1
  clear H1
  have H' := Aside0.mk H
  clear H
  go_enter Try.func116, Try.ntmps116
  go_wp2_with (first | ((with_reducible refine gate_dst (N := 1) rfl ?_); refine box_event ?hg (N := 1) ?hd (cs := #[.int .i64 a0_0, .slice A0_1 l0_1.length c0_1]) (t := 31) ?hr ?_; (case hd => rfl); (case hg => rfl); (case hr => first | (go_simp; done) | (go_simp; rfl)); intro gb192 hg w4 hbox hb; have BK192 := Aside0.mk (hbox); have GW192 := Aside0.mk ((by rw [hg]; exact (below_size (Lz HB)) : w.heap.size ≤ gb192)); have GE192 := Aside0.mk ((by rw [hg]; exact (below_size (Lz HB)) : w.heap.size ≤ gb192)); replace HB := Aside0.mk (below_step (Lz HB) hb); clear hb hbox hg; have hcz5_0 : w4.cell? ⟨gb192, 0, none⟩ = some (.int .i64 a0_0) := (blk_cell BK192.out 0).trans rfl; have hcz5_1 : w4.cell? ⟨gb192, 1, none⟩ = some (.slice A0_1 l0_1.length c0_1) := (blk_cell BK192.out 1).trans rfl; have hfz5_0 := blk_frozen BK192.out 0; have hfz5_1 := blk_frozen BK192.out 1) | ((with_reducible refine gate_callee (f := 132) rfl ?_); refine goesM_ (some 6) rfl rfl Try.func132 (by kernel_rfl) rfl #[.agg #[.int .i64 a0_0, .slice A0_1 l0_1.length c0_1]] rfl ?_; (with_reducible refine (spec_EdgesOk.calls k a0_0 _ _ l0_1 true _ ?side1 ?side2 A2.out).mono ?_); (case side1 => exact Cz ((Kd.C_below HR0_1.out HB.out))); (case side2 => exact HC0_1.out); rintro e w6 ⟨rfl, hb⟩; refine ⟨_, rfl, ?_⟩; replace BK192 := Aside0.mk (blk_below (g := gb192) (o := .cells #[.int .i64 a0_0, .slice A0_1 l0_1.length c0_1] 31 (0, 0)) (Bz BK192) hb); replace HB := Aside0.mk (below_step (by exact Lz1 HB GE192) hb); (try clear hb); (try clear hb2); (try clear hk); (try clear hi); have hcz7_0 : w6.cell? ⟨gb192, 0, none⟩ = some (.int .i64 a0_0) := (blk_cell BK192.out 0).trans rfl; have hcz7_1 : w6.cell? ⟨gb192, 1, none⟩ = some (.slice A0_1 l0_1.length c0_1) := (blk_cell BK192.out 1).trans rfl; have hfz7_0 := blk_frozen BK192.out 0; have hfz7_1 := blk_frozen BK192.out 1))
  go_loopg [11] k (fun kq v11 w' => ∃ (x11_1 : Int), v11 = .int .i64 x11_1 ∧ Aside0 (spec_GraphOk.l0 kq l0_1 (l0_1.length : Int) x11_1 a0_0 l0_1 = some r) ∧ Aside0 (kq ≤ k) ∧ Aside0 (w'.heap[gb192]? = some (.cells #[.int .i64 a0_0, (.slice A0_1 l0_1.length c0_1)] 31 (0, 0))) ∧ Aside0 (Below w.heap.size w w'))
  case atStart => exact ⟨(0), eqA, H', ⟨Nat.le_refl _⟩, ⟨by exact Bz BK192⟩, ⟨by exact Lz1 HB GE192⟩⟩
  case round =>
   clear H'
   try clear c3
   obtain ⟨x11_1, rfl, HA, HK1, BK192, HB⟩ := hrel
   cases gk with
   | zero => exact absurd HA.out (by simp [spec_GraphOk.l0])
   | succ k1 =>
    have H := HA.out
    clear HA
    simp only [spec_GraphOk.l0] at H
    by_cases c8 : x11_1 < (l0_1.length : Int)
    ·rw [if_pos c8] at H
     have c8b0 : decide (x11_1 < (l0_1.length : Int)) = true := decide_eq_true c8
     clear c8
     by_cases c9 : 0 ≤ x11_1
     ·rw [if_pos c9] at H
      have c9b0 : decide (0 ≤ x11_1) = true := decide_eq_true c9
      clear c9
      by_cases c10 : x11_1 < (l0_1.length : Int)
      ·rw [if_pos c10] at H
       have c10b0 : decide (x11_1 < (l0_1.length : Int)) = true := decide_eq_true c10
       clear c10
       have HC11 := Aside0.mk H
       clear H
       have p197 : 0 ≤ (x11_1 : Int) := ofA
       have q197 : x11_1 < (l0_1.length : Int) := ofA
       obtain ⟨ad197, e197, hx197_0, hx197_1⟩ := at_T67 HR0_1.out x11_1 p197 q197
       cases e197
       replace hx197_0 := (HB.out.cell (World.block_lt_of_cell? w _ hx197_0)).trans hx197_0
       replace hx197_1 := (HB.out.cell (World.block_lt_of_cell? w _ hx197_1)).trans hx197_1
       replace p197 := eq_true p197
       replace q197 := eq_true q197
       go_upto_region 6 with (first | ((with_reducible refine gate_dst (N := 4) rfl ?_); refine box_event ?hg (N := 4) ?hd (cs := #[.int .i64 0, .int .i64 0]) (t := 67) ?hr ?_; (case hd => rfl); (case hg => rfl); (case hr => first | (go_simp; done) | (go_simp; rfl)); intro gb198 hg w12 hbox hb; have BK198 := Aside0.mk (hbox); have GW198 := Aside0.mk ((by rw [hg]; exact (below_size (by exact Lz1 HB GE192)) : w.heap.size ≤ gb198)); have GE198 := Aside0.mk ((by rw [hg]; exact (below_size (by exact Lz1 HB GE192)) : w.heap.size ≤ gb198)); replace HB := Aside0.mk (below_step (by exact Lz1 HB GE192) hb); have NB192_198 := Aside0.mk ((by rw [hg]; exact Nat.ne_of_lt (blk_lt (g := gb192) (o := .cells #[.int .i64 a0_0, .slice (some ad197) l0_1.length c0_1] 31 (0, 0)) (Bz BK192)) : gb192 ≠ gb198)); have NB198_192 := Aside0.mk ((by rw [hg]; exact Nat.ne_of_gt (blk_lt (g := gb192) (o := .cells #[.int .i64 a0_0, .slice (some ad197) l0_1.length c0_1] 31 (0, 0)) (Bz BK192)) : gb198 ≠ gb192)); replace BK192 := Aside0.mk (blk_below (g := gb192) (o := .cells #[.int .i64 a0_0, .slice (some ad197) l0_1.length c0_1] 31 (0, 0)) (Bz BK192) hb); clear hb hbox hg; have hnb13 := NB198_192.out; have hnc13 := NB192_198.out; have hcz14_0 : w12.cell? ⟨gb198, 0, none⟩ = some (.int .i64 0) := (blk_cell BK198.out 0).trans rfl; have hcz14_1 : w12.cell? ⟨gb198, 1, none⟩ = some (.int .i64 0) := (blk_cell BK198.out 1).trans rfl; have hfz14_0 := blk_frozen BK198.out 0; have hfz14_1 := blk_frozen BK198.out 1))
       (try simp only [Act.put, List.setIfInBounds_toArray, List.set_cons_zero, List.set_cons_succ])
       go_cut [53] (fun v53 wc => ∃ (kq : Nat) (x53_10 : Bool), v53 = .bool x53_10 ∧ Aside0 (spec_GraphOk.j1 kq l0_1 (l0_1.length : Int) x11_1 x53_10 a0_0 l0_1 = some r) ∧ Aside0 (kq ≤ k1) ∧ Aside0 (wc.heap[gb192]? = some (.cells #[.int .i64 a0_0, (.slice (some ad197) l0_1.length c0_1)] 31 (0, 0))) ∧ Aside0 (wc.heap[gb198]? = some (.cells #[.int .i64 ((rd_T67 l0_1 x11_1).f0), .int .i64 ((rd_T67 l0_1 x11_1).f1)] 67 (0, 0))) ∧ Aside0 (Below w.heap.size w wc))
       case first =>
        have H := HC11.out
        clear HC11
        by_cases c15 : x11_1 > 0
        ·rw [if_pos c15] at H
         have c15b0 : decide (0 < x11_1) = true := decide_eq_true c15
         clear c15
         (first | rw [c15b0] | (simp only [i64_w, i32_w]; rw [c15b0]) | skip)
         obtain ⟨ji16, hji16⟩ : ∃ j_ : Int, (wrap64 (x11_1 - 1)) = j_ := ⟨_, rfl⟩
         replace H : (if 0 ≤ (ji16) then (if (ji16) < (l0_1.length : Int) then (if ((rd_T67 l0_1 x11_1).f0) < ((rd_T67 l0_1 (ji16)).f0) then (spec_GraphOk.j1 k1 l0_1 (l0_1.length : Int) x11_1 true a0_0 l0_1) else (if ((rd_T67 l0_1 x11_1).f0) = ((rd_T67 l0_1 (ji16)).f0) then (spec_GraphOk.j1 k1 l0_1 (l0_1.length : Int) x11_1 (decide (((rd_T67 l0_1 x11_1).f1) < ((rd_T67 l0_1 (ji16)).f1))) a0_0 l0_1) else (spec_GraphOk.j1 k1 l0_1 (l0_1.length : Int) x11_1 false a0_0 l0_1))) else (none)) else (none)) = some r := by first | (rw [hji16] at H; exact H) | (simp only [hji16] at H ⊢; exact H)
         have hji16w : (IntKind.i64.wrap (x11_1 - 1)) = ji16 := (i64_w _).trans hji16
         by_cases c17 : 0 ≤ (ji16)
         ·rw [if_pos c17] at H
          have c17b0 : decide (0 ≤ (ji16)) = true := decide_eq_true c17
          clear c17
          by_cases c18 : (ji16) < (l0_1.length : Int)
          ·rw [if_pos c18] at H
           have c18b0 : decide ((ji16) < (l0_1.length : Int)) = true := decide_eq_true c18
           clear c18
           by_cases c19 : ((rd_T67 l0_1 x11_1).f0) < ((rd_T67 l0_1 (ji16)).f0)
           ·rw [if_pos c19] at H
            have c19b0 : decide (((rd_T67 l0_1 x11_1).f0) < ((rd_T67 l0_1 (ji16)).f0)) = true := decide_eq_true c19
            clear c19
            have H' := Aside0.mk H
            clear H
            try go_wp2
            have n0_ : Aside0 (((w12.setCell ⟨gb198, 0, none⟩ (.int .i64 ((rd_T67 l0_1 x11_1).f0))).setCell ⟨gb198, 1, none⟩ (.int .i64 ((rd_T67 l0_1 x11_1).f1))).heap[gb192]? = some (.cells #[.int .i64 a0_0, .slice (some ad197) l0_1.length c0_1] 31 (0, 0))) := ⟨by (with_reducible repeat (first | refine blk_drewN ?_ _ | refine blk_drew ?_ | refine blk_alloc ?_ _)); refine blk_far ?_ NB192_198.out _; (with_reducible repeat (first | refine blk_drewN ?_ _ | refine blk_drew ?_ | refine blk_alloc ?_ _)); refine blk_far ?_ NB192_198.out _; exact Bz BK192⟩
            have n1_ : Aside0 (((w12.setCell ⟨gb198, 0, none⟩ (.int .i64 ((rd_T67 l0_1 x11_1).f0))).setCell ⟨gb198, 1, none⟩ (.int .i64 ((rd_T67 l0_1 x11_1).f1))).heap[gb198]? = some (.cells #[.int .i64 ((rd_T67 l0_1 x11_1).f0), .int .i64 ((rd_T67 l0_1 x11_1).f1)] 67 (0, 0))) := ⟨by (with_reducible repeat (first | refine blk_drewN ?_ _ | refine blk_drew ?_ | refine blk_alloc ?_ _)); refine blk_put (cs := #[.int .i64 ((rd_T67 l0_1 x11_1).f0), .int .i64 0]) ?_ 1 _ rfl; (with_reducible repeat (first | refine blk_drewN ?_ _ | refine blk_drew ?_ | refine blk_alloc ?_ _)); refine blk_put (cs := #[.int .i64 0, .int .i64 0]) ?_ 0 _ rfl; exact Bz BK198⟩
            have n2_ : Aside0 (Below w.heap.size w ((w12.setCell ⟨gb198, 0, none⟩ (.int .i64 ((rd_T67 l0_1 x11_1).f0))).setCell ⟨gb198, 1, none⟩ (.int .i64 ((rd_T67 l0_1 x11_1).f1)))) := ⟨by exact Lz2 HB GE192 GE198⟩
            (try clear BK192)
            (try clear BK198)
            (try clear HB)
            generalize ((w12.setCell ⟨gb198, 0, none⟩ (.int .i64 ((rd_T67 l0_1 x11_1).f0))).setCell ⟨gb198, 1, none⟩ (.int .i64 ((rd_T67 l0_1 x11_1).f1))) = w20 at n0_ n1_ n2_ ⊢
            have BK192 := n0_
            have BK198 := n1_
            have HB := n2_
            clear n0_ n1_ n2_
            replace BK192 := Aside0.mk (blk_drew BK192.out)
            replace BK198 := Aside0.mk (blk_drew BK198.out)
            replace HB := Aside0.mk (below_drew1 HB.out)
            have p199 : 0 ≤ ((ji16) : Int) := ofA
            have q199 : (ji16) < (l0_1.length : Int) := ofA
            obtain ⟨ad199, e199, hx199_0, hx199_1⟩ := at_T67 HR0_1.out (ji16) p199 q199
            have hw199_1 := hx199_1
            have hw199_0 := hx199_0
            obtain rfl : ad197 = ad199 := (by injection e199)
            replace hx199_0 := (HB.out.cell (World.block_lt_of_cell? w _ hx199_0)).trans hx199_0
            replace hx199_1 := (HB.out.cell (World.block_lt_of_cell? w _ hx199_1)).trans hx199_1
            replace p199 := eq_true p199
            replace q199 := eq_true q199
            refine start_ (n := 38) (S := fun w' => w'.cell? ⟨gb198, 0, none⟩ = some (.int .i64 ((rd_T67 l0_1 x11_1).f0)) ∧ w'.cell? ⟨gb198, 1, none⟩ = some (.int .i64 ((rd_T67 l0_1 x11_1).f1)) ∧ w'.cell? ⟨gb192, 0, none⟩ = some (.int .i64 a0_0) ∧ w'.cell? ⟨gb192, 1, none⟩ = some (.slice (some ad197) l0_1.length c0_1) ∧ w'.cell? (ad197.add (((ji16)).toNat * 2)) = some (.int .i64 ((rd_T67 l0_1 (ji16)).f0)) ∧ w'.cell? ⟨(ad197.add (((ji16)).toNat * 2)).block, (ad197.add (((ji16)).toNat * 2)).off + 1, none⟩ = some (.int .i64 ((rd_T67 l0_1 (ji16)).f1))) (ds := []) #[false, false, false, false, false, false, false, false, false, false, false, false, false, false, false, false, false, false, false, false, false, false, false, false, false, false, false, false, false, false, false, false, false, false, false, false, false, false] (by kernel_rfl) rfl rfl ⟨(blk_cell BK198.out 0).trans rfl, (blk_cell BK198.out 1).trans rfl, (blk_cell BK192.out 0).trans rfl, (blk_cell BK192.out 1).trans rfl, ((HB.out.cell (World.block_lt_of_cell? w _ hw199_0)).trans hw199_0), ((HB.out.cell (World.block_lt_of_cell? w _ hw199_1)).trans hw199_1)⟩ (fun hHeld => ?_); refine with_tabW spec_GraphOk.tab6 spec_GraphOk.bits6 (fun HT_ HW_ => ?_)
            generalize w20.drew = w21 at BK192 BK198 HB hx199_0 hx199_1 hHeld ⊢
            refine pureT_ 0 16 HT_ ?_
            refine pureT_ 1 17 HT_ ?_
            refine pureT_ 2 18 HT_ ?_
            refine pureT_ 3 19 HT_ ?_
            refine pureT_ 5 21 HT_ ?_
            refine pureT_ 7 23 HT_ ?_
            refine pureT_ 8 24 HT_ ?_
            refine takeT_ 4 20 HT_ HW_ hHeld rfl (by rintro w' ⟨s0, s1, s2, s3, s4, s5⟩; go_simp; with_reducible rfl) ?_
            refine takeT_ 6 22 HT_ HW_ hHeld rfl (by rintro w' ⟨s0, s1, s2, s3, s4, s5⟩; go_simp; with_reducible rfl) ?_
            refine pureT_ 9 25 HT_ ?_
            refine pureT_ 10 26 HT_ ?_
            refine takeT_ 11 27 HT_ HW_ hHeld rfl (by rintro w' ⟨s0, s1, s2, s3, s4, s5⟩; go_simp; with_reducible rfl) ?_
            refine pureT_ 12 28 HT_ ?_
            refine pureT_ 13 29 HT_ ?_
            refine pureU_ 14 30 HT_ ?_
            refine pureU_ 15 31 HT_ ?_
            refine pureU_ 16 32 HT_ ?_
            refine pureU_ 17 33 HT_ ?_
            refine pureU_ 18 34 HT_ ?_
            refine pureU_ 19 35 HT_ ?_
            refine pureU_ 20 36 HT_ ?_
            refine pureU_ 21 37 HT_ ?_
            refine pureU_ 22 38 HT_ ?_
            refine pureU_ 23 39 HT_ ?_
            refine pureU_ 24 40 HT_ ?_
            refine pureU_ 25 41 HT_ ?_
            refine pureU_ 26 42 HT_ ?_
            refine pureU_ 27 43 HT_ ?_
            refine pureU_ 28 44 HT_ ?_
            refine pureU_ 29 45 HT_ ?_
            refine pureU_ 30 46 HT_ ?_
            refine pureU_ 31 47 HT_ ?_
            refine pureU_ 32 48 HT_ ?_
            refine pureU_ 33 49 HT_ ?_
            refine pureU_ 34 50 HT_ ?_
            refine pureU_ 35 51 HT_ ?_
            refine pureT_ 36 52 HT_ ?_
            refine pureT_ 37 53 HT_ ?_
            refine done_ (done_of HT_.out (by kernel_rfl)) ?_
            try go_wp2
            go_meet
            case rel => exact ⟨_, (true), eqA, H', ⟨by have := HK1.out; first | omega | exact Nat.le_refl _⟩, ⟨by exact Bz BK192⟩, ⟨by exact Bz BK198⟩, ⟨by exact Lz2 HB GE192 GE198⟩⟩
           rw [if_neg c19] at H
           have c19b0 : decide (((rd_T67 l0_1 x11_1).f0) < ((rd_T67 l0_1 (ji16)).f0)) = false := decide_eq_false c19
           clear c19
           by_cases c22 : ((rd_T67 l0_1 x11_1).f0) = ((rd_T67 l0_1 (ji16)).f0)
           ·rw [if_pos c22] at H
            have c22b0 : (((rd_T67 l0_1 x11_1).f0) == ((rd_T67 l0_1 (ji16)).f0)) = true := beq_iff_eq.mpr c22
            have c22b1 : (((rd_T67 l0_1 x11_1).f0) != ((rd_T67 l0_1 (ji16)).f0)) = false := bne_eq_false_iff_eq.mpr c22
            clear c22
            have H' := Aside0.mk H
            clear H
            try go_wp2
            have n0_ : Aside0 (((w12.setCell ⟨gb198, 0, none⟩ (.int .i64 ((rd_T67 l0_1 x11_1).f0))).setCell ⟨gb198, 1, none⟩ (.int .i64 ((rd_T67 l0_1 x11_1).f1))).heap[gb192]? = some (.cells #[.int .i64 a0_0, .slice (some ad197) l0_1.length c0_1] 31 (0, 0))) := ⟨by (with_reducible repeat (first | refine blk_drewN ?_ _ | refine blk_drew ?_ | refine blk_alloc ?_ _)); refine blk_far ?_ NB192_198.out _; (with_reducible repeat (first | refine blk_drewN ?_ _ | refine blk_drew ?_ | refine blk_alloc ?_ _)); refine blk_far ?_ NB192_198.out _; exact Bz BK192⟩
            have n1_ : Aside0 (((w12.setCell ⟨gb198, 0, none⟩ (.int .i64 ((rd_T67 l0_1 x11_1).f0))).setCell ⟨gb198, 1, none⟩ (.int .i64 ((rd_T67 l0_1 x11_1).f1))).heap[gb198]? = some (.cells #[.int .i64 ((rd_T67 l0_1 x11_1).f0), .int .i64 ((rd_T67 l0_1 x11_1).f1)] 67 (0, 0))) := ⟨by (with_reducible repeat (first | refine blk_drewN ?_ _ | refine blk_drew ?_ | refine blk_alloc ?_ _)); refine blk_put (cs := #[.int .i64 ((rd_T67 l0_1 x11_1).f0), .int .i64 0]) ?_ 1 _ rfl; (with_reducible repeat (first | refine blk_drewN ?_ _ | refine blk_drew ?_ | refine blk_alloc ?_ _)); refine blk_put (cs := #[.int .i64 0, .int .i64 0]) ?_ 0 _ rfl; exact Bz BK198⟩
            have n2_ : Aside0 (Below w.heap.size w ((w12.setCell ⟨gb198, 0, none⟩ (.int .i64 ((rd_T67 l0_1 x11_1).f0))).setCell ⟨gb198, 1, none⟩ (.int .i64 ((rd_T67 l0_1 x11_1).f1)))) := ⟨by exact Lz2 HB GE192 GE198⟩
            (try clear BK192)
            (try clear BK198)
            (try clear HB)
            generalize ((w12.setCell ⟨gb198, 0, none⟩ (.int .i64 ((rd_T67 l0_1 x11_1).f0))).setCell ⟨gb198, 1, none⟩ (.int .i64 ((rd_T67 l0_1 x11_1).f1))) = w23 at n0_ n1_ n2_ ⊢
            have BK192 := n0_
            have BK198 := n1_
            have HB := n2_
            clear n0_ n1_ n2_
            replace BK192 := Aside0.mk (blk_drew BK192.out)
            replace BK198 := Aside0.mk (blk_drew BK198.out)
            replace HB := Aside0.mk (below_drew1 HB.out)
            have p199 : 0 ≤ ((ji16) : Int) := ofA
            have q199 : (ji16) < (l0_1.length : Int) := ofA
            obtain ⟨ad199, e199, hx199_0, hx199_1⟩ := at_T67 HR0_1.out (ji16) p199 q199
            have hw199_1 := hx199_1
            have hw199_0 := hx199_0
            obtain rfl : ad197 = ad199 := (by injection e199)
            replace hx199_0 := (HB.out.cell (World.block_lt_of_cell? w _ hx199_0)).trans hx199_0
            replace hx199_1 := (HB.out.cell (World.block_lt_of_cell? w _ hx199_1)).trans hx199_1
            replace p199 := eq_true p199
            replace q199 := eq_true q199
            have p200 : 0 ≤ ((ji16) : Int) := ofA
            have q200 : (ji16) < (l0_1.length : Int) := ofA
            obtain ⟨ad200, e200, hx200_0, hx200_1⟩ := at_T67 HR0_1.out (ji16) p200 q200
            have hw200_1 := hx200_1
            have hw200_0 := hx200_0
            obtain rfl : ad197 = ad200 := (by injection e200)
            replace hx200_0 := (HB.out.cell (World.block_lt_of_cell? w _ hx200_0)).trans hx200_0
            replace hx200_1 := (HB.out.cell (World.block_lt_of_cell? w _ hx200_1)).trans hx200_1
            replace p200 := eq_true p200
            replace q200 := eq_true q200
            have p201 : 0 ≤ ((ji16) : Int) := ofA
            have q201 : (ji16) < (l0_1.length : Int) := ofA
            obtain ⟨ad201, e201, hx201_0, hx201_1⟩ := at_T67 HR0_1.out (ji16) p201 q201
            have hw201_1 := hx201_1
            have hw201_0 := hx201_0
            obtain rfl : ad197 = ad201 := (by injection e201)
            replace hx201_0 := (HB.out.cell (World.block_lt_of_cell? w _ hx201_0)).trans hx201_0
            replace hx201_1 := (HB.out.cell (World.block_lt_of_cell? w _ hx201_1)).trans hx201_1
            replace p201 := eq_true p201
            replace q201 := eq_true q201
            refine start_ (n := 38) (S := fun w' => w'.cell? ⟨gb198, 0, none⟩ = some (.int .i64 ((rd_T67 l0_1 x11_1).f0)) ∧ w'.cell? ⟨gb198, 1, none⟩ = some (.int .i64 ((rd_T67 l0_1 x11_1).f1)) ∧ w'.cell? ⟨gb192, 0, none⟩ = some (.int .i64 a0_0) ∧ w'.cell? ⟨gb192, 1, none⟩ = some (.slice (some ad197) l0_1.length c0_1) ∧ w'.cell? (ad197.add (((ji16)).toNat * 2)) = some (.int .i64 ((rd_T67 l0_1 (ji16)).f0)) ∧ w'.cell? ⟨(ad197.add (((ji16)).toNat * 2)).block, (ad197.add (((ji16)).toNat * 2)).off + 1, none⟩ = some (.int .i64 ((rd_T67 l0_1 (ji16)).f1)) ∧ w'.cell? (ad197.add (((ji16)).toNat * 2)) = some (.int .i64 ((rd_T67 l0_1 (ji16)).f0)) ∧ w'.cell? ⟨(ad197.add (((ji16)).toNat * 2)).block, (ad197.add (((ji16)).toNat * 2)).off + 1, none⟩ = some (.int .i64 ((rd_T67 l0_1 (ji16)).f1)) ∧ w'.cell? (ad197.add (((ji16)).toNat * 2)) = some (.int .i64 ((rd_T67 l0_1 (ji16)).f0)) ∧ w'.cell? ⟨(ad197.add (((ji16)).toNat * 2)).block, (ad197.add (((ji16)).toNat * 2)).off + 1, none⟩ = some (.int .i64 ((rd_T67 l0_1 (ji16)).f1))) (ds := []) #[false, false, false, false, false, false, false, false, false, false, false, false, false, false, false, false, false, false, false, false, false, false, false, false, false, false, false, false, false, false, false, false, false, false, false, false, false, false] (by kernel_rfl) rfl rfl ⟨(blk_cell BK198.out 0).trans rfl, (blk_cell BK198.out 1).trans rfl, (blk_cell BK192.out 0).trans rfl, (blk_cell BK192.out 1).trans rfl, ((HB.out.cell (World.block_lt_of_cell? w _ hw199_0)).trans hw199_0), ((HB.out.cell (World.block_lt_of_cell? w _ hw199_1)).trans hw199_1), ((HB.out.cell (World.block_lt_of_cell? w _ hw200_0)).trans hw200_0), ((HB.out.cell (World.block_lt_of_cell? w _ hw200_1)).trans hw200_1), ((HB.out.cell (World.block_lt_of_cell? w _ hw201_0)).trans hw201_0), ((HB.out.cell (World.block_lt_of_cell? w _ hw201_1)).trans hw201_1)⟩ (fun hHeld => ?_); refine with_tabW spec_GraphOk.tab6 spec_GraphOk.bits6 (fun HT_ HW_ => ?_)
            generalize w23.drew = w24 at BK192 BK198 HB hx199_0 hx199_1 hx200_0 hx200_1 hx201_0 hx201_1 hHeld ⊢
            refine pureT_ 0 16 HT_ ?_
            refine pureT_ 1 17 HT_ ?_
            refine pureT_ 2 18 HT_ ?_
            refine pureT_ 3 19 HT_ ?_
            refine pureT_ 5 21 HT_ ?_
            refine pureT_ 7 23 HT_ ?_
            refine pureT_ 8 24 HT_ ?_
            refine takeT_ 4 20 HT_ HW_ hHeld rfl (by rintro w' ⟨s0, s1, s2, s3, s4, s5, s6, s7, s8, s9⟩; go_simp; with_reducible rfl) ?_
            refine takeT_ 6 22 HT_ HW_ hHeld rfl (by rintro w' ⟨s0, s1, s2, s3, s4, s5, s6, s7, s8, s9⟩; go_simp; with_reducible rfl) ?_
            refine pureT_ 9 25 HT_ ?_
            refine pureT_ 10 26 HT_ ?_
            refine takeT_ 11 27 HT_ HW_ hHeld rfl (by rintro w' ⟨s0, s1, s2, s3, s4, s5, s6, s7, s8, s9⟩; go_simp; with_reducible rfl) ?_
            refine pureT_ 12 28 HT_ ?_
            refine pureT_ 13 29 HT_ ?_
            refine pureT_ 14 30 HT_ ?_
            refine pureT_ 16 32 HT_ ?_
            refine pureT_ 18 34 HT_ ?_
            refine pureT_ 19 35 HT_ ?_
            refine takeT_ 15 31 HT_ HW_ hHeld rfl (by rintro w' ⟨s0, s1, s2, s3, s4, s5, s6, s7, s8, s9⟩; go_simp; with_reducible rfl) ?_
            refine takeT_ 17 33 HT_ HW_ hHeld rfl (by rintro w' ⟨s0, s1, s2, s3, s4, s5, s6, s7, s8, s9⟩; go_simp; with_reducible rfl) ?_
            refine pureT_ 20 36 HT_ ?_
            refine pureT_ 21 37 HT_ ?_
            refine takeT_ 22 38 HT_ HW_ hHeld rfl (by rintro w' ⟨s0, s1, s2, s3, s4, s5, s6, s7, s8, s9⟩; go_simp; with_reducible rfl) ?_
            refine pureT_ 23 39 HT_ ?_
            refine pureT_ 24 40 HT_ ?_
            refine pureT_ 25 41 HT_ ?_
            refine pureT_ 27 43 HT_ ?_
            refine pureT_ 29 45 HT_ ?_
            refine pureT_ 30 46 HT_ ?_
            refine takeT_ 26 42 HT_ HW_ hHeld rfl (by rintro w' ⟨s0, s1, s2, s3, s4, s5, s6, s7, s8, s9⟩; go_simp; with_reducible rfl) ?_
            refine takeT_ 28 44 HT_ HW_ hHeld rfl (by rintro w' ⟨s0, s1, s2, s3, s4, s5, s6, s7, s8, s9⟩; go_simp; with_reducible rfl) ?_
            refine pureT_ 31 47 HT_ ?_
            refine pureT_ 32 48 HT_ ?_
            refine takeT_ 33 49 HT_ HW_ hHeld rfl (by rintro w' ⟨s0, s1, s2, s3, s4, s5, s6, s7, s8, s9⟩; go_simp; with_reducible rfl) ?_
            refine pureT_ 34 50 HT_ ?_
            refine pureT_ 35 51 HT_ ?_
            refine pureT_ 36 52 HT_ ?_
            refine pureT_ 37 53 HT_ ?_
            refine done_ (done_of HT_.out (by kernel_rfl)) ?_
            try go_wp2
            go_meet
            case rel => exact ⟨_, (decide (((rd_T67 l0_1 x11_1).f1) < ((rd_T67 l0_1 (ji16)).f1))), (by first | rfl | (simp; done) | (simp only [← hji16] <;> (first | rfl | simp)) | (simp [*]; done)), H', ⟨by have := HK1.out; first | omega | exact Nat.le_refl _⟩, ⟨by exact Bz BK192⟩, ⟨by exact Bz BK198⟩, ⟨by exact Lz2 HB GE192 GE198⟩⟩
           rw [if_neg c22] at H
           have c22b0 : (((rd_T67 l0_1 x11_1).f0) == ((rd_T67 l0_1 (ji16)).f0)) = false := beq_eq_false_iff_ne.mpr c22
           have c22b1 : (((rd_T67 l0_1 x11_1).f0) != ((rd_T67 l0_1 (ji16)).f0)) = true := bne_iff_ne.mpr c22
           have H' := Aside0.mk H
           clear H
           try go_wp2
           have n0_ : Aside0 (((w12.setCell ⟨gb198, 0, none⟩ (.int .i64 ((rd_T67 l0_1 x11_1).f0))).setCell ⟨gb198, 1, none⟩ (.int .i64 ((rd_T67 l0_1 x11_1).f1))).heap[gb192]? = some (.cells #[.int .i64 a0_0, .slice (some ad197) l0_1.length c0_1] 31 (0, 0))) := ⟨by (with_reducible repeat (first | refine blk_drewN ?_ _ | refine blk_drew ?_ | refine blk_alloc ?_ _)); refine blk_far ?_ NB192_198.out _; (with_reducible repeat (first | refine blk_drewN ?_ _ | refine blk_drew ?_ | refine blk_alloc ?_ _)); refine blk_far ?_ NB192_198.out _; exact Bz BK192⟩
           have n1_ : Aside0 (((w12.setCell ⟨gb198, 0, none⟩ (.int .i64 ((rd_T67 l0_1 x11_1).f0))).setCell ⟨gb198, 1, none⟩ (.int .i64 ((rd_T67 l0_1 x11_1).f1))).heap[gb198]? = some (.cells #[.int .i64 ((rd_T67 l0_1 x11_1).f0), .int .i64 ((rd_T67 l0_1 x11_1).f1)] 67 (0, 0))) := ⟨by (with_reducible repeat (first | refine blk_drewN ?_ _ | refine blk_drew ?_ | refine blk_alloc ?_ _)); refine blk_put (cs := #[.int .i64 ((rd_T67 l0_1 x11_1).f0), .int .i64 0]) ?_ 1 _ rfl; (with_reducible repeat (first | refine blk_drewN ?_ _ | refine blk_drew ?_ | refine blk_alloc ?_ _)); refine blk_put (cs := #[.int .i64 0, .int .i64 0]) ?_ 0 _ rfl; exact Bz BK198⟩
           have n2_ : Aside0 (Below w.heap.size w ((w12.setCell ⟨gb198, 0, none⟩ (.int .i64 ((rd_T67 l0_1 x11_1).f0))).setCell ⟨gb198, 1, none⟩ (.int .i64 ((rd_T67 l0_1 x11_1).f1)))) := ⟨by exact Lz2 HB GE192 GE198⟩
           (try clear BK192)
           (try clear BK198)
           (try clear HB)
           generalize ((w12.setCell ⟨gb198, 0, none⟩ (.int .i64 ((rd_T67 l0_1 x11_1).f0))).setCell ⟨gb198, 1, none⟩ (.int .i64 ((rd_T67 l0_1 x11_1).f1))) = w25 at n0_ n1_ n2_ ⊢
           have BK192 := n0_
           have BK198 := n1_
           have HB := n2_
           clear n0_ n1_ n2_
           replace BK192 := Aside0.mk (blk_drew BK192.out)
           replace BK198 := Aside0.mk (blk_drew BK198.out)
           replace HB := Aside0.mk (below_drew1 HB.out)
           have p199 : 0 ≤ ((ji16) : Int) := ofA
           have q199 : (ji16) < (l0_1.length : Int) := ofA
           obtain ⟨ad199, e199, hx199_0, hx199_1⟩ := at_T67 HR0_1.out (ji16) p199 q199
           have hw199_1 := hx199_1
           have hw199_0 := hx199_0
           obtain rfl : ad197 = ad199 := (by injection e199)
           replace hx199_0 := (HB.out.cell (World.block_lt_of_cell? w _ hx199_0)).trans hx199_0
           replace hx199_1 := (HB.out.cell (World.block_lt_of_cell? w _ hx199_1)).trans hx199_1
           replace p199 := eq_true p199
           replace q199 := eq_true q199
           have p200 : 0 ≤ ((ji16) : Int) := ofA
           have q200 : (ji16) < (l0_1.length : Int) := ofA
           obtain ⟨ad200, e200, hx200_0, hx200_1⟩ := at_T67 HR0_1.out (ji16) p200 q200
           have hw200_1 := hx200_1
           have hw200_0 := hx200_0
           obtain rfl : ad197 = ad200 := (by injection e200)
           replace hx200_0 := (HB.out.cell (World.block_lt_of_cell? w _ hx200_0)).trans hx200_0
           replace hx200_1 := (HB.out.cell (World.block_lt_of_cell? w _ hx200_1)).trans hx200_1
           replace p200 := eq_true p200
           replace q200 := eq_true q200
           refine start_ (n := 38) (S := fun w' => w'.cell? ⟨gb198, 0, none⟩ = some (.int .i64 ((rd_T67 l0_1 x11_1).f0)) ∧ w'.cell? ⟨gb198, 1, none⟩ = some (.int .i64 ((rd_T67 l0_1 x11_1).f1)) ∧ w'.cell? ⟨gb192, 0, none⟩ = some (.int .i64 a0_0) ∧ w'.cell? ⟨gb192, 1, none⟩ = some (.slice (some ad197) l0_1.length c0_1) ∧ w'.cell? (ad197.add (((ji16)).toNat * 2)) = some (.int .i64 ((rd_T67 l0_1 (ji16)).f0)) ∧ w'.cell? ⟨(ad197.add (((ji16)).toNat * 2)).block, (ad197.add (((ji16)).toNat * 2)).off + 1, none⟩ = some (.int .i64 ((rd_T67 l0_1 (ji16)).f1)) ∧ w'.cell? (ad197.add (((ji16)).toNat * 2)) = some (.int .i64 ((rd_T67 l0_1 (ji16)).f0)) ∧ w'.cell? ⟨(ad197.add (((ji16)).toNat * 2)).block, (ad197.add (((ji16)).toNat * 2)).off + 1, none⟩ = some (.int .i64 ((rd_T67 l0_1 (ji16)).f1))) (ds := []) #[false, false, false, false, false, false, false, false, false, false, false, false, false, false, false, false, false, false, false, false, false, false, false, false, false, false, false, false, false, false, false, false, false, false, false, false, false, false] (by kernel_rfl) rfl rfl ⟨(blk_cell BK198.out 0).trans rfl, (blk_cell BK198.out 1).trans rfl, (blk_cell BK192.out 0).trans rfl, (blk_cell BK192.out 1).trans rfl, ((HB.out.cell (World.block_lt_of_cell? w _ hw199_0)).trans hw199_0), ((HB.out.cell (World.block_lt_of_cell? w _ hw199_1)).trans hw199_1), ((HB.out.cell (World.block_lt_of_cell? w _ hw200_0)).trans hw200_0), ((HB.out.cell (World.block_lt_of_cell? w _ hw200_1)).trans hw200_1)⟩ (fun hHeld => ?_); refine with_tabW spec_GraphOk.tab6 spec_GraphOk.bits6 (fun HT_ HW_ => ?_)
           generalize w25.drew = w26 at BK192 BK198 HB hx199_0 hx199_1 hx200_0 hx200_1 hHeld ⊢
           refine pureT_ 0 16 HT_ ?_
           refine pureT_ 1 17 HT_ ?_
           refine pureT_ 2 18 HT_ ?_
           refine pureT_ 3 19 HT_ ?_
           refine pureT_ 5 21 HT_ ?_
           refine pureT_ 7 23 HT_ ?_
           refine pureT_ 8 24 HT_ ?_
           refine takeT_ 4 20 HT_ HW_ hHeld rfl (by rintro w' ⟨s0, s1, s2, s3, s4, s5, s6, s7⟩; go_simp; with_reducible rfl) ?_
           refine takeT_ 6 22 HT_ HW_ hHeld rfl (by rintro w' ⟨s0, s1, s2, s3, s4, s5, s6, s7⟩; go_simp; with_reducible rfl) ?_
           refine pureT_ 9 25 HT_ ?_
           refine pureT_ 10 26 HT_ ?_
           refine takeT_ 11 27 HT_ HW_ hHeld rfl (by rintro w' ⟨s0, s1, s2, s3, s4, s5, s6, s7⟩; go_simp; with_reducible rfl) ?_
           refine pureT_ 12 28 HT_ ?_
           refine pureT_ 13 29 HT_ ?_
           refine pureT_ 14 30 HT_ ?_
           refine pureT_ 16 32 HT_ ?_
           refine pureT_ 18 34 HT_ ?_
           refine pureT_ 19 35 HT_ ?_
           refine takeT_ 15 31 HT_ HW_ hHeld rfl (by rintro w' ⟨s0, s1, s2, s3, s4, s5, s6, s7⟩; go_simp; with_reducible rfl) ?_
           refine takeT_ 17 33 HT_ HW_ hHeld rfl (by rintro w' ⟨s0, s1, s2, s3, s4, s5, s6, s7⟩; go_simp; with_reducible rfl) ?_
           refine pureT_ 20 36 HT_ ?_
           refine pureT_ 21 37 HT_ ?_
           refine takeT_ 22 38 HT_ HW_ hHeld rfl (by rintro w' ⟨s0, s1, s2, s3, s4, s5, s6, s7⟩; go_simp; with_reducible rfl) ?_
           refine pureT_ 23 39 HT_ ?_
           refine pureT_ 24 40 HT_ ?_
           refine pureU_ 25 41 HT_ ?_
           refine pureU_ 26 42 HT_ ?_
           refine pureU_ 27 43 HT_ ?_
           refine pureU_ 28 44 HT_ ?_
           refine pureU_ 29 45 HT_ ?_
           refine pureU_ 30 46 HT_ ?_
           refine pureU_ 31 47 HT_ ?_
           refine pureU_ 32 48 HT_ ?_
           refine pureU_ 33 49 HT_ ?_
           refine pureU_ 34 50 HT_ ?_
           refine pureT_ 35 51 HT_ ?_
           refine pureT_ 36 52 HT_ ?_
           refine pureT_ 37 53 HT_ ?_
           refine done_ (done_of HT_.out (by kernel_rfl)) ?_
           try go_wp2
           go_meet
           case rel => exact ⟨_, (false), eqA, H', ⟨by have := HK1.out; first | omega | exact Nat.le_refl _⟩, ⟨by exact Bz BK192⟩, ⟨by exact Bz BK198⟩, ⟨by exact Lz2 HB GE192 GE198⟩⟩
          rw [if_neg c18] at H
          exact absurd H (by simp)
         rw [if_neg c17] at H
         exact absurd H (by simp)
        rw [if_neg c15] at H
        have c15b0 : decide (0 < x11_1) = false := decide_eq_false c15
        clear c15
        (first | rw [c15b0] | (simp only [i64_w, i32_w]; rw [c15b0]) | skip)
        have H' := Aside0.mk H
        clear H
        try go_wp2
        have n0_ : Aside0 (((w12.setCell ⟨gb198, 0, none⟩ (.int .i64 ((rd_T67 l0_1 x11_1).f0))).setCell ⟨gb198, 1, none⟩ (.int .i64 ((rd_T67 l0_1 x11_1).f1))).heap[gb192]? = some (.cells #[.int .i64 a0_0, .slice (some ad197) l0_1.length c0_1] 31 (0, 0))) := ⟨by (with_reducible repeat (first | refine blk_drewN ?_ _ | refine blk_drew ?_ | refine blk_alloc ?_ _)); refine blk_far ?_ NB192_198.out _; (with_reducible repeat (first | refine blk_drewN ?_ _ | refine blk_drew ?_ | refine blk_alloc ?_ _)); refine blk_far ?_ NB192_198.out _; exact Bz BK192⟩
        have n1_ : Aside0 (((w12.setCell ⟨gb198, 0, none⟩ (.int .i64 ((rd_T67 l0_1 x11_1).f0))).setCell ⟨gb198, 1, none⟩ (.int .i64 ((rd_T67 l0_1 x11_1).f1))).heap[gb198]? = some (.cells #[.int .i64 ((rd_T67 l0_1 x11_1).f0), .int .i64 ((rd_T67 l0_1 x11_1).f1)] 67 (0, 0))) := ⟨by (with_reducible repeat (first | refine blk_drewN ?_ _ | refine blk_drew ?_ | refine blk_alloc ?_ _)); refine blk_put (cs := #[.int .i64 ((rd_T67 l0_1 x11_1).f0), .int .i64 0]) ?_ 1 _ rfl; (with_reducible repeat (first | refine blk_drewN ?_ _ | refine blk_drew ?_ | refine blk_alloc ?_ _)); refine blk_put (cs := #[.int .i64 0, .int .i64 0]) ?_ 0 _ rfl; exact Bz BK198⟩
        have n2_ : Aside0 (Below w.heap.size w ((w12.setCell ⟨gb198, 0, none⟩ (.int .i64 ((rd_T67 l0_1 x11_1).f0))).setCell ⟨gb198, 1, none⟩ (.int .i64 ((rd_T67 l0_1 x11_1).f1)))) := ⟨by exact Lz2 HB GE192 GE198⟩
        (try clear BK192)
        (try clear BK198)
        (try clear HB)
        generalize ((w12.setCell ⟨gb198, 0, none⟩ (.int .i64 ((rd_T67 l0_1 x11_1).f0))).setCell ⟨gb198, 1, none⟩ (.int .i64 ((rd_T67 l0_1 x11_1).f1))) = w27 at n0_ n1_ n2_ ⊢
        have BK192 := n0_
        have BK198 := n1_
        have HB := n2_
        clear n0_ n1_ n2_
        replace BK192 := Aside0.mk (blk_drew BK192.out)
        replace BK198 := Aside0.mk (blk_drew BK198.out)
        replace HB := Aside0.mk (below_drew1 HB.out)
        refine start_ (n := 38) (S := fun w' => True) (ds := []) #[false, false, false, false, false, false, false, false, false, false, false, false, false, false, false, false, false, false, false, false, false, false, false, false, false, false, false, false, false, false, false, false, false, false, false, false, false, false] (by kernel_rfl) rfl rfl trivial (fun hHeld => ?_); refine with_tabW spec_GraphOk.tab6 spec_GraphOk.bits6 (fun HT_ HW_ => ?_)
        generalize w27.drew = w28 at BK192 BK198 HB hHeld ⊢
        refine pureT_ 0 16 HT_ ?_
        refine pureT_ 1 17 HT_ ?_
        refine pureT_ 2 18 HT_ ?_
        refine pureU_ 3 19 HT_ ?_
        refine pureU_ 4 20 HT_ ?_
        refine pureU_ 5 21 HT_ ?_
        refine pureU_ 6 22 HT_ ?_
        refine pureU_ 7 23 HT_ ?_
        refine pureU_ 8 24 HT_ ?_
        refine pureU_ 9 25 HT_ ?_
        refine pureU_ 10 26 HT_ ?_
        refine pureU_ 11 27 HT_ ?_
        refine pureU_ 12 28 HT_ ?_
        refine pureU_ 13 29 HT_ ?_
        refine pureU_ 14 30 HT_ ?_
        refine pureU_ 15 31 HT_ ?_
        refine pureU_ 16 32 HT_ ?_
        refine pureU_ 17 33 HT_ ?_
        refine pureU_ 18 34 HT_ ?_
        refine pureU_ 19 35 HT_ ?_
        refine pureU_ 20 36 HT_ ?_
        refine pureU_ 21 37 HT_ ?_
        refine pureU_ 22 38 HT_ ?_
        refine pureU_ 23 39 HT_ ?_
        refine pureU_ 24 40 HT_ ?_
        refine pureU_ 25 41 HT_ ?_
        refine pureU_ 26 42 HT_ ?_
        refine pureU_ 27 43 HT_ ?_
        refine pureU_ 28 44 HT_ ?_
        refine pureU_ 29 45 HT_ ?_
        refine pureU_ 30 46 HT_ ?_
        refine pureU_ 31 47 HT_ ?_
        refine pureU_ 32 48 HT_ ?_
        refine pureU_ 33 49 HT_ ?_
        refine pureU_ 34 50 HT_ ?_
        refine pureU_ 35 51 HT_ ?_
        refine pureU_ 36 52 HT_ ?_
        refine pureT_ 37 53 HT_ ?_
        refine done_ (done_of HT_.out (by kernel_rfl)) ?_
        try go_wp2
        go_meet
        case rel => exact ⟨_, (false), eqA, H', ⟨by have := HK1.out; first | omega | exact Nat.le_refl _⟩, ⟨by exact Bz BK192⟩, ⟨by exact Bz BK198⟩, ⟨by exact Lz2 HB GE192 GE198⟩⟩
       case rest =>
        clear HC11
        try clear c15
        try clear c15b0
        try clear c17
        try clear c18
        try clear c22
        try clear c22b0
        try clear c22b1
        try clear p199
        try clear p200
        try clear q199
        try clear q200
        obtain ⟨kq, x53_10, rfl, HA, HJ10, BK192, BK198, HB⟩ := hcut
        cases kq with
        | zero => exact absurd HA.out (by simp [spec_GraphOk.j1])
        | succ kj10 =>
         have H := HA.out
         clear HA
         simp only [spec_GraphOk.j1] at H
         by_cases c29 : x53_10 = true
         ·subst c29
          have H1 : (some false) = some r := by rw [if_pos rfl] at H; exact H
          clear H
          have H := H1
          clear H1
          obtain rfl := Option.some.inj H
          go_wp2
          go_ret
          exact ⟨by first | rfl | (simp [errW_none, errW_some] <;> rfl) | (simp [*, errW_none, errW_some] <;> rfl), by exact Lz2 HB GE192 GE198⟩
         replace c29 := Bool.eq_false_iff.mpr c29
         subst c29
         have H1 : (spec_GraphOk.l0 kj10 l0_1 (l0_1.length : Int) (wrap64 (x11_1 + 1)) a0_0 l0_1) = some r := by rw [if_neg (show ¬ (false = true) by decide)] at H; exact H
         clear H
         have H := H1
         clear H1
         have H' := Aside0.mk H
         clear H
         go_wp2
         go_roundg kj10
         case measure => have := HK1.out; have := HJ10.out; omega
         case rel => exact ⟨(wrap64 (x11_1 + 1)), eqA, H', ⟨by have := HK1.out; have := HJ10.out; omega⟩, ⟨by exact Bz BK192⟩, ⟨by exact Lz2 HB GE192 GE198⟩⟩
      rw [if_neg c10] at H
      exact absurd H (by simp)
     rw [if_neg c9] at H
     exact absurd H (by simp)
    rw [if_neg c8] at H
    have c8b0 : decide (x11_1 < (l0_1.length : Int)) = false := decide_eq_false c8
    clear c8
    replace H := Option.bind_eq_some_iff.mp H
    obtain ⟨t194, A300, H⟩ := H
    replace H : (some ((t194.length : Int) == a0_0)) = some r := H
    have A30 := Aside0.mk A300
    clear A300
    obtain rfl := Option.some.inj H
    try go_wp2
    replace BK192 := Aside0.mk (blk_drew BK192.out)
    replace HB := Aside0.mk (below_drew1 HB.out)
    refine start_ (n := 7) (S := fun w' => w'.cell? ⟨gb192, 0, none⟩ = some (.int .i64 a0_0) ∧ w'.cell? ⟨gb192, 1, none⟩ = some (.slice A0_1 l0_1.length c0_1)) (ds := []) #[false, false, false, false, false, false, false] (by kernel_rfl) rfl rfl ⟨(blk_cell BK192.out 0).trans rfl, (blk_cell BK192.out 1).trans rfl⟩ (fun hHeld => ?_)
    generalize wr.drew = w31 at BK192 HB hHeld ⊢
    refine pure_ (i := 3) (N := some 58) (v := ?_) (a' := ?_) #[false, false, false, true, false, false, false] rfl rfl (by kernel_rfl) (fun _ _ _ h => h) (Or.inl ⟨by rfl, ?_⟩) ?_ ?_
    rotate_left
    ·intro w'
     go_simp
     with_reducible rfl
    rotate_left
    ·simp only [Act.put, List.setIfInBounds_toArray, List.set_cons_zero, List.set_cons_succ, i64_w, i32_w]
     rfl
    refine take_ (i := 0) (N := some 55) (v := ?_) (a' := ?_) #[true, false, false, true, false, false, false] rfl rfl (by kernel_rfl) (fun _ _ _ h => h) (Or.inl ⟨by rfl, ?_⟩) hHeld ?_ ?_
    rotate_left
    ·rintro w' ⟨s0, s1⟩
     go_simp
     with_reducible rfl
    rotate_left
    ·simp only [Act.put, List.setIfInBounds_toArray, List.set_cons_zero, List.set_cons_succ, i64_w, i32_w]
     rfl
    refine take_ (i := 4) (N := some 59) (v := ?_) (a' := ?_) #[true, false, false, true, true, false, false] rfl rfl (by kernel_rfl) (fun _ _ _ h => h) (Or.inl ⟨by rfl, ?_⟩) hHeld ?_ ?_
    rotate_left
    ·rintro w' ⟨s0, s1⟩
     go_simp
     with_reducible rfl
    rotate_left
    ·simp only [Act.put, List.setIfInBounds_toArray, List.set_cons_zero, List.set_cons_succ, i64_w, i32_w]
     rfl
    refine one_ (i := 1) (N := some 56) #[true, true, false, true, true, false, false] rfl rfl (by kernel_rfl) (by decide) (fun K hK => ?_)
    refine goes_ Try.func133 (by kernel_rfl) rfl #[.agg #[.int .i64 a0_0, .slice A0_1 l0_1.length c0_1]] (by rfl) rfl rfl (by (try simp only [List.map_toArray, List.map_cons, List.map_nil]); first | done | rfl | (simp only [List.length_drop, List.length_take]; rfl)) ?_
    with_reducible refine (spec_l02Reach.calls k1 a0_0 _ _ l0_1 t194 _ ?side1 ?side2 A30.out).mono ?_
    (case side1 => exact Cz ((Kd.C_below HR0_1.out HB.out)))
    (case side2 => exact HC0_1.out)
    rintro e w32 ⟨v195, rfl, ho0, hb⟩
    refine ⟨_, rfl, ?_⟩
    have HO196 := Aside0.mk (Kd.R_lower ho0 (below_size (by exact Lz1 HB GE192)))
    replace BK192 := Aside0.mk (blk_below (g := gb192) (o := .cells #[.int .i64 a0_0, .slice A0_1 l0_1.length c0_1] 31 (0, 0)) (Bz BK192) hb)
    replace HB := Aside0.mk (below_step (by exact Lz1 HB GE192) hb)
    (try clear hb)
    (try clear hb2)
    (try clear hk)
    (try clear hi)
    (try clear ho0)
    obtain ⟨Ao33, co33, eo33⟩ := Kd.R_slice HO196.out
    (first | subst eo33 | (injection eo33 with f1_ f2_ f3_; have f4_ := f1_.symm; have f5_ := f3_.symm; clear f1_ f2_ f3_; subst f4_; subst f5_))
    refine hK.out _ _ ⟨(blk_cell BK192.out 0).trans rfl, (blk_cell BK192.out 1).trans rfl⟩ (fun hHeld => ?_)
    clear hK K
    refine norm_ (a' := ?_) ?_ ?_
    rotate_left
    ·show Act.put _ (some 56) _ = _
     simp only [Act.put, List.setIfInBounds_toArray, List.set_cons_zero, List.set_cons_succ, i64_w, i32_w]
     rfl
    refine pure_ (i := 2) (N := some 57) (v := ?_) (a' := ?_) #[true, true, true, true, true, false, false] rfl rfl (by kernel_rfl) (fun _ _ _ h => h) (Or.inl ⟨by rfl, ?_⟩) ?_ ?_
    rotate_left
    ·intro w'
     go_simp
     with_reducible rfl
    rotate_left
    ·simp only [Act.put, List.setIfInBounds_toArray, List.set_cons_zero, List.set_cons_succ, i64_w, i32_w]
     rfl
    refine pure_ (i := 5) (N := some 60) (v := ?_) (a' := ?_) #[true, true, true, true, true, true, false] rfl rfl (by kernel_rfl) (fun _ _ _ h => h) (Or.inl ⟨by rfl, ?_⟩) ?_ ?_
    rotate_left
    ·intro w'
     go_simp
     with_reducible rfl
    rotate_left
    ·simp only [Act.put, List.setIfInBounds_toArray, List.set_cons_zero, List.set_cons_succ, i64_w, i32_w]
     rfl
    refine pure_ (i := 6) (N := some 2) (v := ?_) (a' := ?_) #[true, true, true, true, true, true, true] rfl rfl (by kernel_rfl) (fun _ _ _ h => h) (Or.inl ⟨by rfl, ?_⟩) ?_ ?_
    rotate_left
    ·intro w'
     go_simp
     with_reducible rfl
    rotate_left
    ·simp only [Act.put, List.setIfInBounds_toArray, List.set_cons_zero, List.set_cons_succ, i64_w, i32_w]
     rfl
    refine done_ (by kernel_rfl) ?_
    try go_wp2
    go_ret
    exact ⟨by first | rfl | (simp [errW_none, errW_some] <;> rfl) | (simp [*, errW_none, errW_some] <;> rfl), by exact Lz1 HB GE192⟩
 replace c3 := Bool.eq_false_iff.mpr c3
 subst c3
 have H1 : (some false) = some r := by rw [if_neg (show ¬ (false = true) by decide)] at H; exact H
 clear H
 have H := H1
 clear H1
 obtain rfl := Option.some.inj H
 go_enter Try.func116, Try.ntmps116
 go_wp2_with (first | ((with_reducible refine gate_dst (N := 1) rfl ?_); refine box_event ?hg (N := 1) ?hd (cs := #[.int .i64 a0_0, .slice A0_1 l0_1.length c0_1]) (t := 31) ?hr ?_; (case hd => rfl); (case hg => rfl); (case hr => first | (go_simp; done) | (go_simp; rfl)); intro gb192 hg w34 hbox hb; have BK192 := Aside0.mk (hbox); have GW192 := Aside0.mk ((by rw [hg]; exact (below_size (Lz HB)) : w.heap.size ≤ gb192)); have GE192 := Aside0.mk ((by rw [hg]; exact (below_size (Lz HB)) : w.heap.size ≤ gb192)); replace HB := Aside0.mk (below_step (Lz HB) hb); clear hb hbox hg; have hcz35_0 : w34.cell? ⟨gb192, 0, none⟩ = some (.int .i64 a0_0) := (blk_cell BK192.out 0).trans rfl; have hcz35_1 : w34.cell? ⟨gb192, 1, none⟩ = some (.slice A0_1 l0_1.length c0_1) := (blk_cell BK192.out 1).trans rfl; have hfz35_0 := blk_frozen BK192.out 0; have hfz35_1 := blk_frozen BK192.out 1) | ((with_reducible refine gate_callee (f := 132) rfl ?_); refine goesM_ (some 6) rfl rfl Try.func132 (by kernel_rfl) rfl #[.agg #[.int .i64 a0_0, .slice A0_1 l0_1.length c0_1]] rfl ?_; (with_reducible refine (spec_EdgesOk.calls k a0_0 _ _ l0_1 false _ ?side1 ?side2 A2.out).mono ?_); (case side1 => exact Cz ((Kd.C_below HR0_1.out HB.out))); (case side2 => exact HC0_1.out); rintro e w36 ⟨rfl, hb⟩; refine ⟨_, rfl, ?_⟩; replace BK192 := Aside0.mk (blk_below (g := gb192) (o := .cells #[.int .i64 a0_0, .slice A0_1 l0_1.length c0_1] 31 (0, 0)) (Bz BK192) hb); replace HB := Aside0.mk (below_step (by exact Lz1 HB GE192) hb); (try clear hb); (try clear hb2); (try clear hk); (try clear hi)))
 go_ret
 exact ⟨by first | rfl | (simp [errW_none, errW_some] <;> rfl) | (simp [*, errW_none, errW_some] <;> rfl), by exact Lz1 HB GE192⟩
end Go.Proofs.Ytbcfccdoffbncaa.P
end
