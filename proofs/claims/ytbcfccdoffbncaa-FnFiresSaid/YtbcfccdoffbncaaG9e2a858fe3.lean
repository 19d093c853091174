/- Functions of the program as plain Lean functions and that the machine's calls answer as they do, the words of the print that these use, lemmas and plain proofs of laws. Put together by a program of this work that leaves out what nothing uses; Lean checks it. -/
import Derived.Test.YtbcfccdoffbncaaG5daffe5293
import Derived.Test.YtbcfccdoffbncaaG761cdaac89
import Derived.Test.YtbcfccdoffbncaaG69d53c0c60
import Derived.Test.YtbcfccdoffbncaaGe3f21df5fd
import Derived.Test.YtbcfccdoffbncaaGcdcc453246
section
namespace Go.Proofs.Ytbcfccdoffbncaa.P
open Go.RowKit Go.Proofs.YtbcfccdoffbncaaW.PrintWords Go.Proofs.YtbcfccdoffbncaaW.PrintLast Go.Proofs.YtbcfccdoffbncaaW.PrintMore
attribute [local go_sem] max2_int min2_int max_two min_two max_three min_three max_four min_four
set_option linter.unusedVariables false
set_option linter.unusedSimpArgs false
mutual
def laws_FnFires.j0 : Nat → List Int → Option (Bool)
 | 0, _ => none
 | k + 1, x0 => (spec_MakeGraph.f k x0).bind fun bt1012 => ((spec_MakeDivisor.f k x0 20 bt1012.1 bt1012.2).bind fun t1017 => ((spec_MakeScript.f k x0 40 bt1012.1 bt1012.2).bind fun t1020 => ((impl_FireScript.f k bt1012.1 bt1012.2 t1017 t1020).bind fun bt1023 => (if bt1023.2 = true then (if (bt1023.1.length : Int) = bt1012.1 then ((impl_ScriptOk.f k bt1012.1 bt1012.2 t1020).bind fun t1027 => (laws_FnFires.j1 k t1017 t1020 bt1023.1 (!t1027) bt1012.1 bt1012.2)) else (laws_FnFires.j1 k t1017 t1020 bt1023.1 true bt1012.1 bt1012.2)) else (laws_FnFires.j1 k t1017 t1020 bt1023.1 true bt1012.1 bt1012.2)))))
def laws_FnFires.j1 : Nat → List Int → List Int → List Int → Bool → Int → List (S67) → Option (Bool)
 | 0, _, _, _, _, _, _ => none
 | k + 1, x4, x5, x6, x49, x1017000, x1017001 => if x49 = true then (some false) else (laws_FnFires.j2 k x4 x5 x6 x1017000 x1017001)
def laws_FnFires.j2 : Nat → List Int → List Int → List Int → Int → List (S67) → Option (Bool)
 | 0, _, _, _, _, _ => none
 | k + 1, x4, x5, x6, x1017000, x1017001 => (impl_NegateDivisor.f k x5).bind fun t1028 => ((impl_FireScript.f k x1017000 x1017001 x6 t1028).bind fun bt1031 => (laws_FnFires.l0 k x4 x5 x6 bt1031.1 bt1031.2 (([] : List Int)) 0 x1017000 x1017001))
def laws_FnFires.l0 : Nat → List Int → List Int → List Int → List Int → Bool → List Int → Int → Int → List (S67) → Option (Bool)
 | 0, _, _, _, _, _, _, _, _, _ => none
 | k + 1, x4, x5, x6, x8, x9, x10, x11, x1017000, x1017001 => if x11 < x1017000 then (if x10.length < 17592186044416 then (laws_FnFires.l0 k x4 x5 x6 x8 x9 (x10 ++ [x11]) (wrap64 (x11 + 1)) x1017000 x1017001) else (none)) else ((impl_FireSet.f k x1017000 x1017001 x4 x10).bind fun bt1041 => ((impl_LaplacianOf.f k x1017000 x1017001).bind fun t1045 => ((impl_TimesVector.f k t1045 x5).bind fun t1048 => ((impl_AddDivisors.f k x6 t1048).bind fun bt1051 => (if x9 = true then (if bt1041.2 = true then (if bt1051.2 = true then ((laws_same.f k x8 x4).bind fun t1055 => (if t1055 = true then ((laws_same.f k bt1041.1 x4).bind fun t1056 => (if t1056 = true then ((laws_same.f k bt1051.1 x4).bind fun t1057 => (if t1057 = true then ((impl_DegreeOf.f k x6).bind fun t1058 => ((impl_DegreeOf.f k x4).bind fun t1059 => (if t1058 = t1059 then ((impl_AreEquivalent.f k x1017000 x1017001 x4 x6).bind fun t1060 => (some t1060)) else (some false)))) else (some false))) else (some false))) else (some false))) else (some false)) else (some false)) else (some false))))))
end
def laws_FnFires.f (k : Nat) (l0 : List Int) : Option (Bool) := if (l0.length : Int) > 1048576 then (some true) else (laws_FnFires.j0 k l0)
def laws_FnFires.T9 : Bool × List (List Nat × List Nat) := (true, [([], []), ([], []), ([], []), ([2], [2]), ([0, 1, 3, 3], [0, 1, 3]), ([4], [4]), ([5], [5]), ([5], [5]), ([6, 4, 0, 1, 2, 3, 4, 5, 6], [6]), ([7, 8, 0, 1, 2, 3, 4, 5, 6, 7, 8], [7])])
def laws_FnFires.B9 : List Nat := [0, 0, 0, 4, 15, 31, 63, 63, 127, 511]
theorem laws_FnFires.tab9 : rtab .any (opsOf Try.f8 9) = laws_FnFires.T9 := by kernel_rfl
theorem laws_FnFires.bits9 : waitsOk laws_FnFires.T9.2 laws_FnFires.B9 = true := by kernel_rfl
set_option maxHeartbeats 8000000 in
set_option maxRecDepth 100000 in
theorem laws_FnFires.calls (k : Nat) (A0 : Option Addr) (c0 : Nat) (l0 : List Int) (r : Bool) (w : World) (hr0 : Kd.C (Kd.int .u8) w A0 l0.length l0) (hc0 : l0.length ≤ c0) (h : laws_FnFires.f k l0 = some r) (hR_ : r = true := by rfl) :
  Calls Try.prog 8 #[.slice A0 l0.length c0] w fun e w' => e = .returned (.bool r) ∧ Below w.heap.size w w' := by
 have HR_ := Aside0.mk hR_
 clear hR_
 have hu31 := Try.underlying31
 have HR0 := Aside0.mk hr0
 have HC0 := Aside0.mk hc0
 clear hr0 hc0
 have HB := Aside0.mk (Below.refl w.heap.size w)
 have H : (if (l0.length : Int) > 1048576 then (some true) else (laws_FnFires.j0 k l0)) = some r := h
 clear h
 have HC2 := Aside0.mk H
 clear H
 go_enter Try.func8, Try.ntmps8
 go_upto_if 19 with (fail)
 go_cut [] (fun wc => ∃ (kq : Nat), Aside0 (laws_FnFires.j0 kq l0 = some r) ∧ Aside0 (kq ≤ k) ∧ Aside0 (Below w.heap.size w wc))
 case first =>
  have H := HC2.out
  clear HC2
  by_cases c3 : (l0.length : Int) > 1048576
  ·rw [if_pos c3] at H
   have c3b0 : decide (1048576 < (l0.length : Int)) = true := decide_eq_true c3
   have c3b1 : decide (1048576 < l0.length) = true := decide_eq_true (by omega)
   clear c3
   (first | rw [c3b0] | (simp only [i64_w, i32_w]; rw [c3b0]) | skip)
   obtain rfl := Option.some.inj H
   go_wp2
   go_ret
   exact ⟨by first | rfl | (simp [errW_none, errW_some] <;> rfl) | (simp [*, errW_none, errW_some] <;> rfl), by exact Lz HB⟩
  rw [if_neg c3] at H
  have c3b0 : decide (1048576 < (l0.length : Int)) = false := decide_eq_false c3
  have c3b1 : decide (1048576 < l0.length) = false := decide_eq_false (by omega)
  clear c3
  (first | rw [c3b0] | (simp only [i64_w, i32_w]; rw [c3b0]) | skip)
  have H' := Aside0.mk H
  clear H
  go_wp2
  go_meet
  case rel => exact ⟨_, H', ⟨by first | omega | exact Nat.le_refl _⟩, ⟨by exact Lz HB⟩⟩
 case rest =>
  clear HC2
  try clear c3
  try clear c3b0
  try clear c3b1
  obtain ⟨kq, HA, HJ1, HB⟩ := hcut
  cases kq with
  | zero => exact absurd HA.out (by simp [laws_FnFires.j0])
  | succ kj1 =>
   have H := HA.out
   clear HA
   simp only [laws_FnFires.j0] at H
   replace H := Option.bind_eq_some_iff.mp H
   obtain ⟨⟨t1012, t1013⟩, A40, H⟩ := H
   replace H : ((spec_MakeDivisor.f kj1 l0 20 t1012 t1013).bind fun t1017 => ((spec_MakeScript.f kj1 l0 40 t1012 t1013).bind fun t1020 => ((impl_FireScript.f kj1 t1012 t1013 t1017 t1020).bind fun bt1023 => (if bt1023.2 = true then (if (bt1023.1.length : Int) = t1012 then ((impl_ScriptOk.f kj1 t1012 t1013 t1020).bind fun t1027 => (laws_FnFires.j1 kj1 t1017 t1020 bt1023.1 (!t1027) t1012 t1013)) else (laws_FnFires.j1 kj1 t1017 t1020 bt1023.1 true t1012 t1013)) else (laws_FnFires.j1 kj1 t1017 t1020 bt1023.1 true t1012 t1013))))) = some r := H
   have A4 := Aside0.mk A40
   clear A40
   replace H := Option.bind_eq_some_iff.mp H
   obtain ⟨t1017, A50, H⟩ := H
   replace H : ((spec_MakeScript.f kj1 l0 40 t1012 t1013).bind fun t1020 => ((impl_FireScript.f kj1 t1012 t1013 t1017 t1020).bind fun bt1023 => (if bt1023.2 = true then (if (bt1023.1.length : Int) = t1012 then ((impl_ScriptOk.f kj1 t1012 t1013 t1020).bind fun t1027 => (laws_FnFires.j1 kj1 t1017 t1020 bt1023.1 (!t1027) t1012 t1013)) else (laws_FnFires.j1 kj1 t1017 t1020 bt1023.1 true t1012 t1013)) else (laws_FnFires.j1 kj1 t1017 t1020 bt1023.1 true t1012 t1013)))) = some r := H
   have A5 := Aside0.mk A50
   clear A50
   replace H := Option.bind_eq_some_iff.mp H
   obtain ⟨t1020, A60, H⟩ := H
   replace H : ((impl_FireScript.f kj1 t1012 t1013 t1017 t1020).bind fun bt1023 => (if bt1023.2 = true then (if (bt1023.1.length : Int) = t1012 then ((impl_ScriptOk.f kj1 t1012 t1013 t1020).bind fun t1027 => (laws_FnFires.j1 kj1 t1017 t1020 bt1023.1 (!t1027) t1012 t1013)) else (laws_FnFires.j1 kj1 t1017 t1020 bt1023.1 true t1012 t1013)) else (laws_FnFires.j1 kj1 t1017 t1020 bt1023.1 true t1012 t1013))) = some r := H
   have A6 := Aside0.mk A60
   clear A60
   replace H := Option.bind_eq_some_iff.mp H
   obtain ⟨⟨t1023, t1026⟩, A70, H⟩ := H
   replace H : (if t1026 = true then (if (t1023.length : Int) = t1012 then ((impl_ScriptOk.f kj1 t1012 t1013 t1020).bind fun t1027 => (laws_FnFires.j1 kj1 t1017 t1020 t1023 (!t1027) t1012 t1013)) else (laws_FnFires.j1 kj1 t1017 t1020 t1023 true t1012 t1013)) else (laws_FnFires.j1 kj1 t1017 t1020 t1023 true t1012 t1013)) = some r := H
   have A7 := Aside0.mk A70
   clear A70
   have HC8 := Aside0.mk H
   clear H
   go_upto_region 7 with (first | ((with_reducible refine gate_callee (f := 22) rfl ?_); refine goesM_ (some 21) rfl rfl Try.func22 (by kernel_rfl) rfl #[.slice A0 l0.length c0] rfl ?_; (with_reducible refine (spec_MakeGraph.calls kj1 _ _ l0 t1012 t1013 _ ?side1 ?side2 A4.out).mono ?_); (case side1 => exact Cz ((Kd.C_below HR0.out HB.out))); (case side2 => exact HC0.out); rintro e w9 ⟨v1014, rfl, ho0, hb⟩; refine ⟨_, rfl, ?_⟩; have HO1015 := Aside0.mk (Kd.R_lower ho0 (below_size (Lz HB))); replace HB := Aside0.mk (below_step (Lz HB) hb); (try clear hb); (try clear ho0)) | ((with_reducible refine gate_dst (N := 3) rfl ?_); (try (refine gate_guard (by rfl) ?_; dsimp only)); refine box_event ?hg (N := 3) ?hd (cs := #[.int .i64 0, .slice none 0 0]) (t := 31) ?hr ?_; (case hd => rfl); (case hg => rfl); (case hr => first | (go_simp; done) | (go_simp; rfl)); intro gb1016 hg w10 hbox hb; replace HO1015 := Aside0.mk (Kd.R_below (Rz HO1015) hb); have BK1016 := Aside0.mk (hbox); have GW1016 := Aside0.mk ((by rw [hg]; exact (below_size (Lz HB)) : w.heap.size ≤ gb1016)); have GE1016 := Aside0.mk ((by rw [hg]; exact (below_size (Lz HB)) : w.heap.size ≤ gb1016)); replace HB := Aside0.mk (below_step (Lz HB) hb); clear hb hbox hg; have hcz11_0 : w10.cell? ⟨gb1016, 0, none⟩ = some (.int .i64 0) := (blk_cell BK1016.out 0).trans rfl; have hcz11_1 : w10.cell? ⟨gb1016, 1, none⟩ = some (.slice none 0 0) := (blk_cell BK1016.out 1).trans rfl; have hfz11_0 := blk_frozen BK1016.out 0; have hfz11_1 := blk_frozen BK1016.out 1; obtain ⟨Ao12, co12, eo12⟩ := Kd.R_slice HO1015.out; subst eo12) | ((with_reducible refine gate_callee (f := 23) rfl ?_); refine goesM_ (some 24) rfl rfl Try.func23 (by kernel_rfl) rfl #[.slice A0 l0.length c0, .int .i64 20, .agg #[.int .i64 t1012, .slice Ao12 t1013.length co12]] rfl ?_; (with_reducible refine (spec_MakeDivisor.calls kj1 _ _ l0 20 t1012 _ _ t1013 t1017 _ ?side1 ?side2 ?side3 ?side4 A5.out).mono ?_); (case side1 => exact Kd.C_below HR0.out (by exact Lz1 HB GE1016)); (case side2 => exact HC0.out); (case side3 => refine (Kd.R_reads' (e := 67) (base := w.heap.size) (ok := fun k_ => True) (n := t1013.length) (c := co12) ?_).2.2; exact (by (with_reducible repeat (first | apply Kd.R_alloc | apply Kd.R_drewN | apply Kd.R_drew)); exact (Kd.R_mono (Kd.R_far (p := ⟨gb1016, 1, none⟩) (Kd.R_far (p := ⟨gb1016, 0, none⟩) (Kd.R_types HO1015.out BK1016.out (by decide)) (fun _ hk => hk.2) (.int .i64 t1012)) (fun _ hk => hk.2) (.slice Ao12 t1013.length co12)) (fun _ h_ => h_.1)))); (case side4 => exact (Kd.R_reads' HO1015.out).2.1); rintro e w13 ⟨v1018, rfl, ho0, hb⟩; refine ⟨_, rfl, ?_⟩; replace HO1015 := Aside0.mk (Kd.R_below (by (with_reducible repeat (first | apply Kd.R_alloc | apply Kd.R_drewN | apply Kd.R_drew)); exact (Kd.R_mono (Kd.R_far (p := ⟨gb1016, 1, none⟩) (Kd.R_far (p := ⟨gb1016, 0, none⟩) (Kd.R_types HO1015.out BK1016.out (by decide)) (fun _ hk => hk.2) (.int .i64 t1012)) (fun _ hk => hk.2) (.slice Ao12 t1013.length co12)) (fun _ h_ => h_.1))) hb); have HO1019 := Aside0.mk (Kd.R_lower ho0 (below_size (by exact Lz1 HB GE1016))); replace BK1016 := Aside0.mk (blk_below (g := gb1016) (o := .cells #[.int .i64 t1012, .slice Ao12 t1013.length co12] 31 (0, 0)) (by (with_reducible repeat (first | refine blk_drewN ?_ _ | refine blk_drew ?_ | refine blk_alloc ?_ _)); refine blk_put (cs := #[.int .i64 t1012, .slice none 0 0]) ?_ 1 _ rfl; (with_reducible repeat (first | refine blk_drewN ?_ _ | refine blk_drew ?_ | refine blk_alloc ?_ _)); refine blk_put (cs := #[.int .i64 0, .slice none 0 0]) ?_ 0 _ rfl; exact Bz BK1016) hb); replace HB := Aside0.mk (below_step (by exact Lz1 HB GE1016) hb); (try clear hb); (try clear ho0); have hcz14_0 : w13.cell? ⟨gb1016, 0, none⟩ = some (.int .i64 t1012) := (blk_cell BK1016.out 0).trans rfl; have hcz14_1 : w13.cell? ⟨gb1016, 1, none⟩ = some (.slice Ao12 t1013.length co12) := (blk_cell BK1016.out 1).trans rfl; have hfz14_0 := blk_frozen BK1016.out 0; have hfz14_1 := blk_frozen BK1016.out 1) | ((with_reducible refine gate_callee (f := 30) rfl ?_); refine goesM_ (some 27) rfl rfl Try.func30 (by kernel_rfl) rfl #[.slice A0 l0.length c0, .int .i64 40, .agg #[.int .i64 t1012, .slice Ao12 t1013.length co12]] rfl ?_; (with_reducible refine (spec_MakeScript.calls kj1 _ _ l0 40 t1012 _ _ t1013 t1020 _ ?side1 ?side2 ?side3 ?side4 A6.out).mono ?_); (case side1 => exact Cz ((Kd.C_below HR0.out HB.out))); (case side2 => exact HC0.out); (case side3 => exact Cz ((Kd.R_reads' HO1015.out).2.2)); (case side4 => exact (Kd.R_reads' HO1015.out).2.1); rintro e w15 ⟨v1021, rfl, ho0, hb⟩; refine ⟨_, rfl, ?_⟩; replace HO1015 := Aside0.mk (Kd.R_below (Rz HO1015) hb); have HO1022 := Aside0.mk (Kd.R_lower (Kd.R_new' ho0 (Kd.R_lt (Rz HO1019))) (below_size (by exact Lz1 HB GE1016))); replace HO1019 := Aside0.mk (Kd.R_elder' (Rz HO1019) (Kd.R_base ho0) hb); replace BK1016 := Aside0.mk (blk_below (g := gb1016) (o := .cells #[.int .i64 t1012, .slice Ao12 t1013.length co12] 31 (0, 0)) (Bz BK1016) hb); replace HB := Aside0.mk (below_step (by exact Lz1 HB GE1016) hb); (try clear hb); (try clear ho0); have hcz16_0 : w15.cell? ⟨gb1016, 0, none⟩ = some (.int .i64 t1012) := (blk_cell BK1016.out 0).trans rfl; have hcz16_1 : w15.cell? ⟨gb1016, 1, none⟩ = some (.slice Ao12 t1013.length co12) := (blk_cell BK1016.out 1).trans rfl; have hfz16_0 := blk_frozen BK1016.out 0; have hfz16_1 := blk_frozen BK1016.out 1; obtain ⟨Ao17, co17, eo17⟩ := Kd.R_slice HO1019.out; subst eo17; obtain ⟨Ao18, co18, eo18⟩ := Kd.R_slice HO1022.out; subst eo18) | ((with_reducible refine gate_callee (f := 27) rfl ?_); refine goesM_ (some 32) rfl rfl Try.func27 (by kernel_rfl) rfl #[.agg #[.int .i64 t1012, .slice Ao12 t1013.length co12], .slice Ao17 t1017.length co17, .slice Ao18 t1020.length co18] rfl ?_; (with_reducible refine (impl_FireScript.calls kj1 t1012 _ _ t1013 _ _ t1017 _ _ t1020 t1023 t1026 _ ?side1 ?side2 ?side3 ?side4 ?side5 ?side6 A7.out).mono ?_); (case side1 => exact Cz ((Kd.R_reads' HO1015.out).2.2)); (case side2 => exact (Kd.R_reads' HO1015.out).2.1); (case side3 => exact Cz ((Kd.R_reads' HO1019.out).2.2)); (case side4 => exact (Kd.R_reads' HO1019.out).2.1); (case side5 => exact Cz ((Kd.R_reads' HO1022.out).2.2)); (case side6 => exact (Kd.R_reads' HO1022.out).2.1); rintro e w19 ⟨v1024, rfl, ho0, hb⟩; refine ⟨_, rfl, ?_⟩; replace HO1015 := Aside0.mk (Kd.R_below (Rz HO1015) hb); have HO1025 := Aside0.mk (Kd.R_lower (Kd.R_new' (Kd.R_new' ho0 (Kd.R_lt (Rz HO1019))) (Kd.R_lt (Rz HO1022))) (below_size (by exact Lz1 HB GE1016))); replace HO1019 := Aside0.mk (Kd.R_elder' (Rz HO1019) (Kd.R_base ho0) hb); replace HO1022 := Aside0.mk (Kd.R_elder' (Rz HO1022) (Kd.R_base ho0) hb); replace BK1016 := Aside0.mk (blk_below (g := gb1016) (o := .cells #[.int .i64 t1012, .slice Ao12 t1013.length co12] 31 (0, 0)) (Bz BK1016) hb); replace HB := Aside0.mk (below_step (by exact Lz1 HB GE1016) hb); (try clear hb); (try clear ho0)))
   (try simp only [Act.put, List.setIfInBounds_toArray, List.set_cons_zero, List.set_cons_succ])
   go_cut [49] (fun v49 wc => ∃ (kq : Nat) (x49_7 : Bool), v49 = .bool x49_7 ∧ Aside0 (laws_FnFires.j1 kq t1017 t1020 t1023 x49_7 t1012 t1013 = some r) ∧ Aside0 (kq ≤ kj1) ∧ Aside0 (Kd.R (Kd.int .i64) 3 wc w.heap.size (fun k_ => some k_ ≠ ((.slice Ao18 t1020.length co18) : Value).ownBlock ∧ some k_ ≠ (v1024 : Value).ownBlock) (.slice Ao17 t1017.length co17) t1017) ∧ Aside0 (Kd.R (Kd.int .i64) 3 wc w.heap.size (fun k_ => some k_ ≠ ((.slice Ao17 t1017.length co17) : Value).ownBlock ∧ some k_ ≠ (v1024 : Value).ownBlock) (.slice Ao18 t1020.length co18) t1020) ∧ Aside0 (Kd.R (Kd.int .i64) 3 wc w.heap.size (fun k_ => some k_ ≠ ((.slice Ao17 t1017.length co17) : Value).ownBlock ∧ some k_ ≠ ((.slice Ao18 t1020.length co18) : Value).ownBlock) v1024 t1023) ∧ Aside0 (Kd.R k67 67 wc w.heap.size (fun _ => True) (.slice Ao12 t1013.length co12) t1013) ∧ Aside0 (wc.heap[gb1016]? = some (.cells #[.int .i64 t1012, (.slice Ao12 t1013.length co12)] 31 (0, 0))) ∧ Aside0 (Below w.heap.size w wc))
   case first =>
    have H := HC8.out
    clear HC8
    by_cases c20 : t1026 = true
    ·subst c20
     have H1 : (if (t1023.length : Int) = t1012 then ((impl_ScriptOk.f kj1 t1012 t1013 t1020).bind fun t1027 => (laws_FnFires.j1 kj1 t1017 t1020 t1023 (!t1027) t1012 t1013)) else (laws_FnFires.j1 kj1 t1017 t1020 t1023 true t1012 t1013)) = some r := by rw [if_pos rfl] at H; exact H
     clear H
     have H := H1
     clear H1
     by_cases c21 : (t1023.length : Int) = t1012
     ·rw [if_pos c21] at H
      have c21b0 : ((t1023.length : Int) == t1012) = true := beq_iff_eq.mpr c21
      have c21b1 : ((t1023.length : Int) != t1012) = false := bne_eq_false_iff_eq.mpr c21
      clear c21
      (first | rw [c21b0] | (simp only [i64_w, i32_w]; rw [c21b0]) | skip)
      replace H := Option.bind_eq_some_iff.mp H
      obtain ⟨t1027, A220, H⟩ := H
      replace H : (laws_FnFires.j1 kj1 t1017 t1020 t1023 (!t1027) t1012 t1013) = some r := H
      have A22 := Aside0.mk A220
      clear A220
      have H' := Aside0.mk H
      clear H
      obtain ⟨Ao23, co23, eo23⟩ := Kd.R_slice HO1025.out
      subst eo23
      have hcz24_0 : w19.cell? ⟨gb1016, 0, none⟩ = some (.int .i64 t1012) := (blk_cell BK1016.out 0).trans rfl
      have hcz24_1 : w19.cell? ⟨gb1016, 1, none⟩ = some (.slice Ao12 t1013.length co12) := (blk_cell BK1016.out 1).trans rfl
      have hfz24_0 := blk_frozen BK1016.out 0
      have hfz24_1 := blk_frozen BK1016.out 1
      go_wp2_with (first | (go_at_call 40; (with_reducible refine (impl_ScriptOk.calls kj1 t1012 _ _ t1013 _ _ t1020 t1027 _ ?side1 ?side2 ?side3 ?side4 A22.out).mono ?_); (case side1 => exact Cz ((Kd.R_reads' HO1015.out).2.2)); (case side2 => exact (Kd.R_reads' HO1015.out).2.1); (case side3 => exact Cz ((Kd.R_reads' HO1022.out).2.2)); (case side4 => exact (Kd.R_reads' HO1022.out).2.1); rintro e w25 ⟨rfl, hb⟩; replace HO1015 := Aside0.mk (Kd.R_below (Rz HO1015) hb); replace HO1019 := Aside0.mk (Kd.R_below (Rz HO1019) hb); replace HO1022 := Aside0.mk (Kd.R_below (Rz HO1022) hb); replace HO1025 := Aside0.mk (Kd.R_below (Rz HO1025) hb); replace BK1016 := Aside0.mk (blk_below (g := gb1016) (o := .cells #[.int .i64 t1012, .slice Ao12 t1013.length co12] 31 (0, 0)) (Bz BK1016) hb); replace HB := Aside0.mk (below_step (by exact Lz1 HB GE1016) hb); (try clear hb); (try clear hb2); (try clear hk); (try clear hi)))
      go_meet
      case rel => exact ⟨_, (!t1027), eqA, H', ⟨by have := HJ1.out; first | omega | exact Nat.le_refl _⟩, ⟨by (with_reducible repeat (first | apply Kd.R_alloc | apply Kd.R_drewN | apply Kd.R_drew)); exact Kd.R_mono HO1019.out (fun _ hk => ⟨hk.1.2, hk.2⟩)⟩, ⟨by (with_reducible repeat (first | apply Kd.R_alloc | apply Kd.R_drewN | apply Kd.R_drew)); exact Kd.R_mono HO1022.out (fun _ hk => ⟨hk.1.2, hk.2⟩)⟩, ⟨by (with_reducible repeat (first | apply Kd.R_alloc | apply Kd.R_drewN | apply Kd.R_drew)); exact Kd.R_mono HO1025.out (fun _ hk => ⟨hk.1.2, hk.2⟩)⟩, ⟨by exact Rz HO1015⟩, ⟨by exact Bz BK1016⟩, ⟨by exact Lz1 HB GE1016⟩⟩
     rw [if_neg c21] at H
     have c21b0 : ((t1023.length : Int) == t1012) = false := beq_eq_false_iff_ne.mpr c21
     have c21b1 : ((t1023.length : Int) != t1012) = true := bne_iff_ne.mpr c21
     (first | rw [c21b0] | (simp only [i64_w, i32_w]; rw [c21b0]) | skip)
     have H' := Aside0.mk H
     clear H
     obtain ⟨Ao26, co26, eo26⟩ := Kd.R_slice HO1025.out
     subst eo26
     have hcz27_0 : w19.cell? ⟨gb1016, 0, none⟩ = some (.int .i64 t1012) := (blk_cell BK1016.out 0).trans rfl
     have hcz27_1 : w19.cell? ⟨gb1016, 1, none⟩ = some (.slice Ao12 t1013.length co12) := (blk_cell BK1016.out 1).trans rfl
     have hfz27_0 := blk_frozen BK1016.out 0
     have hfz27_1 := blk_frozen BK1016.out 1
     go_wp2
     go_meet
     case rel => exact ⟨_, (true), eqA, H', ⟨by have := HJ1.out; first | omega | exact Nat.le_refl _⟩, ⟨by (with_reducible repeat (first | apply Kd.R_alloc | apply Kd.R_drewN | apply Kd.R_drew)); exact Kd.R_mono HO1019.out (fun _ hk => ⟨hk.1.2, hk.2⟩)⟩, ⟨by (with_reducible repeat (first | apply Kd.R_alloc | apply Kd.R_drewN | apply Kd.R_drew)); exact Kd.R_mono HO1022.out (fun _ hk => ⟨hk.1.2, hk.2⟩)⟩, ⟨by (with_reducible repeat (first | apply Kd.R_alloc | apply Kd.R_drewN | apply Kd.R_drew)); exact Kd.R_mono HO1025.out (fun _ hk => ⟨hk.1.2, hk.2⟩)⟩, ⟨by exact Rz HO1015⟩, ⟨by exact Bz BK1016⟩, ⟨by exact Lz1 HB GE1016⟩⟩
    replace c20 := Bool.eq_false_iff.mpr c20
    subst c20
    have H1 : (laws_FnFires.j1 kj1 t1017 t1020 t1023 true t1012 t1013) = some r := by rw [if_neg (show ¬ (false = true) by decide)] at H; exact H
    clear H
    have H := H1
    clear H1
    have H' := Aside0.mk H
    clear H
    go_wp2
    go_meet
    case rel => exact ⟨_, (true), eqA, H', ⟨by have := HJ1.out; first | omega | exact Nat.le_refl _⟩, ⟨by (with_reducible repeat (first | apply Kd.R_alloc | apply Kd.R_drewN | apply Kd.R_drew)); exact Kd.R_mono HO1019.out (fun _ hk => ⟨hk.1.2, hk.2⟩)⟩, ⟨by (with_reducible repeat (first | apply Kd.R_alloc | apply Kd.R_drewN | apply Kd.R_drew)); exact Kd.R_mono HO1022.out (fun _ hk => ⟨hk.1.2, hk.2⟩)⟩, ⟨by (with_reducible repeat (first | apply Kd.R_alloc | apply Kd.R_drewN | apply Kd.R_drew)); exact Kd.R_mono HO1025.out (fun _ hk => ⟨hk.1.2, hk.2⟩)⟩, ⟨by exact Rz HO1015⟩, ⟨by exact Bz BK1016⟩, ⟨by exact Lz1 HB GE1016⟩⟩
   case rest =>
    clear HC8
    try clear c3
    try clear c3b0
    try clear c3b1
    try clear c20
    try clear c21
    try clear c21b0
    try clear c21b1
    obtain ⟨kq, x49_7, rfl, HA, HJ7, HO_4, HO_5, HO_6, HO_1017001, BK1016, HB⟩ := hcut
    cases kq with
    | zero => exact absurd HA.out (by simp [laws_FnFires.j1])
    | succ kj7 =>
     have H := HA.out
     clear HA
     simp only [laws_FnFires.j1] at H
     have HC28 := Aside0.mk H
     clear H
     go_upto_if 49 with (fail)
     go_cut [] (fun wc => ∃ (kq : Nat), Aside0 (laws_FnFires.j2 kq t1017 t1020 t1023 t1012 t1013 = some r) ∧ Aside0 (kq ≤ kj7) ∧ Aside0 (Kd.R (Kd.int .i64) 3 wc w.heap.size (fun k_ => some k_ ≠ ((.slice Ao18 t1020.length co18) : Value).ownBlock ∧ some k_ ≠ (v1024 : Value).ownBlock) (.slice Ao17 t1017.length co17) t1017) ∧ Aside0 (Kd.R (Kd.int .i64) 3 wc w.heap.size (fun k_ => some k_ ≠ ((.slice Ao17 t1017.length co17) : Value).ownBlock ∧ some k_ ≠ (v1024 : Value).ownBlock) (.slice Ao18 t1020.length co18) t1020) ∧ Aside0 (Kd.R (Kd.int .i64) 3 wc w.heap.size (fun k_ => some k_ ≠ ((.slice Ao17 t1017.length co17) : Value).ownBlock ∧ some k_ ≠ ((.slice Ao18 t1020.length co18) : Value).ownBlock) v1024 t1023) ∧ Aside0 (Kd.R k67 67 wc w.heap.size (fun _ => True) (.slice Ao12 t1013.length co12) t1013) ∧ Aside0 (wc.heap[gb1016]? = some (.cells #[.int .i64 t1012, (.slice Ao12 t1013.length co12)] 31 (0, 0))) ∧ Aside0 (Below w.heap.size w wc))
     case first =>
      have H := HC28.out
      clear HC28
      by_cases c29 : x49_7 = true
      ·subst c29
       have H1 : (some false) = some r := by rw [if_pos rfl] at H; exact H
       clear H
       have H := H1
       clear H1
       exact absurd (Option.some.inj H) (by rw [HR_.out]; decide)
      replace c29 := Bool.eq_false_iff.mpr c29
      subst c29
      have H1 : (laws_FnFires.j2 kj7 t1017 t1020 t1023 t1012 t1013) = some r := by rw [if_neg (show ¬ (false = true) by decide)] at H; exact H
      clear H
      have H := H1
      clear H1
      have H' := Aside0.mk H
      clear H
      go_wp2
      go_meet
      case rel => exact ⟨_, H', ⟨by have := HJ1.out; have := HJ7.out; first | omega | exact Nat.le_refl _⟩, ⟨by exact Rz HO_4⟩, ⟨by exact Rz HO_5⟩, ⟨by exact Rz HO_6⟩, ⟨by exact Rz HO_1017001⟩, ⟨by exact Bz BK1016⟩, ⟨by exact Lz1 HB GE1016⟩⟩
     case rest =>
      clear HC28
      try clear c3
      try clear c3b0
      try clear c3b1
      try clear c20
      try clear c21
      try clear c21b0
      try clear c21b1
      try clear c29
      obtain ⟨kq, HA, HJ27, HO_4, HO_5, HO_6, HO_1017001, BK1016, HB⟩ := hcut
      cases kq with
      | zero => exact absurd HA.out (by simp [laws_FnFires.j2])
      | succ kj27 =>
       have H := HA.out
       clear HA
       simp only [laws_FnFires.j2] at H
       replace H := Option.bind_eq_some_iff.mp H
       obtain ⟨t1028, A300, H⟩ := H
       replace H : ((impl_FireScript.f kj27 t1012 t1013 t1023 t1028).bind fun bt1031 => (laws_FnFires.l0 kj27 t1017 t1020 t1023 bt1031.1 bt1031.2 (([] : List Int)) 0 t1012 t1013)) = some r := H
       have A30 := Aside0.mk A300
       clear A300
       replace H := Option.bind_eq_some_iff.mp H
       obtain ⟨⟨t1031, t1034⟩, A310, H⟩ := H
       replace H : (laws_FnFires.l0 kj27 t1017 t1020 t1023 t1031 t1034 (([] : List Int)) 0 t1012 t1013) = some r := H
       have A31 := Aside0.mk A310
       clear A310
       obtain ⟨y1035, hy1035⟩ : ∃ y_ : List Int, y_ = (([] : List Int)) := ⟨_, rfl⟩
       replace H : (laws_FnFires.l0 kj27 t1017 t1020 t1023 t1031 t1034 y1035 0 t1012 t1013) = some r := by first | (rw [hy1035]; with_reducible exact H) | (have H2_ := (Option.bind_some _ _).symm.trans H; rw [hy1035]; with_reducible exact H2_) | (have H2_ := (Option.bind_some _ _).symm.trans H; with_reducible exact H2_) | with_reducible exact H | (rw [hy1035]; exact H) | exact H
       have Ny1035 := Aside0.mk hy1035
       clear hy1035
       have H' := Aside0.mk H
       clear H
       try go_wp2
       replace HO_4 := Aside0.mk (Kd.R_drew HO_4.out)
       replace HO_5 := Aside0.mk (Kd.R_drew HO_5.out)
       replace HO_6 := Aside0.mk (Kd.R_drew HO_6.out)
       replace HO_1017001 := Aside0.mk (Kd.R_drew HO_1017001.out)
       replace BK1016 := Aside0.mk (blk_drew BK1016.out)
       replace HB := Aside0.mk (below_drew1 HB.out)
       refine start_ (n := 10) (S := fun w' => w'.cell? ⟨gb1016, 0, none⟩ = some (.int .i64 t1012) ∧ w'.cell? ⟨gb1016, 1, none⟩ = some (.slice Ao12 t1013.length co12)) (ds := []) #[false, false, false, false, false, false, false, false, false, false] (by kernel_rfl) rfl rfl ⟨(blk_cell BK1016.out 0).trans rfl, (blk_cell BK1016.out 1).trans rfl⟩ (fun hHeld => ?_); refine with_tabW laws_FnFires.tab9 laws_FnFires.bits9 (fun HT_ HW_ => ?_)
       generalize wc.drew = w32 at HO_4 HO_5 HO_6 HO_1017001 BK1016 HB hHeld ⊢
       refine pureT_ 1 52 HT_ ?_
       refine pureT_ 2 53 HT_ ?_
       refine takeT_ 0 51 HT_ HW_ hHeld rfl (by rintro w' ⟨s0, s1⟩; go_simp; with_reducible rfl) ?_
       refine one_ (i := 3) (N := some 54) #[true, true, true, true, false, false, false, false, false, false] rfl rfl (one_of HT_.out (by kernel_rfl)) (by decide) (fun K hK => ?_)
       refine goes_ Try.func38 (by kernel_rfl) rfl #[.slice Ao18 t1020.length co18] (by rfl) rfl rfl (by (try simp only [List.map_toArray, List.map_cons, List.map_nil]); first | done | rfl | (simp only [List.length_drop, List.length_take]; rfl)) ?_
       with_reducible refine (impl_NegateDivisor.calls kj27 _ _ t1020 t1028 _ ?side1 ?side2 A30.out).mono ?_
       (case side1 => exact Cz ((Kd.R_reads' HO_5.out).2.2))
       (case side2 => exact (Kd.R_reads' HO_5.out).2.1)
       rintro e w33 ⟨v1029, rfl, ho0, hb⟩
       refine ⟨_, rfl, ?_⟩
       replace HO_1017001 := Aside0.mk (Kd.R_below (Rz HO_1017001) hb)
       have HO1030 := Aside0.mk (Kd.R_lower (Kd.R_new' (Kd.R_new' (Kd.R_new' ho0 (Kd.R_lt (Rz HO_4))) (Kd.R_lt (Rz HO_5))) (Kd.R_lt (Rz HO_6))) (below_size (by exact Lz1 HB GE1016)))
       replace HO_4 := Aside0.mk (Kd.R_elder' (Rz HO_4) (Kd.R_base ho0) hb)
       replace HO_5 := Aside0.mk (Kd.R_elder' (Rz HO_5) (Kd.R_base ho0) hb)
       replace HO_6 := Aside0.mk (Kd.R_elder' (Rz HO_6) (Kd.R_base ho0) hb)
       replace BK1016 := Aside0.mk (blk_below (g := gb1016) (o := .cells #[.int .i64 t1012, .slice Ao12 t1013.length co12] 31 (0, 0)) (Bz BK1016) hb)
       replace HB := Aside0.mk (below_step (by exact Lz1 HB GE1016) hb)
       (try clear hb)
       (try clear hb2)
       (try clear hk)
       (try clear hi)
       (try clear ho0)
       obtain ⟨Ao34, co34, eo34⟩ := Kd.R_slice HO_6.out
       (first | subst eo34 | (injection eo34 with f1_ f2_ f3_; have f4_ := f1_.symm; have f5_ := f3_.symm; clear f1_ f2_ f3_; subst f4_; subst f5_))
       obtain ⟨Ao35, co35, eo35⟩ := Kd.R_slice HO1030.out
       (first | subst eo35 | (injection eo35 with f1_ f2_ f3_; have f4_ := f1_.symm; have f5_ := f3_.symm; clear f1_ f2_ f3_; subst f4_; subst f5_))
       refine hK.out _ _ ⟨(blk_cell BK1016.out 0).trans rfl, (blk_cell BK1016.out 1).trans rfl⟩ (fun hHeld => ?_)
       clear hK K
       refine norm_ (a' := ?_) ?_ ?_
       rotate_left
       ·show Act.put _ (some 54) _ = _
        simp only [Act.put, List.setIfInBounds_toArray, List.set_cons_zero, List.set_cons_succ, i64_w, i32_w]
        rfl
       refine one_ (i := 4) (N := some 55) #[true, true, true, true, true, false, false, false, false, false] rfl rfl (one_of HT_.out (by kernel_rfl)) (by decide) (fun K hK => ?_)
       refine goes_ Try.func27 (by kernel_rfl) rfl #[.agg #[.int .i64 t1012, .slice Ao12 t1013.length co12], .slice Ao34 t1023.length co34, .slice Ao35 t1028.length co35] (by rfl) rfl rfl (by (try simp only [List.map_toArray, List.map_cons, List.map_nil]); first | done | rfl | (simp only [List.length_drop, List.length_take]; rfl)) ?_
       with_reducible refine (impl_FireScript.calls kj27 t1012 _ _ t1013 _ _ t1023 _ _ t1028 t1031 t1034 _ ?side1 ?side2 ?side3 ?side4 ?side5 ?side6 A31.out).mono ?_
       (case side1 => exact Cz ((Kd.R_reads' HO_1017001.out).2.2))
       (case side2 => exact (Kd.R_reads' HO_1017001.out).2.1)
       (case side3 => exact Cz ((Kd.R_reads' HO_6.out).2.2))
       (case side4 => exact (Kd.R_reads' HO_6.out).2.1)
       (case side5 => exact Cz ((Kd.R_reads' HO1030.out).2.2))
       (case side6 => exact (Kd.R_reads' HO1030.out).2.1)
       rintro e w36 ⟨v1032, rfl, ho0, hb⟩
       refine ⟨_, rfl, ?_⟩
       replace HO_1017001 := Aside0.mk (Kd.R_below (Rz HO_1017001) hb)
       have HO1033 := Aside0.mk (Kd.R_lower (Kd.R_new' (Kd.R_new' (Kd.R_new' (Kd.R_new' ho0 (Kd.R_lt (Rz HO_4))) (Kd.R_lt (Rz HO_5))) (Kd.R_lt (Rz HO_6))) (Kd.R_lt (Rz HO1030))) (below_size (by exact Lz1 HB GE1016)))
       replace HO_4 := Aside0.mk (Kd.R_elder' (Rz HO_4) (Kd.R_base ho0) hb)
       replace HO_5 := Aside0.mk (Kd.R_elder' (Rz HO_5) (Kd.R_base ho0) hb)
       replace HO_6 := Aside0.mk (Kd.R_elder' (Rz HO_6) (Kd.R_base ho0) hb)
       replace HO1030 := Aside0.mk (Kd.R_elder' (Rz HO1030) (Kd.R_base ho0) hb)
       replace BK1016 := Aside0.mk (blk_below (g := gb1016) (o := .cells #[.int .i64 t1012, .slice Ao12 t1013.length co12] 31 (0, 0)) (Bz BK1016) hb)
       replace HB := Aside0.mk (below_step (by exact Lz1 HB GE1016) hb)
       (try clear hb)
       (try clear hb2)
       (try clear hk)
       (try clear hi)
       (try clear ho0)
       refine hK.out _ _ ⟨(blk_cell BK1016.out 0).trans rfl, (blk_cell BK1016.out 1).trans rfl⟩ (fun hHeld => ?_)
       clear hK K
       refine norm_ (a' := ?_) ?_ ?_
       rotate_left
       ·show Act.put _ (some 55) _ = _
        simp only [Act.put, List.setIfInBounds_toArray, List.set_cons_zero, List.set_cons_succ, i64_w, i32_w]
        rfl
       refine pureT_ 5 50 HT_ ?_
       refine pureT_ 6 56 HT_ ?_
       refine pureT_ 7 57 HT_ ?_
       refine pureT_ 8 8 HT_ ?_
       refine pureT_ 9 9 HT_ ?_
       refine done_ (done_of HT_.out (by kernel_rfl)) ?_
       try go_wp2_with (first | ((with_reducible refine gate_dst (N := 58) rfl ?_); (try (refine gate_guard (by rfl) ?_; dsimp only)); refine Kd.R_lit (Kd.int .i64) _ 3 ?hg (N := 58) ?hd (xs := ([] : List Int)) (inner := []) (ok := fun _ => True) (okp := fun _ => True) ?hr ?hp (fun _ hk => hk) trivial (Below.refl _ _) (Nat.le_refl _) (by simp) ?_; (case hd => rfl); (case hg => rfl); (case hr => first | (go_simp; done) | (go_simp; rfl)); (case hp => exact (Reps.none _ _)); intro v1036 w37 ho38 hb hg_ hnew_; clear hg_ hnew_; (first | rw [← Ny1035.out] at ho38 | (simp only [Int.reduceToNat] at ho38; rw [← Ny1035.out] at ho38)); replace HO_1017001 := Aside0.mk (Kd.R_below (Rz HO_1017001) hb); have HO1037 := Aside0.mk (Kd.R_lower (Kd.R_new' (Kd.R_new' (Kd.R_new' (Kd.R_new' (Kd.R_new' ho38 (Kd.R_lt (Rz HO_4))) (Kd.R_lt (Rz HO_5))) (Kd.R_lt (Rz HO_6))) (Kd.R_lt (Rz HO1030))) (Kd.R_lt (Rz HO1033))) (below_size (by exact Lz1 HB GE1016))); replace HO_4 := Aside0.mk (Kd.R_elder' (Rz HO_4) (Kd.R_base ho38) hb); replace HO_5 := Aside0.mk (Kd.R_elder' (Rz HO_5) (Kd.R_base ho38) hb); replace HO_6 := Aside0.mk (Kd.R_elder' (Rz HO_6) (Kd.R_base ho38) hb); replace HO1030 := Aside0.mk (Kd.R_elder' (Rz HO1030) (Kd.R_base ho38) hb); replace HO1033 := Aside0.mk (Kd.R_elder' (Rz HO1033) (Kd.R_base ho38) hb); replace BK1016 := Aside0.mk (blk_below (g := gb1016) (o := .cells #[.int .i64 t1012, .slice Ao12 t1013.length co12] 31 (0, 0)) (Bz BK1016) hb); replace HB := Aside0.mk (below_step (by exact Lz1 HB GE1016) hb); clear hb ho38))
       go_loopg [10, 11] kj27 (fun kq v10 v11 w' => ∃ (x10_4 : List Int) (x11_4 : Int), v11 = .int .i64 x11_4 ∧ Aside0 (laws_FnFires.l0 kq t1017 t1020 t1023 t1031 t1034 x10_4 x11_4 t1012 t1013 = some r) ∧ Aside0 (kq ≤ kj27) ∧ Aside0 (Kd.R (Kd.int .i64) 3 w' w.heap.size (fun k_ => some k_ ≠ ((.slice Ao18 t1020.length co18) : Value).ownBlock ∧ some k_ ≠ ((.slice Ao34 t1023.length co34) : Value).ownBlock ∧ some k_ ≠ (v1032 : Value).ownBlock ∧ some k_ ≠ (v10 : Value).ownBlock) (.slice Ao17 t1017.length co17) t1017) ∧ Aside0 (Kd.R (Kd.int .i64) 3 w' w.heap.size (fun k_ => some k_ ≠ ((.slice Ao17 t1017.length co17) : Value).ownBlock ∧ some k_ ≠ ((.slice Ao34 t1023.length co34) : Value).ownBlock ∧ some k_ ≠ (v1032 : Value).ownBlock ∧ some k_ ≠ (v10 : Value).ownBlock) (.slice Ao18 t1020.length co18) t1020) ∧ Aside0 (Kd.R (Kd.int .i64) 3 w' w.heap.size (fun k_ => some k_ ≠ ((.slice Ao17 t1017.length co17) : Value).ownBlock ∧ some k_ ≠ ((.slice Ao18 t1020.length co18) : Value).ownBlock ∧ some k_ ≠ (v1032 : Value).ownBlock ∧ some k_ ≠ (v10 : Value).ownBlock) (.slice Ao34 t1023.length co34) t1023) ∧ Aside0 (Kd.R (Kd.int .i64) 3 w' w.heap.size (fun k_ => some k_ ≠ ((.slice Ao17 t1017.length co17) : Value).ownBlock ∧ some k_ ≠ ((.slice Ao18 t1020.length co18) : Value).ownBlock ∧ some k_ ≠ ((.slice Ao34 t1023.length co34) : Value).ownBlock ∧ some k_ ≠ (v10 : Value).ownBlock) v1032 t1031) ∧ Aside0 (Kd.R (Kd.int .i64) 3 w' w.heap.size (fun k_ => some k_ ≠ ((.slice Ao17 t1017.length co17) : Value).ownBlock ∧ some k_ ≠ ((.slice Ao18 t1020.length co18) : Value).ownBlock ∧ some k_ ≠ ((.slice Ao34 t1023.length co34) : Value).ownBlock ∧ some k_ ≠ (v1032 : Value).ownBlock) v10 x10_4) ∧ Aside0 (Kd.R k67 67 w' w.heap.size (fun _ => True) (.slice Ao12 t1013.length co12) t1013) ∧ Aside0 (w'.heap[gb1016]? = some (.cells #[.int .i64 t1012, (.slice Ao12 t1013.length co12)] 31 (0, 0))) ∧ Aside0 (Below w.heap.size w w'))
       case atStart => exact ⟨(y1035), (0), eqA, H', ⟨Nat.le_refl _⟩, ⟨by (with_reducible repeat (first | apply Kd.R_alloc | apply Kd.R_drewN | apply Kd.R_drew)); exact Kd.R_mono HO_4.out (fun _ hk => ⟨hk.1.1.1.1, ⟨hk.1.1.1.2, ⟨hk.1.2, hk.2⟩⟩⟩)⟩, ⟨by (with_reducible repeat (first | apply Kd.R_alloc | apply Kd.R_drewN | apply Kd.R_drew)); exact Kd.R_mono HO_5.out (fun _ hk => ⟨hk.1.1.1.1, ⟨hk.1.1.1.2, ⟨hk.1.2, hk.2⟩⟩⟩)⟩, ⟨by (with_reducible repeat (first | apply Kd.R_alloc | apply Kd.R_drewN | apply Kd.R_drew)); exact Kd.R_mono HO_6.out (fun _ hk => ⟨hk.1.1.1.1, ⟨hk.1.1.1.2, ⟨hk.1.2, hk.2⟩⟩⟩)⟩, ⟨by (with_reducible repeat (first | apply Kd.R_alloc | apply Kd.R_drewN | apply Kd.R_drew)); exact Kd.R_mono HO1033.out (fun _ hk => ⟨hk.1.1.1.1.2, ⟨hk.1.1.1.2, ⟨hk.1.1.2, hk.2⟩⟩⟩)⟩, ⟨by (with_reducible repeat (first | apply Kd.R_alloc | apply Kd.R_drewN | apply Kd.R_drew)); exact Kd.R_mono HO1037.out (fun _ hk => ⟨hk.1.1.1.1.2, ⟨hk.1.1.1.2, ⟨hk.1.1.2, hk.2⟩⟩⟩)⟩, ⟨by exact Rz HO_1017001⟩, ⟨by exact Bz BK1016⟩, ⟨by exact Lz1 HB GE1016⟩⟩
       case round =>
        clear H'
        try clear c3
        try clear c3b0
        try clear c3b1
        try clear c20
        try clear c21
        try clear c21b0
        try clear c21b1
        try clear c29
        obtain ⟨x10_4, x11_4, rfl, HA, HK4, HO_4, HO_5, HO_6, HO_8, HO_10, HO_1017001, BK1016, HB⟩ := hrel
        cases gk with
        | zero => exact absurd HA.out (by simp [laws_FnFires.l0])
        | succ k4 =>
         have H := HA.out
         clear HA
         simp only [laws_FnFires.l0] at H
         by_cases c39 : x11_4 < t1012
         ·rw [if_pos c39] at H
          have c39b0 : decide (x11_4 < t1012) = true := decide_eq_true c39
          clear c39
          by_cases c40 : x10_4.length < 17592186044416
          ·rw [if_pos c40] at H
           have LMc40 := Aside0.mk c40
           clear c40
           obtain ⟨y1038, hy1038⟩ : ∃ y_ : List Int, y_ = (x10_4 ++ [x11_4]) := ⟨_, rfl⟩
           replace H : (laws_FnFires.l0 k4 t1017 t1020 t1023 t1031 t1034 y1038 (wrap64 (x11_4 + 1)) t1012 t1013) = some r := by first | (rw [hy1038]; with_reducible exact H) | (have H2_ := (Option.bind_some _ _).symm.trans H; rw [hy1038]; with_reducible exact H2_) | (have H2_ := (Option.bind_some _ _).symm.trans H; with_reducible exact H2_) | with_reducible exact H | (rw [hy1038]; exact H) | exact H
           have Ny1038 := Aside0.mk hy1038
           clear hy1038
           have H' := Aside0.mk H
           clear H
           have hcz41_0 : wr.cell? ⟨gb1016, 0, none⟩ = some (.int .i64 t1012) := (blk_cell BK1016.out 0).trans rfl
           have hcz41_1 : wr.cell? ⟨gb1016, 1, none⟩ = some (.slice Ao12 t1013.length co12) := (blk_cell BK1016.out 1).trans rfl
           have hfz41_0 := blk_frozen BK1016.out 0
           have hfz41_1 := blk_frozen BK1016.out 1
           go_wp2_with (first | ((with_reducible refine gate_builtin (b := .append) (xs := #[.tmp 65, .tmp 67]) rfl ?_); (try (refine gate_guard (by rfl) ?_; dsimp only)); at_builtin; refine Kd.R_append (Kd.int .i64) (w0 := w) w.heap.size rfl (.tmp 65) (.tmp 67) 25 3 (.int .i64 0) 8 rfl Try.underlying25 info3 rfl (by decide) (by omega) u10 x10_4 x11_4 [.int .i64 x11_4] (fun k_ => some k_ ≠ (.slice Ao17 t1017.length co17 : Value).ownBlock ∧ some k_ ≠ (.slice Ao18 t1020.length co18 : Value).ownBlock ∧ some k_ ≠ (.slice Ao34 t1023.length co34 : Value).ownBlock ∧ some k_ ≠ (v1032 : Value).ownBlock) (fun _ => False) rfl rfl ?aP (fun _ hk => hk.elim) ?aF ?aO ?aB ?aS ?aL ?_; (case aP => exact rfl); (case aB => exact (by exact Lz1 HB GE1016)); (case aF => exact (fun k_ hk => ⟨Kd.fresh' (Kd.R_lt (Rz HO_4)) k_ hk, Kd.fresh' (Kd.R_lt (Rz HO_5)) k_ hk, Kd.fresh' (Kd.R_lt (Rz HO_6)) k_ hk, Kd.fresh' (Kd.R_lt (Rz HO_8)) k_ hk⟩)); (case aO => exact (Rz HO_10)); (case aS => exact (below_size (by exact Lz1 HB GE1016))); (case aL => have := LMc40.out; omega); intro v1039 w42 ho hb hg hat; rw [← Ny1038.out] at ho; replace HO_4 := Aside0.mk (Kd.R_after (ok := (fun k_ => some k_ ≠ (.slice Ao18 t1020.length co18 : Value).ownBlock ∧ some k_ ≠ (.slice Ao34 t1023.length co34 : Value).ownBlock ∧ some k_ ≠ (v1032 : Value).ownBlock)) (by (with_reducible repeat (first | apply Kd.R_alloc | apply Kd.R_drewN | apply Kd.R_drew)); exact Kd.R_mono HO_4.out (fun _ hk => ⟨⟨hk.1, ⟨hk.2.1, hk.2.2.1⟩⟩, hk.2.2.2⟩)) hg hat); replace HO_5 := Aside0.mk (Kd.R_after (ok := (fun k_ => some k_ ≠ (.slice Ao17 t1017.length co17 : Value).ownBlock ∧ some k_ ≠ (.slice Ao34 t1023.length co34 : Value).ownBlock ∧ some k_ ≠ (v1032 : Value).ownBlock)) (by (with_reducible repeat (first | apply Kd.R_alloc | apply Kd.R_drewN | apply Kd.R_drew)); exact Kd.R_mono HO_5.out (fun _ hk => ⟨⟨hk.1, ⟨hk.2.1, hk.2.2.1⟩⟩, hk.2.2.2⟩)) hg hat); replace HO_6 := Aside0.mk (Kd.R_after (ok := (fun k_ => some k_ ≠ (.slice Ao17 t1017.length co17 : Value).ownBlock ∧ some k_ ≠ (.slice Ao18 t1020.length co18 : Value).ownBlock ∧ some k_ ≠ (v1032 : Value).ownBlock)) (by (with_reducible repeat (first | apply Kd.R_alloc | apply Kd.R_drewN | apply Kd.R_drew)); exact Kd.R_mono HO_6.out (fun _ hk => ⟨⟨hk.1, ⟨hk.2.1, hk.2.2.1⟩⟩, hk.2.2.2⟩)) hg hat); replace HO_8 := Aside0.mk (Kd.R_after (ok := (fun k_ => some k_ ≠ (.slice Ao17 t1017.length co17 : Value).ownBlock ∧ some k_ ≠ (.slice Ao18 t1020.length co18 : Value).ownBlock ∧ some k_ ≠ (.slice Ao34 t1023.length co34 : Value).ownBlock)) (by (with_reducible repeat (first | apply Kd.R_alloc | apply Kd.R_drewN | apply Kd.R_drew)); exact Kd.R_mono HO_8.out (fun _ hk => ⟨⟨hk.1, ⟨hk.2.1, hk.2.2.1⟩⟩, hk.2.2.2⟩)) hg hat); replace HO_1017001 := Aside0.mk (Kd.R_over' (Rz HO_1017001) (Kd.R_typed (Rz HO_10)) (by decide) hg); replace BK1016 := Aside0.mk (blk_grown (g := gb1016) (o := .cells #[.int .i64 t1012, .slice Ao12 t1013.length co12] 31 (0, 0)) (Bz BK1016) hg (Kd.R_ne HO_10.out BK1016.out (by decide))); replace HB := Aside0.mk (hb); have HO1040 := Aside0.mk (ho); clear HO_10; clear ho hb hg hat))
           go_roundg k4
           case measure => have := HJ1.out; have := HJ7.out; have := HJ27.out; have := HK4.out; omega
           case rel => exact ⟨(y1038), (wrap64 (x11_4 + 1)), eqA, H', ⟨by have := HJ1.out; have := HJ7.out; have := HJ27.out; have := HK4.out; omega⟩, ⟨by (with_reducible repeat (first | apply Kd.R_alloc | apply Kd.R_drewN | apply Kd.R_drew)); exact Kd.R_mono HO_4.out (fun _ hk => ⟨hk.1.1, ⟨hk.1.2.1, ⟨hk.1.2.2, hk.2⟩⟩⟩)⟩, ⟨by (with_reducible repeat (first | apply Kd.R_alloc | apply Kd.R_drewN | apply Kd.R_drew)); exact Kd.R_mono HO_5.out (fun _ hk => ⟨hk.1.1, ⟨hk.1.2.1, ⟨hk.1.2.2, hk.2⟩⟩⟩)⟩, ⟨by (with_reducible repeat (first | apply Kd.R_alloc | apply Kd.R_drewN | apply Kd.R_drew)); exact Kd.R_mono HO_6.out (fun _ hk => ⟨hk.1.1, ⟨hk.1.2.1, ⟨hk.1.2.2, hk.2⟩⟩⟩)⟩, ⟨by (with_reducible repeat (first | apply Kd.R_alloc | apply Kd.R_drewN | apply Kd.R_drew)); exact Kd.R_mono HO_8.out (fun _ hk => ⟨hk.1.1, ⟨hk.1.2.1, ⟨hk.1.2.2, hk.2⟩⟩⟩)⟩, ⟨by exact Rz HO1040⟩, ⟨by exact Rz HO_1017001⟩, ⟨by exact Bz BK1016⟩, ⟨by exact Lz1 HB GE1016⟩⟩
          rw [if_neg c40] at H
          exact absurd H (by simp)
         rw [if_neg c39] at H
         have c39b0 : decide (x11_4 < t1012) = false := decide_eq_false c39
         clear c39
         replace H := Option.bind_eq_some_iff.mp H
         obtain ⟨⟨t1041, t1044⟩, A430, H⟩ := H
         replace H : ((impl_LaplacianOf.f k4 t1012 t1013).bind fun t1045 => ((impl_TimesVector.f k4 t1045 t1020).bind fun t1048 => ((impl_AddDivisors.f k4 t1023 t1048).bind fun bt1051 => (if t1034 = true then (if t1044 = true then (if bt1051.2 = true then ((laws_same.f k4 t1031 t1017).bind fun t1055 => (if t1055 = true then ((laws_same.f k4 t1041 t1017).bind fun t1056 => (if t1056 = true then ((laws_same.f k4 bt1051.1 t1017).bind fun t1057 => (if t1057 = true then ((impl_DegreeOf.f k4 t1023).bind fun t1058 => ((impl_DegreeOf.f k4 t1017).bind fun t1059 => (if t1058 = t1059 then ((impl_AreEquivalent.f k4 t1012 t1013 t1017 t1023).bind fun t1060 => (some t1060)) else (some false)))) else (some false))) else (some false))) else (some false))) else (some false)) else (some false)) else (some false))))) = some r := H
         have A43 := Aside0.mk A430
         clear A430
         replace H := Option.bind_eq_some_iff.mp H
         obtain ⟨t1045, A440, H⟩ := H
         replace H : ((impl_TimesVector.f k4 t1045 t1020).bind fun t1048 => ((impl_AddDivisors.f k4 t1023 t1048).bind fun bt1051 => (if t1034 = true then (if t1044 = true then (if bt1051.2 = true then ((laws_same.f k4 t1031 t1017).bind fun t1055 => (if t1055 = true then ((laws_same.f k4 t1041 t1017).bind fun t1056 => (if t1056 = true then ((laws_same.f k4 bt1051.1 t1017).bind fun t1057 => (if t1057 = true then ((impl_DegreeOf.f k4 t1023).bind fun t1058 => ((impl_DegreeOf.f k4 t1017).bind fun t1059 => (if t1058 = t1059 then ((impl_AreEquivalent.f k4 t1012 t1013 t1017 t1023).bind fun t1060 => (some t1060)) else (some false)))) else (some false))) else (some false))) else (some false))) else (some false)) else (some false)) else (some false)))) = some r := H
         have A44 := Aside0.mk A440
         clear A440
         replace H := Option.bind_eq_some_iff.mp H
         obtain ⟨t1048, A450, H⟩ := H
         replace H : ((impl_AddDivisors.f k4 t1023 t1048).bind fun bt1051 => (if t1034 = true then (if t1044 = true then (if bt1051.2 = true then ((laws_same.f k4 t1031 t1017).bind fun t1055 => (if t1055 = true then ((laws_same.f k4 t1041 t1017).bind fun t1056 => (if t1056 = true then ((laws_same.f k4 bt1051.1 t1017).bind fun t1057 => (if t1057 = true then ((impl_DegreeOf.f k4 t1023).bind fun t1058 => ((impl_DegreeOf.f k4 t1017).bind fun t1059 => (if t1058 = t1059 then ((impl_AreEquivalent.f k4 t1012 t1013 t1017 t1023).bind fun t1060 => (some t1060)) else (some false)))) else (some false))) else (some false))) else (some false))) else (some false)) else (some false)) else (some false))) = some r := H
         have A45 := Aside0.mk A450
         clear A450
         replace H := Option.bind_eq_some_iff.mp H
         obtain ⟨⟨t1051, t1052⟩, A460, H⟩ := H
         replace H : (if t1034 = true then (if t1044 = true then (if t1052 = true then ((laws_same.f k4 t1031 t1017).bind fun t1055 => (if t1055 = true then ((laws_same.f k4 t1041 t1017).bind fun t1056 => (if t1056 = true then ((laws_same.f k4 t1051 t1017).bind fun t1057 => (if t1057 = true then ((impl_DegreeOf.f k4 t1023).bind fun t1058 => ((impl_DegreeOf.f k4 t1017).bind fun t1059 => (if t1058 = t1059 then ((impl_AreEquivalent.f k4 t1012 t1013 t1017 t1023).bind fun t1060 => (some t1060)) else (some false)))) else (some false))) else (some false))) else (some false))) else (some false)) else (some false)) else (some false)) = some r := H
         have A46 := Aside0.mk A460
         clear A460
         by_cases c47 : t1034 = true
         ·subst c47
          have H1 : (if t1044 = true then (if t1052 = true then ((laws_same.f k4 t1031 t1017).bind fun t1055 => (if t1055 = true then ((laws_same.f k4 t1041 t1017).bind fun t1056 => (if t1056 = true then ((laws_same.f k4 t1051 t1017).bind fun t1057 => (if t1057 = true then ((impl_DegreeOf.f k4 t1023).bind fun t1058 => ((impl_DegreeOf.f k4 t1017).bind fun t1059 => (if t1058 = t1059 then ((impl_AreEquivalent.f k4 t1012 t1013 t1017 t1023).bind fun t1060 => (some t1060)) else (some false)))) else (some false))) else (some false))) else (some false))) else (some false)) else (some false)) = some r := by rw [if_pos rfl] at H; exact H
          clear H
          have H := H1
          clear H1
          by_cases c48 : t1044 = true
          ·subst c48
           have H1 : (if t1052 = true then ((laws_same.f k4 t1031 t1017).bind fun t1055 => (if t1055 = true then ((laws_same.f k4 t1041 t1017).bind fun t1056 => (if t1056 = true then ((laws_same.f k4 t1051 t1017).bind fun t1057 => (if t1057 = true then ((impl_DegreeOf.f k4 t1023).bind fun t1058 => ((impl_DegreeOf.f k4 t1017).bind fun t1059 => (if t1058 = t1059 then ((impl_AreEquivalent.f k4 t1012 t1013 t1017 t1023).bind fun t1060 => (some t1060)) else (some false)))) else (some false))) else (some false))) else (some false))) else (some false)) = some r := by rw [if_pos rfl] at H; exact H
           clear H
           have H := H1
           clear H1
           by_cases c49 : t1052 = true
           ·subst c49
            have H1 : ((laws_same.f k4 t1031 t1017).bind fun t1055 => (if t1055 = true then ((laws_same.f k4 t1041 t1017).bind fun t1056 => (if t1056 = true then ((laws_same.f k4 t1051 t1017).bind fun t1057 => (if t1057 = true then ((impl_DegreeOf.f k4 t1023).bind fun t1058 => ((impl_DegreeOf.f k4 t1017).bind fun t1059 => (if t1058 = t1059 then ((impl_AreEquivalent.f k4 t1012 t1013 t1017 t1023).bind fun t1060 => (some t1060)) else (some false)))) else (some false))) else (some false))) else (some false))) = some r := by rw [if_pos rfl] at H; exact H
            clear H
            have H := H1
            clear H1
            replace H := Option.bind_eq_some_iff.mp H
            obtain ⟨t1055, A500, H⟩ := H
            replace H : (if t1055 = true then ((laws_same.f k4 t1041 t1017).bind fun t1056 => (if t1056 = true then ((laws_same.f k4 t1051 t1017).bind fun t1057 => (if t1057 = true then ((impl_DegreeOf.f k4 t1023).bind fun t1058 => ((impl_DegreeOf.f k4 t1017).bind fun t1059 => (if t1058 = t1059 then ((impl_AreEquivalent.f k4 t1012 t1013 t1017 t1023).bind fun t1060 => (some t1060)) else (some false)))) else (some false))) else (some false))) else (some false)) = some r := H
            have A50 := Aside0.mk A500
            clear A500
            by_cases c51 : t1055 = true
            ·subst c51
             have H1 : ((laws_same.f k4 t1041 t1017).bind fun t1056 => (if t1056 = true then ((laws_same.f k4 t1051 t1017).bind fun t1057 => (if t1057 = true then ((impl_DegreeOf.f k4 t1023).bind fun t1058 => ((impl_DegreeOf.f k4 t1017).bind fun t1059 => (if t1058 = t1059 then ((impl_AreEquivalent.f k4 t1012 t1013 t1017 t1023).bind fun t1060 => (some t1060)) else (some false)))) else (some false))) else (some false))) = some r := by rw [if_pos rfl] at H; exact H
             clear H
             have H := H1
             clear H1
             replace H := Option.bind_eq_some_iff.mp H
             obtain ⟨t1056, A520, H⟩ := H
             replace H : (if t1056 = true then ((laws_same.f k4 t1051 t1017).bind fun t1057 => (if t1057 = true then ((impl_DegreeOf.f k4 t1023).bind fun t1058 => ((impl_DegreeOf.f k4 t1017).bind fun t1059 => (if t1058 = t1059 then ((impl_AreEquivalent.f k4 t1012 t1013 t1017 t1023).bind fun t1060 => (some t1060)) else (some false)))) else (some false))) else (some false)) = some r := H
             have A52 := Aside0.mk A520
             clear A520
             by_cases c53 : t1056 = true
             ·subst c53
              have H1 : ((laws_same.f k4 t1051 t1017).bind fun t1057 => (if t1057 = true then ((impl_DegreeOf.f k4 t1023).bind fun t1058 => ((impl_DegreeOf.f k4 t1017).bind fun t1059 => (if t1058 = t1059 then ((impl_AreEquivalent.f k4 t1012 t1013 t1017 t1023).bind fun t1060 => (some t1060)) else (some false)))) else (some false))) = some r := by rw [if_pos rfl] at H; exact H
              clear H
              have H := H1
              clear H1
              replace H := Option.bind_eq_some_iff.mp H
              obtain ⟨t1057, A540, H⟩ := H
              replace H : (if t1057 = true then ((impl_DegreeOf.f k4 t1023).bind fun t1058 => ((impl_DegreeOf.f k4 t1017).bind fun t1059 => (if t1058 = t1059 then ((impl_AreEquivalent.f k4 t1012 t1013 t1017 t1023).bind fun t1060 => (some t1060)) else (some false)))) else (some false)) = some r := H
              have A54 := Aside0.mk A540
              clear A540
              by_cases c55 : t1057 = true
              ·subst c55
               have H1 : ((impl_DegreeOf.f k4 t1023).bind fun t1058 => ((impl_DegreeOf.f k4 t1017).bind fun t1059 => (if t1058 = t1059 then ((impl_AreEquivalent.f k4 t1012 t1013 t1017 t1023).bind fun t1060 => (some t1060)) else (some false)))) = some r := by rw [if_pos rfl] at H; exact H
               clear H
               have H := H1
               clear H1
               replace H := Option.bind_eq_some_iff.mp H
               obtain ⟨t1058, A560, H⟩ := H
               replace H : ((impl_DegreeOf.f k4 t1017).bind fun t1059 => (if t1058 = t1059 then ((impl_AreEquivalent.f k4 t1012 t1013 t1017 t1023).bind fun t1060 => (some t1060)) else (some false))) = some r := H
               have A56 := Aside0.mk A560
               clear A560
               replace H := Option.bind_eq_some_iff.mp H
               obtain ⟨t1059, A570, H⟩ := H
               replace H : (if t1058 = t1059 then ((impl_AreEquivalent.f k4 t1012 t1013 t1017 t1023).bind fun t1060 => (some t1060)) else (some false)) = some r := H
               have A57 := Aside0.mk A570
               clear A570
               by_cases c58 : t1058 = t1059
               ·rw [if_pos c58] at H
                have c58b0 : (t1058 == t1059) = true := beq_iff_eq.mpr c58
                have c58b1 : (t1058 != t1059) = false := bne_eq_false_iff_eq.mpr c58
                clear c58
                replace H := Option.bind_eq_some_iff.mp H
                obtain ⟨t1060, A590, H⟩ := H
                replace H : (some t1060) = some r := H
                have A59 := Aside0.mk A590
                clear A590
                obtain rfl := Option.some.inj H
                have hcz60_0 : wr.cell? ⟨gb1016, 0, none⟩ = some (.int .i64 t1012) := (blk_cell BK1016.out 0).trans rfl
                have hcz60_1 : wr.cell? ⟨gb1016, 1, none⟩ = some (.slice Ao12 t1013.length co12) := (blk_cell BK1016.out 1).trans rfl
                have hfz60_0 := blk_frozen BK1016.out 0
                have hfz60_1 := blk_frozen BK1016.out 1
                obtain ⟨Ao61, co61, eo61⟩ := Kd.R_slice HO_10.out
                subst eo61
                go_wp2_with (first | ((with_reducible refine gate_callee (f := 41) rfl ?_); refine goesM_ (some 73) rfl rfl Try.func41 (by kernel_rfl) rfl #[.agg #[.int .i64 t1012, .slice Ao12 t1013.length co12], .slice Ao17 t1017.length co17, .slice Ao61 x10_4.length co61] rfl ?_; (with_reducible refine (impl_FireSet.calls k4 t1012 _ _ t1013 _ _ t1017 _ _ x10_4 t1041 true _ ?side1 ?side2 ?side3 ?side4 ?side5 ?side6 A43.out).mono ?_); (case side1 => exact Cz ((Kd.R_reads' HO_1017001.out).2.2)); (case side2 => exact (Kd.R_reads' HO_1017001.out).2.1); (case side3 => exact Cz ((Kd.R_reads' HO_4.out).2.2)); (case side4 => exact (Kd.R_reads' HO_4.out).2.1); (case side5 => exact Cz ((Kd.R_reads' HO_10.out).2.2)); (case side6 => exact (Kd.R_reads' HO_10.out).2.1); rintro e w62 ⟨v1042, rfl, ho0, hb⟩; refine ⟨_, rfl, ?_⟩; replace HO_1017001 := Aside0.mk (Kd.R_below (Rz HO_1017001) hb); have HO1043 := Aside0.mk (Kd.R_lower (Kd.R_new' (Kd.R_new' (Kd.R_new' (Kd.R_new' (Kd.R_new' ho0 (Kd.R_lt (Rz HO_4))) (Kd.R_lt (Rz HO_5))) (Kd.R_lt (Rz HO_6))) (Kd.R_lt (Rz HO_8))) (Kd.R_lt (Rz HO_10))) (below_size (by exact Lz1 HB GE1016))); replace HO_4 := Aside0.mk (Kd.R_elder' (Rz HO_4) (Kd.R_base ho0) hb); replace HO_5 := Aside0.mk (Kd.R_elder' (Rz HO_5) (Kd.R_base ho0) hb); replace HO_6 := Aside0.mk (Kd.R_elder' (Rz HO_6) (Kd.R_base ho0) hb); replace HO_8 := Aside0.mk (Kd.R_elder' (Rz HO_8) (Kd.R_base ho0) hb); replace HO_10 := Aside0.mk (Kd.R_elder' (Rz HO_10) (Kd.R_base ho0) hb); replace BK1016 := Aside0.mk (blk_below (g := gb1016) (o := .cells #[.int .i64 t1012, .slice Ao12 t1013.length co12] 31 (0, 0)) (Bz BK1016) hb); replace HB := Aside0.mk (below_step (by exact Lz1 HB GE1016) hb); (try clear hb); (try clear ho0); have hcz63_0 : w62.cell? ⟨gb1016, 0, none⟩ = some (.int .i64 t1012) := (blk_cell BK1016.out 0).trans rfl; have hcz63_1 : w62.cell? ⟨gb1016, 1, none⟩ = some (.slice Ao12 t1013.length co12) := (blk_cell BK1016.out 1).trans rfl; have hfz63_0 := blk_frozen BK1016.out 0; have hfz63_1 := blk_frozen BK1016.out 1) | ((with_reducible refine gate_callee (f := 43) rfl ?_); refine goesM_ (some 77) rfl rfl Try.func43 (by kernel_rfl) rfl #[.agg #[.int .i64 t1012, .slice Ao12 t1013.length co12]] rfl ?_; (with_reducible refine (impl_LaplacianOf.calls k4 t1012 _ _ t1013 t1045 _ ?side1 ?side2 A44.out).mono ?_); (case side1 => exact Cz ((Kd.R_reads' HO_1017001.out).2.2)); (case side2 => exact (Kd.R_reads' HO_1017001.out).2.1); rintro e w64 ⟨v1046, rfl, ho0, hb⟩; refine ⟨_, rfl, ?_⟩; replace HO_1017001 := Aside0.mk (Kd.R_below (Rz HO_1017001) hb); have HO1047 := Aside0.mk (Kd.S_lower (Kd.S_new' (Kd.S_new' (Kd.S_new' (Kd.S_new' (Kd.S_new' (Kd.S_new' ho0 (Kd.R_lt (Rz HO_4))) (Kd.R_lt (Rz HO_5))) (Kd.R_lt (Rz HO_6))) (Kd.R_lt (Rz HO_8))) (Kd.R_lt (Rz HO_10))) (Kd.R_lt (Rz HO1043))) (below_size (by exact Lz1 HB GE1016))); replace HO_4 := Aside0.mk (Kd.R_below (Rz HO_4) hb); replace HO_5 := Aside0.mk (Kd.R_below (Rz HO_5) hb); replace HO_6 := Aside0.mk (Kd.R_below (Rz HO_6) hb); replace HO_8 := Aside0.mk (Kd.R_below (Rz HO_8) hb); replace HO_10 := Aside0.mk (Kd.R_below (Rz HO_10) hb); replace HO1043 := Aside0.mk (Kd.R_below (Rz HO1043) hb); replace BK1016 := Aside0.mk (blk_below (g := gb1016) (o := .cells #[.int .i64 t1012, .slice Ao12 t1013.length co12] 31 (0, 0)) (Bz BK1016) hb); replace HB := Aside0.mk (below_step (by exact Lz1 HB GE1016) hb); (try clear hb); (try clear ho0); obtain ⟨Ao65, co65, eo65⟩ := Kd.S_slice HO1047.out; subst eo65) | ((with_reducible refine gate_callee (f := 42) rfl ?_); refine goesM_ (some 79) rfl rfl Try.func42 (by kernel_rfl) rfl #[.slice Ao65 t1045.length co65, .slice Ao18 t1020.length co18] rfl ?_; (with_reducible refine (impl_TimesVector.calls k4 _ _ t1045 _ _ t1020 t1048 _ ?side1 ?side2 ?side3 ?side4 A45.out).mono ?_); (case side1 => exact Cz ((Kd.S_reads' HO1047.out).2.2)); (case side2 => exact (Kd.S_reads' HO1047.out).2.1); (case side3 => exact Cz ((Kd.R_reads' HO_5.out).2.2)); (case side4 => exact (Kd.R_reads' HO_5.out).2.1); rintro e w66 ⟨v1049, rfl, ho0, hb⟩; refine ⟨_, rfl, ?_⟩; replace HO_1017001 := Aside0.mk (Kd.R_below (Rz HO_1017001) hb); replace HO1047 := Aside0.mk (Kd.S_elder' (by (with_reducible repeat (first | apply Kd.S_alloc | apply Kd.S_drewN | apply Kd.S_drew)); exact HO1047.out) (Kd.R_base ho0) hb); have HO1050 := Aside0.mk (Kd.R_lower (Kd.R_new' (Kd.R_new' (Kd.R_new' (Kd.R_new' (Kd.R_new' (Kd.R_new' ho0 (Kd.R_lt (Rz HO_4))) (Kd.R_lt (Rz HO_5))) (Kd.R_lt (Rz HO_6))) (Kd.R_lt (Rz HO_8))) (Kd.R_lt (Rz HO_10))) (Kd.R_lt (Rz HO1043))) (below_size (by exact Lz1 HB GE1016))); replace HO_4 := Aside0.mk (Kd.R_elder' (Rz HO_4) (Kd.R_base ho0) hb); replace HO_5 := Aside0.mk (Kd.R_elder' (Rz HO_5) (Kd.R_base ho0) hb); replace HO_6 := Aside0.mk (Kd.R_elder' (Rz HO_6) (Kd.R_base ho0) hb); replace HO_8 := Aside0.mk (Kd.R_elder' (Rz HO_8) (Kd.R_base ho0) hb); replace HO_10 := Aside0.mk (Kd.R_elder' (Rz HO_10) (Kd.R_base ho0) hb); replace HO1043 := Aside0.mk (Kd.R_elder' (Rz HO1043) (Kd.R_base ho0) hb); replace BK1016 := Aside0.mk (blk_below (g := gb1016) (o := .cells #[.int .i64 t1012, .slice Ao12 t1013.length co12] 31 (0, 0)) (Bz BK1016) hb); replace HB := Aside0.mk (below_step (by exact Lz1 HB GE1016) hb); (try clear hb); (try clear ho0); obtain ⟨Ao67, co67, eo67⟩ := Kd.R_slice HO1050.out; subst eo67) | ((with_reducible refine gate_callee (f := 37) rfl ?_); refine goesM_ (some 83) rfl rfl Try.func37 (by kernel_rfl) rfl #[.slice Ao34 t1023.length co34, .slice Ao67 t1048.length co67] rfl ?_; (with_reducible refine (impl_AddDivisors.calls k4 _ _ t1023 _ _ t1048 t1051 true _ ?side1 ?side2 ?side3 ?side4 A46.out).mono ?_); (case side1 => exact Cz ((Kd.R_reads' HO_6.out).2.2)); (case side2 => exact (Kd.R_reads' HO_6.out).2.1); (case side3 => exact Cz ((Kd.R_reads' HO1050.out).2.2)); (case side4 => exact (Kd.R_reads' HO1050.out).2.1); rintro e w68 ⟨v1053, rfl, ho0, hb⟩; refine ⟨_, rfl, ?_⟩; replace HO_1017001 := Aside0.mk (Kd.R_below (Rz HO_1017001) hb); replace HO1047 := Aside0.mk (Kd.S_elder' (by (with_reducible repeat (first | apply Kd.S_alloc | apply Kd.S_drewN | apply Kd.S_drew)); exact HO1047.out) (Kd.R_base ho0) hb); have HO1054 := Aside0.mk (Kd.R_lower (Kd.R_new' (Kd.R_new' (Kd.R_new' (Kd.R_new' (Kd.R_new' (Kd.R_new' (Kd.R_new' ho0 (Kd.R_lt (Rz HO_4))) (Kd.R_lt (Rz HO_5))) (Kd.R_lt (Rz HO_6))) (Kd.R_lt (Rz HO_8))) (Kd.R_lt (Rz HO_10))) (Kd.R_lt (Rz HO1043))) (Kd.R_lt (Rz HO1050))) (below_size (by exact Lz1 HB GE1016))); replace HO_4 := Aside0.mk (Kd.R_elder' (Rz HO_4) (Kd.R_base ho0) hb); replace HO_5 := Aside0.mk (Kd.R_elder' (Rz HO_5) (Kd.R_base ho0) hb); replace HO_6 := Aside0.mk (Kd.R_elder' (Rz HO_6) (Kd.R_base ho0) hb); replace HO_8 := Aside0.mk (Kd.R_elder' (Rz HO_8) (Kd.R_base ho0) hb); replace HO_10 := Aside0.mk (Kd.R_elder' (Rz HO_10) (Kd.R_base ho0) hb); replace HO1043 := Aside0.mk (Kd.R_elder' (Rz HO1043) (Kd.R_base ho0) hb); replace HO1050 := Aside0.mk (Kd.R_elder' (Rz HO1050) (Kd.R_base ho0) hb); replace BK1016 := Aside0.mk (blk_below (g := gb1016) (o := .cells #[.int .i64 t1012, .slice Ao12 t1013.length co12] 31 (0, 0)) (Bz BK1016) hb); replace HB := Aside0.mk (below_step (by exact Lz1 HB GE1016) hb); (try clear hb); (try clear ho0); obtain ⟨Ao69, co69, eo69⟩ := Kd.R_slice HO_8.out; subst eo69) | (go_at_call 28; (with_reducible refine (laws_same.calls k4 _ _ t1031 _ _ t1017 true _ ?side1 ?side2 ?side3 ?side4 A50.out).mono ?_); (case side1 => exact Cz ((Kd.R_reads' HO_8.out).2.2)); (case side2 => exact (Kd.R_reads' HO_8.out).2.1); (case side3 => exact Cz ((Kd.R_reads' HO_4.out).2.2)); (case side4 => exact (Kd.R_reads' HO_4.out).2.1); rintro e w' ⟨rfl, ⟨nd, rfl⟩⟩; obtain ⟨Ao70, co70, eo70⟩ := Kd.R_slice HO1043.out; subst eo70) | (go_at_call 28; (with_reducible refine (laws_same.calls k4 _ _ t1041 _ _ t1017 true _ ?side1 ?side2 ?side3 ?side4 A52.out).mono ?_); (case side1 => exact Cz ((Kd.R_reads' HO1043.out).2.2)); (case side2 => exact (Kd.R_reads' HO1043.out).2.1); (case side3 => exact Cz ((Kd.R_reads' HO_4.out).2.2)); (case side4 => exact (Kd.R_reads' HO_4.out).2.1); rintro e w' ⟨rfl, ⟨nd, rfl⟩⟩; obtain ⟨Ao71, co71, eo71⟩ := Kd.R_slice HO1054.out; subst eo71) | (go_at_call 28; (with_reducible refine (laws_same.calls k4 _ _ t1051 _ _ t1017 true _ ?side1 ?side2 ?side3 ?side4 A54.out).mono ?_); (case side1 => exact Cz ((Kd.R_reads' HO1054.out).2.2)); (case side2 => exact (Kd.R_reads' HO1054.out).2.1); (case side3 => exact Cz ((Kd.R_reads' HO_4.out).2.2)); (case side4 => exact (Kd.R_reads' HO_4.out).2.1); rintro e w' ⟨rfl, ⟨nd, rfl⟩⟩) | (go_at_call 44; (with_reducible refine (impl_DegreeOf.calls k4 _ _ t1023 t1058 _ ?side1 ?side2 A56.out).mono ?_); (case side1 => exact Cz ((Kd.R_reads' HO_6.out).2.2)); (case side2 => exact (Kd.R_reads' HO_6.out).2.1); rintro e w' ⟨rfl, ⟨nd, rfl⟩⟩) | (go_at_call 44; (with_reducible refine (impl_DegreeOf.calls k4 _ _ t1017 t1059 _ ?side1 ?side2 A57.out).mono ?_); (case side1 => exact Cz ((Kd.R_reads' HO_4.out).2.2)); (case side2 => exact (Kd.R_reads' HO_4.out).2.1); rintro e w' ⟨rfl, ⟨nd, rfl⟩⟩; have hcz72_0 : w68.cell? ⟨gb1016, 0, none⟩ = some (.int .i64 t1012) := (blk_cell BK1016.out 0).trans rfl; have hcz72_1 : w68.cell? ⟨gb1016, 1, none⟩ = some (.slice Ao12 t1013.length co12) := (blk_cell BK1016.out 1).trans rfl; have hfz72_0 := blk_frozen BK1016.out 0; have hfz72_1 := blk_frozen BK1016.out 1) | (go_at_call 45; (with_reducible refine (impl_AreEquivalent.calls k4 t1012 _ _ t1013 _ _ t1017 _ _ t1023 t1060 _ ?side1 ?side2 ?side3 ?side4 ?side5 ?side6 A59.out).mono ?_); (case side1 => exact Cz ((Kd.R_reads' HO_1017001.out).2.2)); (case side2 => exact (Kd.R_reads' HO_1017001.out).2.1); (case side3 => exact Cz ((Kd.R_reads' HO_4.out).2.2)); (case side4 => exact (Kd.R_reads' HO_4.out).2.1); (case side5 => exact Cz ((Kd.R_reads' HO_6.out).2.2)); (case side6 => exact (Kd.R_reads' HO_6.out).2.1); rintro e w73 ⟨rfl, hb⟩; replace HO_4 := Aside0.mk (Kd.R_below (Rz HO_4) hb); replace HO_5 := Aside0.mk (Kd.R_below (Rz HO_5) hb); replace HO_6 := Aside0.mk (Kd.R_below (Rz HO_6) hb); replace HO_8 := Aside0.mk (Kd.R_below (Rz HO_8) hb); replace HO_10 := Aside0.mk (Kd.R_below (Rz HO_10) hb); replace HO_1017001 := Aside0.mk (Kd.R_below (Rz HO_1017001) hb); replace HO1043 := Aside0.mk (Kd.R_below (Rz HO1043) hb); replace HO1047 := Aside0.mk (Kd.S_below (by (with_reducible repeat (first | apply Kd.S_alloc | apply Kd.S_drewN | apply Kd.S_drew)); exact HO1047.out) hb); replace HO1050 := Aside0.mk (Kd.R_below (Rz HO1050) hb); replace HO1054 := Aside0.mk (Kd.R_below (Rz HO1054) hb); replace BK1016 := Aside0.mk (blk_below (g := gb1016) (o := .cells #[.int .i64 t1012, .slice Ao12 t1013.length co12] 31 (0, 0)) (Bz BK1016) hb); replace HB := Aside0.mk (below_step (by exact Lz1 HB GE1016) hb); (try clear hb); (try clear hb2); (try clear hk); (try clear hi)))
                go_ret
                exact ⟨by first | rfl | (simp [errW_none, errW_some] <;> rfl) | (simp [*, errW_none, errW_some] <;> rfl), by exact Lz1 HB GE1016⟩
               rw [if_neg c58] at H
               have c58b0 : (t1058 == t1059) = false := beq_eq_false_iff_ne.mpr c58
               have c58b1 : (t1058 != t1059) = true := bne_iff_ne.mpr c58
               exact absurd (Option.some.inj H) (by rw [HR_.out]; decide)
              replace c55 := Bool.eq_false_iff.mpr c55
              subst c55
              have H1 : (some false) = some r := by rw [if_neg (show ¬ (false = true) by decide)] at H; exact H
              clear H
              have H := H1
              clear H1
              exact absurd (Option.some.inj H) (by rw [HR_.out]; decide)
             replace c53 := Bool.eq_false_iff.mpr c53
             subst c53
             have H1 : (some false) = some r := by rw [if_neg (show ¬ (false = true) by decide)] at H; exact H
             clear H
             have H := H1
             clear H1
             exact absurd (Option.some.inj H) (by rw [HR_.out]; decide)
            replace c51 := Bool.eq_false_iff.mpr c51
            subst c51
            have H1 : (some false) = some r := by rw [if_neg (show ¬ (false = true) by decide)] at H; exact H
            clear H
            have H := H1
            clear H1
            exact absurd (Option.some.inj H) (by rw [HR_.out]; decide)
           replace c49 := Bool.eq_false_iff.mpr c49
           subst c49
           have H1 : (some false) = some r := by rw [if_neg (show ¬ (false = true) by decide)] at H; exact H
           clear H
           have H := H1
           clear H1
           exact absurd (Option.some.inj H) (by rw [HR_.out]; decide)
          replace c48 := Bool.eq_false_iff.mpr c48
          subst c48
          have H1 : (some false) = some r := by rw [if_neg (show ¬ (false = true) by decide)] at H; exact H
          clear H
          have H := H1
          clear H1
          exact absurd (Option.some.inj H) (by rw [HR_.out]; decide)
         replace c47 := Bool.eq_false_iff.mpr c47
         subst c47
         have H1 : (some false) = some r := by rw [if_neg (show ¬ (false = true) by decide)] at H; exact H
         clear H
         have H := H1
         clear H1
         exact absurd (Option.some.inj H) (by rw [HR_.out]; decide)
def laws_FnFires.Pure : Prop := ∀ (l0 : List Int), l0.length ≤ maxLen → l0.length * 1 ≤ 140737488351232 → (∀ x ∈ l0, (Lit.int .u8 x).wf = true) → ∃ k, laws_FnFires.f k l0 = some true
end Go.Proofs.Ytbcfccdoffbncaa.P
end
section
namespace Go.Proofs.Ytbcfccdoffbncaa.Pure
open Go.RowKit Go.Proofs.Ytbcfccdoffbncaa.P Go.Proofs.YtbcfccdoffbncaaW.PrintWords Go.Proofs.YtbcfccdoffbncaaW.PrintLast Go.Proofs.YtbcfccdoffbncaaW.PrintMore
def StatFnFires : Prop := ∀ (l0 : List (Int)), (l0.length ≤ maxLen ∧ ∀ x2 ∈ l0, (Lit.int .u8 x2).wf = true) → ∃ k, laws_FnFires.f k l0 = some true
end Go.Proofs.Ytbcfccdoffbncaa.Pure
end
section
set_option linter.unusedVariables false
set_option linter.unusedSimpArgs false
namespace Go.Proofs.Ytbcfccdoffbncaa.Pure
open Go.RowKit Go.Proofs.Ytbcfccdoffbncaa.P Go.Proofs.YtbcfccdoffbncaaW.PrintWords Go.Proofs.YtbcfccdoffbncaaW.PrintLast Go.Proofs.YtbcfccdoffbncaaW.PrintMore Go.Proofs.Ytbcfccdoffbncaa.Base Go.Proofs.Ytbcfccdoffbncaa.Loops
theorem rd_IE {l : List S67} {i : Nat} {a : S67} {r : List S67} (h : l.drop i = a :: r) : rd_T67 l (i : Int) = a := by
  unfold rd_T67
  rw [Int.toNat_natCast]
  exact get_drop h _
def multN (es : List S67) (a b : Int) : Nat := es.countP fun e => decide (e.f0 = mn a b) && decide (e.f1 = mx a b)
def multI (n : Int) (es : List S67) (a b : Int) : Int := if 0 ≤ a ∧ a < n ∧ 0 ≤ b ∧ b < n ∧ a ≠ b then (multN es a b : Int) else 0
theorem mult_loop (es : List S67) (hl : es.length < 4611686018427387904) (a b : Int) (g : Nat → Int → Int → Option Int)
    (hg : ∀ k c i, g (k + 1) c i = if i < (es.length : Int) then (if 0 ≤ i then (if i < (es.length : Int) then (if ((rd_T67 es i).f0) = (mn a b) then (if ((rd_T67 es i).f1) = (mx a b) then (g k (wrap64 (c + 1)) (wrap64 (i + 1))) else (g k c (wrap64 (i + 1)))) else (g k c (wrap64 (i + 1)))) else (none)) else (none)) else (some c)) :
    Ev (fun k => g k 0 0) (multN es a b : Int) := by
  have h := ev_list es (fun k (c : Int) i => g k c i) (fun c r => c + (r.countP fun e => decide (e.f0 = mn a b) && decide (e.f1 = mx a b) : Nat)) (fun c r => 0 ≤ c ∧ c + r.length ≤ es.length) (fun s _ => ev1 fun k => ?_) (fun s e rest i hlt hd hinv => Or.inr ?_) es 0 0 (by omega) rfl (by simp)
  · simpa [multN] using h
  · rw [hg, if_neg (by omega)]; simp
  · simp only [List.length_cons] at hinv
    by_cases hc : e.f0 = mn a b ∧ e.f1 = mx a b
    · refine ⟨s + 1, by omega, ?_, 0, fun k _ => ?_⟩
      · rw [List.countP_cons_of_pos (by simp [hc])]; omega
      · rw [hg, if_pos (by omega), if_pos (by omega), if_pos (by omega), rd_IE hd, if_pos hc.1, if_pos hc.2, wrap_succ (by omega), wrap_id (by omega) (by omega)]
    · refine ⟨s, by omega, ?_, 0, fun k _ => ?_⟩
      · rw [List.countP_cons_of_neg (by simp; intro h1 h2; exact hc ⟨h1, h2⟩)]
      · rw [hg, if_pos (by omega), if_pos (by omega), if_pos (by omega), rd_IE hd, wrap_succ (by omega)]
        by_cases h1 : e.f0 = mn a b
        · rw [if_pos h1, if_neg (fun h2 => hc ⟨h1, h2⟩)]
        · rw [if_neg h1]
theorem spec_mult_ev (n : Int) (es : List S67) (hl : es.length < 4611686018427387904) (a b : Int) : Ev (fun k => spec_Multiplicity.f k n es a b) (multI n es a b) := by
  have hv : ∀ v, spec_l02Vert.f n es v = some (decide (0 ≤ v ∧ v < n)) := by
    intro v
    unfold spec_l02Vert.f
    by_cases h : v ≥ 0
    · rw [if_pos h]; simp; omega
    · rw [if_neg h]; simp; omega
  simp only [spec_Multiplicity.f, hv, Option.bind_some]
  have off : ∀ q : Bool, q = true → Ev (fun k => spec_Multiplicity.j0 k a b 0 q n es) 0 := fun q hq => ev1 fun k => by
    simp only [spec_Multiplicity.j0, hq, if_true]
  by_cases ha : 0 ≤ a ∧ a < n
  · by_cases hb : 0 ≤ b ∧ b < n
    · simp only [ha, hb, and_self, decide_true, if_true]
      by_cases hab : a = b
      · rw [multI, if_neg (by omega)]
        exact off _ (by simp [hab])
      · rw [multI, if_pos ⟨ha.1, ha.2, hb.1, hb.2, hab⟩]
        obtain ⟨K, hK⟩ := mult_loop es hl a b (fun k c i => spec_Multiplicity.l0 k a b c es (es.length : Int) i) (fun k c i => by simp only [spec_Multiplicity.l0])
        refine ⟨K + 1, fun k hk => ?_⟩
        obtain ⟨m, rfl⟩ : ∃ m, k = m + 1 := ⟨k - 1, by omega⟩
        have h2 := hK m (by omega)
        dsimp only at h2 ⊢
        simp only [spec_Multiplicity.j0]
        rw [if_neg (by simp [hab]), h2]
    · simp only [ha, and_self, decide_true, if_true, decide_eq_true_eq, if_neg hb]
      rw [multI, if_neg (by omega)]
      exact off _ rfl
  · simp only [decide_eq_true_eq, if_neg ha]
    rw [multI, if_neg (by omega)]
    exact off _ rfl
theorem impl_mult_ev (n : Int) (es : List S67) (hl : es.length < 4611686018427387904) (a b : Int) : Ev (fun k => impl_Multiplicity.f k n es a b) (multI n es a b) := by
  simp only [impl_Multiplicity.f]
  have off : ∀ q : Bool, q = true → Ev (fun k => impl_Multiplicity.j0 k a b q n es) 0 := fun q hq => ev1 fun k => by
    simp only [impl_Multiplicity.j0, hq, if_true]
  have e1 : mn a b < 0 ↔ (a < 0 ∨ b < 0) := by unfold mn; split <;> omega
  have e2 : mx a b ≥ n ↔ (a ≥ n ∨ b ≥ n) := by unfold mx; split <;> omega
  by_cases h1 : mn a b < 0
  · simp only [if_pos h1]
    rw [multI, if_neg (by omega)]
    exact off _ rfl
  · by_cases h2 : mx a b ≥ n
    · simp only [if_neg h1, if_pos h2]
      rw [multI, if_neg (by omega)]
      exact off _ rfl
    · simp only [if_neg h1, if_neg h2]
      by_cases hab : a = b
      · rw [multI, if_neg (by omega)]
        exact off _ (by simp [hab])
      · rw [multI, if_pos (by omega)]
        obtain ⟨K, hK⟩ := mult_loop es hl a b (fun k c i => impl_Multiplicity.l0 k a b c es (es.length : Int) i) (fun k c i => by simp only [impl_Multiplicity.l0])
        refine ⟨K + 1, fun k hk => ?_⟩
        obtain ⟨m, rfl⟩ : ∃ m, k = m + 1 := ⟨k - 1, by omega⟩
        have h2 := hK m (by omega)
        dsimp only at h2 ⊢
        simp only [impl_Multiplicity.j0]
        rw [if_neg (by simp [hab]), h2]
end Go.Proofs.Ytbcfccdoffbncaa.Pure
end
section
namespace Go.Proofs.Ytbcfccdoffbncaa.P
open Go.RowKit Go.Proofs.YtbcfccdoffbncaaW.PrintWords Go.Proofs.YtbcfccdoffbncaaW.PrintLast Go.Proofs.YtbcfccdoffbncaaW.PrintMore
attribute [local go_sem] max2_int min2_int max_two min_two max_three min_three max_four min_four
set_option linter.unusedVariables false
set_option linter.unusedSimpArgs false
def spec_l04Fire.l0 : Nat → List Int → List Int → List (S67) → Int → Int → Option (List Int)
 | 0, _, _, _, _, _ => none
 | k + 1, x2, x7, x14, x15, x16 => if x16 < x15 then (if 0 ≤ x16 then (if x16 < (x14.length : Int) then (if 0 ≤ ((rd_T67 x14 x16).f0) then (if ((rd_T67 x14 x16).f0) < (x7.length : Int) then (if ((rd_T67 x14 x16).f0) < (x2.length : Int) then (if 0 ≤ ((rd_T67 x14 x16).f1) then (if ((rd_T67 x14 x16).f1) < (x2.length : Int) then ((some (x7.set (((rd_T67 x14 x16).f0) : Int).toNat (wrap64 ((wrap64 ((rd x7 ((rd_T67 x14 x16).f0)) - (rd x2 ((rd_T67 x14 x16).f0)))) + (rd x2 ((rd_T67 x14 x16).f1)))) : List Int)).bind fun y116 => (if ((rd_T67 x14 x16).f1) < (x7.length : Int) then (spec_l04Fire.l0 k x2 (y116.set (((rd_T67 x14 x16).f1) : Int).toNat (wrap64 ((wrap64 ((rd y116 ((rd_T67 x14 x16).f1)) - (rd x2 ((rd_T67 x14 x16).f1)))) + (rd x2 ((rd_T67 x14 x16).f0))))) x14 x15 (wrap64 (x16 + 1))) else (none))) else (none)) else (none)) else (none)) else (none)) else (none)) else (none)) else (none)) else (some x7)
def spec_l04Fire.f (k : Nat) (a0_0 : Int) (l0_1 : List (S67)) (l1 : List Int) (l2 : List Int) : Option (List Int) := (some (([] : List Int) : List Int)).bind fun y105 => (if y105.length + l1.length < 17592186044416 then (spec_l04Fire.l0 k l2 (y105 ++ l1) l0_1 (l0_1.length : Int) 0) else (none))
mutual
def spec_DivisorOk.j0 : Nat → List Int → Bool → Option (Bool)
 | 0, _, _ => none
 | k + 1, x1, x16 => if x16 = true then (some false) else (spec_DivisorOk.l0 k x1 (x1.length : Int) 0)
def spec_DivisorOk.l0 : Nat → List Int → Int → Int → Option (Bool)
 | 0, _, _, _ => none
 | k + 1, x17, x18, x19 => if x19 < x18 then (if 0 ≤ x19 then (if x19 < (x17.length : Int) then ((spec_l01In.f (rd x17 x19) (-60) 60).bind fun t205 => (if t205 = true then (spec_DivisorOk.l0 k x17 x18 (wrap64 (x19 + 1))) else (some false))) else (none)) else (none)) else (some true)
end
def spec_DivisorOk.f (k : Nat) (a0_0 : Int) (l0_1 : List (S67)) (l1 : List Int) : Option (Bool) := (spec_GraphOk.f k a0_0 l0_1).bind fun t203 => (if t203 = true then (spec_DivisorOk.j0 k l1 ((l1.length : Int) != a0_0)) else (spec_DivisorOk.j0 k l1 true))
end Go.Proofs.Ytbcfccdoffbncaa.P
end
section
set_option linter.unusedVariables false
set_option linter.unusedSimpArgs false
namespace Go.Proofs.Ytbcfccdoffbncaa.Pure
open Go.RowKit Go.Proofs.Ytbcfccdoffbncaa.P Go.Proofs.YtbcfccdoffbncaaW.PrintWords Go.Proofs.YtbcfccdoffbncaaW.PrintLast Go.Proofs.YtbcfccdoffbncaaW.PrintMore Go.Proofs.Ytbcfccdoffbncaa.Base Go.Proofs.Ytbcfccdoffbncaa.Loops
def edgesB (n : Int) (es : List S67) : Bool := decide (1 ≤ n) && decide (n ≤ 6) && decide (es.length ≤ 12) && es.all fun e => decide (0 ≤ e.f0) && decide (e.f0 < e.f1) && decide (e.f1 < n)
theorem impl_edgesOk_ev (n : Int) (es : List S67) (hl : es.length < 4611686018427387904) : Ev (fun k => impl_EdgesOk.f k n es) (edgesB n es) := by
  have hw : impl_within.f n 1 6 = some (decide (1 ≤ n) && decide (n ≤ 6)) := by
    unfold impl_within.f
    by_cases h : n ≥ 1
    · rw [if_pos h]; simp [h]
    · rw [if_neg h]; simp [h]
  simp only [impl_EdgesOk.f, hw, Option.bind_some]
  by_cases hn : 1 ≤ n ∧ n ≤ 6
  · by_cases h12 : es.length ≤ 12
    · have loop : Ev (fun k => impl_EdgesOk.l0 k es (es.length : Int) 0 n es) (es.all fun e => decide (0 ≤ e.f0) && decide (e.f0 < e.f1) && decide (e.f1 < n)) := by
        refine ev_listE es (fun k (_ : Unit) i => impl_EdgesOk.l0 k es (es.length : Int) i n es) (fun _ r => r.all fun e => decide (0 ≤ e.f0) && decide (e.f0 < e.f1) && decide (e.f1 < n)) (fun _ _ => True)
          (fun s _ => ev1 fun k => ?_) (fun s a rest i hlt hd _ => ?_) () trivial
        · simp only [impl_EdgesOk.l0]
          rw [if_neg (by omega)]; rfl
        · have bad : a.f0 < 0 ∨ a.f0 ≥ a.f1 ∨ a.f1 ≥ n → ((a :: rest).all fun e => decide (0 ≤ e.f0) && decide (e.f0 < e.f1) && decide (e.f1 < n)) = false := by
            intro h; simp only [List.all_cons, Bool.and_eq_false_iff, decide_eq_false_iff_not]; omega
          have stop : Ev (fun k => impl_EdgesOk.j2 k es (es.length : Int) (i : Int) true n es) false := ev1 fun k => by simp only [impl_EdgesOk.j2, if_true]
          by_cases h1 : a.f0 < 0
          · refine Or.inl (ev_succ ?_)
            simp only [impl_EdgesOk.l0, rd_IE hd]
            rw [bad (by omega)]
            exact ev_ift (by omega) (ev_ift (by omega) (ev_ift (by omega) (ev_ift h1 stop)))
          by_cases h2 : a.f0 ≥ a.f1
          · refine Or.inl (ev_succ ?_)
            simp only [impl_EdgesOk.l0, rd_IE hd]
            rw [bad (by omega)]
            exact ev_ift (by omega) (ev_ift (by omega) (ev_ift (by omega) (ev_ifn h1 (ev_ift h2 stop))))
          by_cases h3 : a.f1 ≥ n
          · refine Or.inl (ev_succ ?_)
            simp only [impl_EdgesOk.l0, rd_IE hd]
            rw [bad (by omega), decide_eq_true h3]
            exact ev_ift (by omega) (ev_ift (by omega) (ev_ift (by omega) (ev_ifn h1 (ev_ifn h2 stop))))
          refine Or.inr ⟨(), trivial, ?_, fun r hr => ev_succ ?_⟩
          · simp; omega
          · simp only [impl_EdgesOk.l0, rd_IE hd, decide_eq_false h3]
            refine ev_ift (by omega) (ev_ift (by omega) (ev_ift (by omega) (ev_ifn h1 (ev_ifn h2 (ev_succ ?_)))))
            simp only [impl_EdgesOk.j2, Bool.false_eq_true, if_false, wrap_succ (show i < 4611686018427387904 by omega)]
            exact hr
      obtain ⟨K, hK⟩ := loop
      dsimp only at hK
      refine ⟨K + 1, fun k hk => ?_⟩
      obtain ⟨m, rfl⟩ : ∃ m, k = m + 1 := ⟨k - 1, by omega⟩
      have := hK m (by omega)
      simp only [hn.1, hn.2, decide_true, Bool.and_self, if_true, impl_EdgesOk.j0]
      rw [if_neg (by simp; omega), this]
      simp [edgesB, hn, h12]
    · refine ev1 fun k => ?_
      simp only [hn.1, hn.2, decide_true, Bool.and_self, if_true, impl_EdgesOk.j0]
      rw [if_pos (by simp; omega)]
      simp [edgesB, h12]
  · refine ev1 fun k => ?_
    rw [if_neg (by simp; omega)]
    simp only [impl_EdgesOk.j0, if_true]
    simp [edgesB]
    intro a b
    exact absurd ⟨a, b⟩ hn
theorem spec_edgesOk_ev (n : Int) (es : List S67) (hl : es.length < 4611686018427387904) : Ev (fun k => spec_EdgesOk.f k n es) (edgesB n es) := by
  have hw : ∀ a b c : Int, spec_l01In.f a b c = some (decide (b ≤ a) && decide (a ≤ c)) := by
    intro a b c
    unfold spec_l01In.f
    by_cases h : a ≥ b
    · rw [if_pos h]; simp [h]
    · rw [if_neg h]; simp [h]
  simp only [spec_EdgesOk.f, hw, Option.bind_some]
  by_cases hn : 1 ≤ n ∧ n ≤ 6
  · have hn1 : wrap64 (n - 1) = n - 1 := by unfold wrap64; omega
    by_cases h12 : es.length ≤ 12
    · have loop : Ev (fun k => spec_EdgesOk.l0 k es (es.length : Int) 0 n es) (es.all fun e => decide (0 ≤ e.f0) && decide (e.f0 < e.f1) && decide (e.f1 < n)) := by
        refine ev_list0 es (fun k (_ : Unit) i => spec_EdgesOk.l0 k es (es.length : Int) i n es) (fun _ r => r.all fun e => decide (0 ≤ e.f0) && decide (e.f0 < e.f1) && decide (e.f1 < n)) (fun _ _ => True)
          (fun s _ => ev1 fun k => ?_) (fun s a rest i hlt hd _ => ?_) () trivial
        · simp only [spec_EdgesOk.l0]
          rw [if_neg (by omega)]; rfl
        · by_cases h1 : 0 ≤ a.f0 ∧ a.f0 ≤ n - 1
          · have e1 : wrap64 (a.f0 + 1) = a.f0 + 1 := by unfold wrap64; omega
            by_cases h2 : a.f0 + 1 ≤ a.f1 ∧ a.f1 ≤ n - 1
            · refine Or.inr ⟨(), trivial, ?_, 0, fun k _ => ?_⟩
              · simp; omega
              · simp only [spec_EdgesOk.l0, rd_IE hd, hw, hn1, e1, Option.bind_some]
                rw [if_pos (by omega), if_pos (by omega), if_pos (by omega), if_pos (by simp; omega), if_pos (by simp; omega), wrap_succ (by omega)]
            · refine Or.inl (ev1 fun k => ?_)
              simp only [spec_EdgesOk.l0, rd_IE hd, hw, hn1, e1, Option.bind_some]
              rw [if_pos (by omega), if_pos (by omega), if_pos (by omega), if_pos (by simp; omega), if_neg (by simp; omega)]
              simp; omega
          · refine Or.inl (ev1 fun k => ?_)
            simp only [spec_EdgesOk.l0, rd_IE hd, hw, hn1, Option.bind_some]
            rw [if_pos (by omega), if_pos (by omega), if_pos (by omega), if_neg (by simp; omega)]
            simp; omega
      obtain ⟨K, hK⟩ := loop
      dsimp only at hK
      refine ⟨K + 1, fun k hk => ?_⟩
      obtain ⟨m, rfl⟩ : ∃ m, k = m + 1 := ⟨k - 1, by omega⟩
      have := hK m (by omega)
      simp only [hn.1, hn.2, decide_true, Bool.and_self, if_true, spec_EdgesOk.j0]
      rw [if_neg (by simp; omega), this]
      simp [edgesB, hn, h12]
    · refine ev1 fun k => ?_
      simp only [hn.1, hn.2, decide_true, Bool.and_self, if_true, spec_EdgesOk.j0]
      rw [if_pos (by simp; omega)]
      simp [edgesB, h12]
  · refine ev1 fun k => ?_
    rw [if_neg (by simp; omega)]
    simp only [spec_EdgesOk.j0, if_true]
    simp [edgesB]
    intro a b
    exact absurd ⟨a, b⟩ hn
end Go.Proofs.Ytbcfccdoffbncaa.Pure
end
section
set_option linter.unusedVariables false
set_option linter.unusedSimpArgs false
namespace Go.Proofs.Ytbcfccdoffbncaa.Pure
open Go.RowKit Go.Proofs.Ytbcfccdoffbncaa.P Go.Proofs.YtbcfccdoffbncaaW.PrintWords Go.Proofs.YtbcfccdoffbncaaW.PrintLast Go.Proofs.YtbcfccdoffbncaaW.PrintMore Go.Proofs.Ytbcfccdoffbncaa.Base Go.Proofs.Ytbcfccdoffbncaa.Bits Go.Proofs.Ytbcfccdoffbncaa.Loops
def SortedE (es : List S67) : Prop := ∀ i, i + 1 < es.length → ¬ ((es.getD (i + 1) z67).f0 < (es.getD i z67).f0 ∨ ((es.getD (i + 1) z67).f0 = (es.getD i z67).f0 ∧ (es.getD (i + 1) z67).f1 < (es.getD i z67).f1))
def ConnE (n : Int) (es : List S67) : Prop := ∀ P : Int → Prop, P 0 → (∀ e ∈ es, P e.f0 ↔ P e.f1) → ∀ v, 0 ≤ v → v < n → P v
def GraphP (n : Int) (es : List S67) : Prop := edgesB n es = true ∧ SortedE es ∧ ConnE n es
theorem rdE_nat (es : List S67) (i : Nat) : rd_T67 es (i : Int) = es.getD i z67 := by unfold rd_T67; rw [Int.toNat_natCast]
theorem edgesB_facts {n : Int} {es : List S67} (h : edgesB n es = true) : 1 ≤ n ∧ n ≤ 6 ∧ es.length ≤ 12 ∧ ∀ e ∈ es, 0 ≤ e.f0 ∧ e.f0 < e.f1 ∧ e.f1 < n := by
  simp only [edgesB, Bool.and_eq_true, decide_eq_true_eq, List.all_eq_true] at h
  exact ⟨h.1.1.1, h.1.1.2, h.1.2, fun e he => ⟨(h.2 e he).1.1, (h.2 e he).1.2, (h.2 e he).2⟩⟩
theorem compare_eq (a0 a1 b0 b1 : Int) : ∃ c, impl_compareEdges.f a0 a1 b0 b1 = some c ∧ (c < 0 ↔ a0 < b0 ∨ (a0 = b0 ∧ a1 < b1)) := by
  have hc : ∀ x y : Int, cmp_Compare_int.f x y = some (if x < y then -1 else if x > y then 1 else 0) := by
    intro x y
    unfold cmp_Compare_int.f cmp_isNaN_int.f
    simp only [Option.bind_some, bne_self_eq_false, Bool.false_eq_true, if_false]
    by_cases h1 : x < y
    · rw [if_pos h1, if_pos h1]
    · rw [if_neg h1, if_neg h1]
      by_cases h2 : x > y
      · rw [if_pos h2, if_pos h2]
      · rw [if_neg h2, if_neg h2]
  unfold impl_compareEdges.f
  simp only [hc, Option.bind_some]
  by_cases h1 : a0 < b0
  · rw [if_pos h1, if_neg (by decide)]
    exact ⟨_, rfl, by omega⟩
  · by_cases h2 : a0 > b0
    · rw [if_neg h1, if_pos h2, if_neg (by decide)]
      exact ⟨_, rfl, by omega⟩
    · rw [if_neg h1, if_neg h2, if_pos rfl]
      refine ⟨_, rfl, ?_⟩
      by_cases h3 : a1 < b1
      · rw [if_pos h3]; omega
      · rw [if_neg h3]
        split <;> omega
theorem impl_sorted_ev (es : List S67) (hl : es.length < 4611686018427387904) : ∃ b : Bool, Ev (fun k => slices_IsSortedFunc_Edge.f k es) b ∧ (b = true ↔ SortedE es) := by
  have main : ∀ i : Nat, i < es.length → ∃ b : Bool, Ev (fun k => slices_IsSortedFunc_Edge.l0 k es (i : Int)) b ∧ (b = true ↔ ∀ j, j < i → ¬ ((es.getD (j + 1) z67).f0 < (es.getD j z67).f0 ∨ ((es.getD (j + 1) z67).f0 = (es.getD j z67).f0 ∧ (es.getD (j + 1) z67).f1 < (es.getD j z67).f1))) := by
    intro i
    induction i with
    | zero =>
      intro _
      refine ⟨true, ev1 fun k => ?_, by simp⟩
      simp only [slices_IsSortedFunc_Edge.l0]
      rw [if_neg (by omega)]
    | succ i ih =>
      intro hi
      obtain ⟨b, ⟨K, hb⟩, hiff⟩ := ih (by omega)
      have ew : wrap64 (((i + 1 : Nat) : Int) - 1) = (i : Int) := by unfold wrap64; omega
      obtain ⟨c, hc, hneg⟩ := compare_eq (es.getD (i + 1) z67).f0 (es.getD (i + 1) z67).f1 (es.getD i z67).f0 (es.getD i z67).f1
      by_cases h : c < 0
      · refine ⟨false, ev1 fun k => ?_, ?_⟩
        · simp only [slices_IsSortedFunc_Edge.l0, ew, rdE_nat, hc, Option.bind_some]
          rw [if_pos (by omega), if_pos (by omega), if_pos (by omega), if_pos (by omega), if_pos (by omega), if_pos h]
        · simp only [Bool.false_eq_true, false_iff]
          intro hall
          exact hall i (by omega) (hneg.1 h)
      · refine ⟨b, ⟨K + 1, fun k hk => ?_⟩, ?_⟩
        · obtain ⟨m, rfl⟩ : ∃ m, k = m + 1 := ⟨k - 1, by omega⟩
          have h2 := hb m (by omega)
          dsimp only at h2 ⊢
          simp only [slices_IsSortedFunc_Edge.l0, ew, rdE_nat, hc, Option.bind_some]
          rw [if_pos (by omega), if_pos (by omega), if_pos (by omega), if_pos (by omega), if_pos (by omega), if_neg h, h2]
        · rw [hiff]
          constructor
          · intro hall j hj
            by_cases e : j = i
            · subst e; exact fun hh => h (hneg.2 hh)
            · exact hall j (by omega)
          · exact fun hall j hj => hall j (by omega)
  simp only [slices_IsSortedFunc_Edge.f]
  by_cases h0 : es.length = 0
  · refine ⟨true, ev1 fun k => ?_, ?_⟩
    · simp only [slices_IsSortedFunc_Edge.l0]
      rw [if_neg (by unfold wrap64; omega)]
    · simp only [true_iff]
      intro i hi
      omega
  · obtain ⟨b, hb, hiff⟩ := main (es.length - 1) (by omega)
    have ew : wrap64 ((es.length : Int) - 1) = ((es.length - 1 : Nat) : Int) := by unfold wrap64; omega
    rw [ew]
    refine ⟨b, hb, ?_⟩
    rw [hiff]
    exact ⟨fun h i hi => h i (by omega), fun h i hi => h i (by omega)⟩
def toN (e : S67) : Nat × Nat := (e.f0.toNat, e.f1.toNat)
theorem conn_l1 (n : Nat) (es : List S67) (hn : n ≤ 6) (he : ∀ e ∈ es, 0 ≤ e.f0 ∧ e.f0 < e.f1 ∧ e.f1 < n) (x8 x9 : Int) (r : Bool) (hl : es.length < 4611686018427387904) :
    ∀ (rest : List S67) (i : Nat) (M : Nat), i ≤ es.length → es.drop i = rest → M < 2 ^ n → Ev (fun k => impl_connected.l0 k n es ((rnd (rest.map toN) M : Nat) : Int) x8 (wrap64 (x9 + 1))) r →
      Ev (fun k => impl_connected.l1 k n es (M : Int) x8 x9 es (es.length : Int) (i : Int)) r := by
  intro rest
  induction rest with
  | nil =>
    intro i M hi hd hM h
    have := drop_nil hd
    obtain ⟨K, hK⟩ := h
    refine ⟨K + 1, fun k hk => ?_⟩
    obtain ⟨m, rfl⟩ : ∃ m, k = m + 1 := ⟨k - 1, by omega⟩
    simp only [impl_connected.l1]
    rw [if_neg (by omega)]
    exact hK m (by omega)
  | cons e rest ih =>
    intro i M hi hd hM h
    have hlt := drop_lt hd
    have hmem : e ∈ es := by
      have : e ∈ es.drop i := by rw [hd]; simp
      exact List.mem_of_mem_drop this
    obtain ⟨h0, h1, h2⟩ := he e hmem
    obtain ⟨a, ha⟩ : ∃ a : Nat, e.f0 = a := ⟨e.f0.toNat, by omega⟩
    obtain ⟨b, hb⟩ : ∃ b : Nat, e.f1 = b := ⟨e.f1.toNat, by omega⟩
    have hte : toN e = (a, b) := by simp [toN, ha, hb]
    have hM62 : M < 2 ^ 62 := Nat.lt_of_lt_of_le hM (Nat.pow_le_pow_right (by decide) (by omega))
    have hlt' := upd_lt M (a, b) n hM (by show a < n; omega) (by show b < n; omega)
    rw [List.map_cons, hte] at h
    obtain ⟨K, hK⟩ := ih (i + 1) (upd M (a, b)) (by omega) (drop_next hd) hlt' h
    refine ⟨K + 1, fun k hk => ?_⟩
    obtain ⟨m, rfl⟩ : ∃ m, k = m + 1 := ⟨k - 1, by omega⟩
    have h3 := hK m (by omega)
    dsimp only at h3 ⊢
    simp only [impl_connected.l1, rd_IE hd, ha, hb, bit_of M a hM62 (by omega), bit_of M b hM62 (by omega), or_two M a b hM62 (by omega) (by omega)]
    rw [if_pos (by omega), if_pos (by omega), if_pos (by omega), if_pos (by omega), wrap_succ (by omega)]
    unfold upd at h3
    by_cases ta : M.testBit a = true
    · rw [if_pos (by simp [ta]), if_pos (by omega)]
      rw [if_pos (by simp [ta])] at h3
      exact h3
    · by_cases tb : M.testBit b = true
      · rw [if_neg (by simp [ta]), if_pos (by omega), if_pos (by simp [tb])]
        rw [if_pos (by simp [tb])] at h3
        exact h3
      · rw [if_neg (by simp [ta]), if_pos (by omega), if_neg (by simp [tb])]
        rw [if_neg (by simp [ta, tb])] at h3
        exact h3
theorem toN_lt {n : Nat} {es : List S67} (he : ∀ e ∈ es, 0 ≤ e.f0 ∧ e.f0 < e.f1 ∧ e.f1 < n) : ∀ x ∈ es.map toN, x.1 < n ∧ x.2 < n := by
  intro x hx
  obtain ⟨e, hm, rfl⟩ := List.mem_map.1 hx
  have := he e hm
  simp only [toN]
  omega
theorem impl_connected_ev (n : Nat) (es : List S67) (hn0 : 0 < n) (hn : n ≤ 6) (he : ∀ e ∈ es, 0 ≤ e.f0 ∧ e.f0 < e.f1 ∧ e.f1 < n) (hl : es.length < 4611686018427387904) :
    Ev (fun k => impl_connected.f k n es) (decide (iter (es.map toN) n 1 = 2 ^ n - 1)) := by
  have main : ∀ (d : Nat) (x9 M : Nat), x9 + d = n → M < 2 ^ n → Ev (fun k => impl_connected.l0 k n es (M : Int) n (x9 : Int)) (decide (iter (es.map toN) d M = 2 ^ n - 1)) := by
    intro d
    induction d with
    | zero =>
      intro x9 M hx hM
      refine ev1 fun k => ?_
      simp only [impl_connected.l0, iter]
      rw [if_neg (by omega), if_pos (by omega), shl_nat n (by omega)]
      have : wrap64 (((2 ^ n : Nat) : Int) - 1) = ((2 ^ n - 1 : Nat) : Int) := by
        have h1 : 2 ^ n ≤ 2 ^ 6 := Nat.pow_le_pow_right (by decide) hn
        have h2 : 0 < 2 ^ n := Nat.pow_pos (by decide)
        unfold wrap64
        omega
      rw [this]
      have e : ((M : Int) == ((2 ^ n - 1 : Nat) : Int)) = decide (M = 2 ^ n - 1) := by
        generalize 2 ^ n - 1 = q
        rw [Bool.eq_iff_iff, beq_iff_eq, decide_eq_true_eq]
        omega
      rw [e]
      rfl
    | succ d ih =>
      intro x9 M hx hM
      have h1 := ih (x9 + 1) (rnd (es.map toN) M) (by omega) (rnd_lt _ n M hM (toN_lt he))
      have h2 := conn_l1 n es hn he n x9 _ hl es 0 M (by omega) rfl hM (by rw [wrap_succ (by omega)]; exact h1)
      obtain ⟨K, hK⟩ := h2
      refine ⟨K + 1, fun k hk => ?_⟩
      obtain ⟨m, rfl⟩ : ∃ m, k = m + 1 := ⟨k - 1, by omega⟩
      have h3 := hK m (by omega)
      dsimp only [iter] at h3 ⊢
      simp only [impl_connected.l0]
      rw [if_pos (by omega)]
      exact h3
  exact main n 0 1 (by omega) (Nat.one_lt_two_pow (by omega))
theorem full_iff (n : Nat) (es : List S67) (hn0 : 0 < n) (he : ∀ e ∈ es, 0 ≤ e.f0 ∧ e.f0 < e.f1 ∧ e.f1 < n) : iter (es.map toN) n 1 = 2 ^ n - 1 ↔ ConnE n es := by
  rw [iter_full (es.map toN) n hn0 (toN_lt he)]
  constructor
  · intro h P h0 hP v hv0 hv
    obtain ⟨u, rfl⟩ : ∃ u : Nat, v = u := ⟨v.toNat, by omega⟩
    refine h (fun u => P u) h0 (fun x hx => ?_) u (by omega)
    obtain ⟨e, hm, rfl⟩ := List.mem_map.1 hx
    have hb := he e hm
    simp only [toN]
    rw [show ((e.f0.toNat : Nat) : Int) = e.f0 by omega, show ((e.f1.toNat : Nat) : Int) = e.f1 by omega]
    exact hP e hm
  · intro h P h0 hP v hv
    have := h (fun u => P u.toNat) h0 (fun e hm => hP (toN e) (List.mem_map.2 ⟨e, hm, rfl⟩)) v (by omega) (by omega)
    simpa using this
theorem impl_graphOk_iff (n : Int) (es : List S67) (hl : es.length < 4611686018427387904) : ∃ b : Bool, Ev (fun k => impl_GraphOk.f k n es) b ∧ (b = true ↔ GraphP n es) := by
  have h1 := impl_edgesOk_ev n es hl
  simp only [impl_GraphOk.f]
  by_cases hb : edgesB n es = true
  · obtain ⟨f1, f2, f3, f4⟩ := edgesB_facts hb
    obtain ⟨m, rfl⟩ : ∃ m : Nat, n = m := ⟨n.toNat, by omega⟩
    obtain ⟨b, h2, hs⟩ := impl_sorted_ev es hl
    rw [hb] at h1
    cases b with
    | false =>
      refine ⟨false, Ev.bind h1 ?_, ?_⟩
      · simp only [if_true]
        refine Ev.bind h2 ?_
        simp only [Bool.false_eq_true, if_false]
        exact Ev.now _
      · simp only [Bool.false_eq_true, false_iff] at hs ⊢
        exact fun h => hs h.2.1
    | true =>
      refine ⟨decide (iter (es.map toN) m 1 = 2 ^ m - 1), Ev.bind h1 ?_, ?_⟩
      · simp only [if_true]
        refine Ev.bind h2 ?_
        simp only [if_true]
        refine Ev.bind (impl_connected_ev m es (by omega) (by omega) f4 hl) ?_
        exact Ev.now _
      · rw [decide_eq_true_eq, full_iff m es (by omega) f4]
        simp only [true_iff] at hs
        exact ⟨fun h => ⟨hb, hs, h⟩, fun h => h.2.2⟩
  · refine ⟨false, Ev.bind h1 ?_, ?_⟩
    · simp only [hb]
      exact Ev.now _
    · simp only [Bool.false_eq_true, false_iff]
      exact fun h => hb h.1
theorem has_ev (l : List Int) (v : Int) (hl : l.length < 4611686018427387904) : Ev (fun k => spec_l02Has.f k l v) (decide (v ∈ l)) := by
  simp only [spec_l02Has.f]
  refine ev_list0 l (fun k (_ : Unit) i => spec_l02Has.l0 k v l (l.length : Int) i) (fun _ r => decide (v ∈ r)) (fun _ _ => True) (fun s _ => ev1 fun k => ?_) (fun s a rest i hlt hd _ => ?_) () trivial
  · simp only [spec_l02Has.l0]
    rw [if_neg (by omega)]; simp
  · by_cases h : a = v
    · refine Or.inl (ev1 fun k => ?_)
      simp only [spec_l02Has.l0, rd_drop hd]
      rw [if_pos (by omega), if_pos (by omega), if_pos (by omega), if_pos h]
      simp [h]
    · refine Or.inr ⟨(), trivial, ?_, 0, fun k _ => ?_⟩
      · simp [Ne.symm h]
      · simp only [spec_l02Has.l0, rd_drop hd]
        rw [if_pos (by omega), if_pos (by omega), if_pos (by omega), if_neg h, wrap_succ (by omega)]
def RInv (n : Nat) (es : List S67) (q : List Int) : Prop :=
  q.Nodup ∧ (∀ v ∈ q, 0 ≤ v ∧ v < n) ∧ (0 : Int) ∈ q ∧ ∀ P : Int → Prop, P 0 → (∀ e ∈ es, P e.f0 ↔ P e.f1) → ∀ v ∈ q, P v
theorem rinv_len {n : Nat} {es : List S67} {q : List Int} (h : RInv n es q) : q.length ≤ n := by
  have := List.Nodup.length_le_of_subset h.1 (l₂ := (List.range n).map fun i : Nat => (i : Int)) (fun v hv => by
    have hb := h.2.1 v hv
    exact List.mem_map.2 ⟨v.toNat, by simp; omega, by omega⟩)
  simpa using this
theorem rinv_add {n : Nat} {es : List S67} {q : List Int} (h : RInv n es q) {u v : Int} {e : S67} (he : e ∈ es) (hb : 0 ≤ e.f0 ∧ e.f0 < e.f1 ∧ e.f1 < n) (hu : u ∈ q) (huv : (u = e.f0 ∧ v = e.f1) ∨ (u = e.f1 ∧ v = e.f0)) (hv : v ∉ q) : RInv n es (q ++ [v]) := by
  refine ⟨?_, fun x hx => ?_, by simp [h.2.2.1], fun P h0 hP x hx => ?_⟩
  · rw [List.nodup_append]
    refine ⟨h.1, by simp, fun a ha b hb' => ?_⟩
    simp at hb'
    subst hb'
    intro e'
    subst e'
    exact hv ha
  · rcases List.mem_append.1 hx with hx | hx
    · exact h.2.1 x hx
    · simp at hx
      omega
  · rcases List.mem_append.1 hx with hx | hx
    · exact h.2.2.2 P h0 hP x hx
    · simp at hx
      subst hx
      have := h.2.2.2 P h0 hP u hu
      rcases huv with ⟨h1, h2⟩ | ⟨h1, h2⟩
      · rw [h2]; exact (hP e he).1 (h1 ▸ this)
      · rw [h2]; exact (hP e he).2 (h1 ▸ this)
theorem get_mem_append {q : List Int} {i : Nat} (h : i < q.length) (v : Int) : rd (q ++ [v]) (i : Int) = rd q (i : Int) := by
  rw [rd_nat q i h, rd_nat (q ++ [v]) i (by simp; omega), List.getElem_append_left h]
theorem reach_step (n : Nat) (es : List S67) (q : List Int) (pos i : Nat) (e : S67) (rest : List S67) (hd : es.drop i = e :: rest) (hne : e.f0 ≠ e.f1) (hpos : pos < q.length) (hq : q.length ≤ 6) (hl : es.length < 4611686018427387904) (r : List Int)
    (h : Ev (fun k => spec_l02Reach.l1 k (if e.f0 = rd q pos ∧ e.f1 ∉ q then q ++ [e.f1] else if e.f1 = rd q pos ∧ e.f0 ∉ q then q ++ [e.f0] else q) (pos : Int) es (es.length : Int) ((i + 1 : Nat) : Int) n es) r) :
    Ev (fun k => spec_l02Reach.l1 k q (pos : Int) es (es.length : Int) (i : Int) n es) r := by
  have hlt := drop_lt hd
  have b1 := has_ev q e.f1 (by omega)
  have tail : ∀ q' : List Int, pos < q'.length → q'.length ≤ 7 →
      Ev (fun k => spec_l02Reach.l1 k (if e.f1 = rd q' pos ∧ e.f0 ∉ q' then q' ++ [e.f0] else q') (pos : Int) es (es.length : Int) ((i + 1 : Nat) : Int) n es) r →
      Ev (fun k => spec_l02Reach.j3 k q' (pos : Int) es (es.length : Int) (i : Int) n es e.f0 e.f1) r := by
    intro q' hp' hq' h'
    have b2 := has_ev q' e.f0 (by omega)
    refine ev_succ ?_
    simp only [spec_l02Reach.j3, wrap_succ (show i < 4611686018427387904 by omega)]
    refine ev_ift (by omega) (ev_ift (by omega) ?_)
    by_cases c1 : e.f1 = rd q' pos
    · refine ev_ift c1 (Ev.bind b2 ?_)
      by_cases m0 : e.f0 ∈ q'
      · rw [if_neg (fun hh => hh.2 m0)] at h'
        exact ev_ift (by simp [m0]) h'
      · rw [if_pos ⟨c1, m0⟩] at h'
        exact ev_ifn (by simp [m0]) (ev_ift (by omega) h')
    · rw [if_neg (fun hh => c1 hh.1)] at h'
      exact ev_ifn c1 h'
  refine ev_succ ?_
  simp only [spec_l02Reach.l1, rd_IE hd]
  refine ev_ift (by omega) (ev_ift (by omega) (ev_ift (by omega) (ev_ift (by omega) (ev_ift (by omega) ?_))))
  by_cases c0 : e.f0 = rd q pos
  · have c1 : ¬ e.f1 = rd q pos := fun hh => hne (c0.trans hh.symm)
    refine ev_ift c0 (Ev.bind b1 (ev_succ ?_))
    simp only [spec_l02Reach.j2]
    by_cases m1 : e.f1 ∈ q
    · rw [if_neg (fun hh => hh.2 m1), if_neg (fun hh => c1 hh.1)] at h
      refine ev_ifn (by simp [m1]) (tail q hpos (by omega) ?_)
      rw [if_neg (fun hh => c1 hh.1)]
      exact h
    · rw [if_pos ⟨c0, m1⟩] at h
      refine ev_ift (by simp [m1]) (ev_ift (by omega) (tail (q ++ [e.f1]) (by simp; omega) (by simp; omega) ?_))
      rw [get_mem_append hpos, if_neg (fun hh => c1 hh.1)]
      exact h
  · refine ev_ifn c0 (ev_succ ?_)
    simp only [spec_l02Reach.j2]
    rw [if_neg (fun hh => c0 hh.1)] at h
    exact ev_ifn (by simp) (tail q hpos (by omega) h)
def Done (es : List S67) (q : List Int) (pos : Nat) : Prop := ∀ j, j < pos → ∀ e ∈ es, (e.f0 = rd q j → e.f1 ∈ q) ∧ (e.f1 = rd q j → e.f0 ∈ q)
theorem done_add {es : List S67} {q : List Int} {pos : Nat} (h : Done es q pos) (hp : pos ≤ q.length) (v : Int) : Done es (q ++ [v]) pos := by
  intro j hj e he
  rw [get_mem_append (by omega)]
  have := h j hj e he
  exact ⟨fun hh => List.mem_append_left _ (this.1 hh), fun hh => List.mem_append_left _ (this.2 hh)⟩
theorem reach_inner (n : Nat) (hn : n ≤ 6) (es : List S67) (he : ∀ e ∈ es, 0 ≤ e.f0 ∧ e.f0 < e.f1 ∧ e.f1 < n) (hl : es.length < 4611686018427387904) (pos : Nat)
    (next : ∀ q, RInv n es q → Done es q (pos + 1) → pos < q.length → ∃ r, Ev (fun k => spec_l02Reach.l0 k q ((pos + 1 : Nat) : Int) n es) r ∧ RInv n es r ∧ Done es r r.length) :
    ∀ (rest : List S67) (i : Nat) (q : List Int), i ≤ es.length → es.drop i = rest → RInv n es q → Done es q pos → pos < q.length →
      (∀ e ∈ es.take i, (e.f0 = rd q pos → e.f1 ∈ q) ∧ (e.f1 = rd q pos → e.f0 ∈ q)) →
      ∃ r, Ev (fun k => spec_l02Reach.l1 k q (pos : Int) es (es.length : Int) (i : Int) n es) r ∧ RInv n es r ∧ Done es r r.length := by
  intro rest
  induction rest with
  | nil =>
    intro i q hi hd hinv hdone hpos hpart
    have hge := drop_nil hd
    have hlen := rinv_len hinv
    rw [List.take_of_length_le hge] at hpart
    obtain ⟨r, ⟨K, hK⟩, h1, h2⟩ := next q hinv (fun j hj => by
      by_cases e : j = pos
      · subst e; exact hpart
      · exact hdone j (by omega)) hpos
    refine ⟨r, ⟨K + 1, fun k hk => ?_⟩, h1, h2⟩
    obtain ⟨m, rfl⟩ : ∃ m, k = m + 1 := ⟨k - 1, by omega⟩
    have h3 := hK m (by omega)
    dsimp only at h3 ⊢
    simp only [spec_l02Reach.l1]
    rw [if_neg (by omega), wrap_succ (by omega), h3]
  | cons e rest ih =>
    intro i q hi hd hinv hdone hpos hpart
    have hlt := drop_lt hd
    have hmem : e ∈ es := by
      have : e ∈ es.drop i := by rw [hd]; simp
      exact List.mem_of_mem_drop this
    have hb := he e hmem
    have hlen := rinv_len hinv
    have hx : rd q pos ∈ q := by rw [rd_nat q pos hpos]; exact List.getElem_mem _
    have htake : es.take (i + 1) = es.take i ++ [e] := take_drop hd
    have step := reach_step n es q pos i e rest hd (by omega) hpos (by omega) hl
    by_cases c0 : e.f0 = rd q pos ∧ e.f1 ∉ q
    · obtain ⟨r, hr, h1, h2⟩ := ih (i + 1) (q ++ [e.f1]) (by omega) (drop_next hd) (rinv_add hinv hmem hb hx (Or.inl ⟨c0.1.symm, rfl⟩) c0.2) (done_add hdone (by omega) _) (by simp; omega) (fun x hx' => by
        rw [get_mem_append hpos]
        rw [htake] at hx'
        rcases List.mem_append.1 hx' with hx' | hx'
        · have := hpart x hx'
          exact ⟨fun hh => List.mem_append_left _ (this.1 hh), fun hh => List.mem_append_left _ (this.2 hh)⟩
        · simp at hx'
          subst hx'
          exact ⟨fun _ => by simp, fun hh => absurd (c0.1.trans hh.symm) (by omega)⟩)
      refine ⟨r, step r ?_, h1, h2⟩
      simp only [if_pos c0]
      exact hr
    · by_cases c1 : e.f1 = rd q pos ∧ e.f0 ∉ q
      · obtain ⟨r, hr, h1, h2⟩ := ih (i + 1) (q ++ [e.f0]) (by omega) (drop_next hd) (rinv_add hinv hmem hb hx (Or.inr ⟨c1.1.symm, rfl⟩) c1.2) (done_add hdone (by omega) _) (by simp; omega) (fun x hx' => by
          rw [get_mem_append hpos]
          rw [htake] at hx'
          rcases List.mem_append.1 hx' with hx' | hx'
          · have := hpart x hx'
            exact ⟨fun hh => List.mem_append_left _ (this.1 hh), fun hh => List.mem_append_left _ (this.2 hh)⟩
          · simp at hx'
            subst hx'
            exact ⟨fun hh => absurd (hh.trans c1.1.symm) (by omega), fun _ => by simp⟩)
        refine ⟨r, step r ?_, h1, h2⟩
        simp only [if_neg c0, if_pos c1]
        exact hr
      · obtain ⟨r, hr, h1, h2⟩ := ih (i + 1) q (by omega) (drop_next hd) hinv hdone hpos (fun x hx' => by
          rw [htake] at hx'
          rcases List.mem_append.1 hx' with hx' | hx'
          · exact hpart x hx'
          · simp at hx'
            subst hx'
            exact ⟨fun hh => Classical.byContradiction fun hn => c0 ⟨hh, hn⟩, fun hh => Classical.byContradiction fun hn => c1 ⟨hh, hn⟩⟩)
        refine ⟨r, step r ?_, h1, h2⟩
        simp only [if_neg c0, if_neg c1]
        exact hr
theorem reach_ev (n : Nat) (hn0 : 0 < n) (hn : n ≤ 6) (es : List S67) (he : ∀ e ∈ es, 0 ≤ e.f0 ∧ e.f0 < e.f1 ∧ e.f1 < n) (hl : es.length < 4611686018427387904) :
    ∃ r, Ev (fun k => spec_l02Reach.f k n es) r ∧ RInv n es r ∧ Done es r r.length := by
  have main : ∀ (d pos : Nat) (q : List Int), RInv n es q → Done es q pos → pos ≤ q.length → n < pos + d → ∃ r, Ev (fun k => spec_l02Reach.l0 k q (pos : Int) n es) r ∧ RInv n es r ∧ Done es r r.length := by
    intro d
    induction d with
    | zero =>
      intro pos q hinv _ hp hd
      have := rinv_len hinv
      omega
    | succ d ih =>
      intro pos q hinv hdone hp hd
      by_cases hlt : pos < q.length
      · obtain ⟨r, ⟨K, hK⟩, h1, h2⟩ := reach_inner n hn es he hl pos (fun q' h1 h2 h3 => ih (pos + 1) q' h1 h2 (by omega) (by omega)) es 0 q (by omega) rfl hinv hdone hlt (fun e he' => by simp at he')
        refine ⟨r, ⟨K + 1, fun k hk => ?_⟩, h1, h2⟩
        obtain ⟨m, rfl⟩ : ∃ m, k = m + 1 := ⟨k - 1, by omega⟩
        have h3 := hK m (by omega)
        dsimp only at h3 ⊢
        simp only [spec_l02Reach.l0]
        rw [if_pos (by omega)]
        exact h3
      · refine ⟨q, ev1 fun k => ?_, hinv, ?_⟩
        · simp only [spec_l02Reach.l0]
          rw [if_neg (by omega)]
        · have : pos = q.length := by omega
          rw [this] at hdone
          exact hdone
  refine main (n + 1) 0 [0] ⟨by simp, fun v hv => by simp at hv; omega, by simp, fun P h0 _ v hv => by simp at hv; rw [hv]; exact h0⟩ (fun j hj => by omega) (by simp) (by omega)
theorem reach_all (n : Nat) (es : List S67) (r : List Int) (h1 : RInv n es r) (h2 : Done es r r.length) : ((r.length : Int) == n) = true ↔ ConnE n es := by
  have hlen := rinv_len h1
  constructor
  · intro h P h0 hP v hv0 hv
    simp at h
    refine h1.2.2.2 P h0 hP v (Classical.byContradiction fun hno => ?_)
    have := List.Nodup.length_le_of_subset (l₁ := v :: r) (by rw [List.nodup_cons]; exact ⟨hno, h1.1⟩) (l₂ := (List.range n).map fun i : Nat => (i : Int)) (fun u hu => by
      have hb : 0 ≤ u ∧ u < n := by
        rcases List.mem_cons.1 hu with rfl | hu
        · omega
        · exact h1.2.1 u hu
      exact List.mem_map.2 ⟨u.toNat, by simp; omega, by omega⟩)
    simp at this
    omega
  · intro h
    have hall := h (fun v => v ∈ r) h1.2.2.1 (fun e he => by
      constructor
      · intro hm
        obtain ⟨j, hj, hjv⟩ := List.mem_iff_getElem.1 hm
        exact (h2 j hj e he).1 (by rw [rd_nat r j hj]; exact hjv.symm)
      · intro hm
        obtain ⟨j, hj, hjv⟩ := List.mem_iff_getElem.1 hm
        exact (h2 j hj e he).2 (by rw [rd_nat r j hj]; exact hjv.symm))
    have := List.Nodup.length_le_of_subset (l₁ := (List.range n).map fun i : Nat => (i : Int)) (l₂ := r) (by
      refine List.Pairwise.map _ (fun a b hab => ?_) List.nodup_range
      show (a : Int) ≠ b
      omega) (fun v hv => by
      obtain ⟨i, hi, rfl⟩ := List.mem_map.1 hv
      simp at hi
      exact hall _ (by omega) (by omega))
    simp at this ⊢
    omega
theorem spec_graphOk_iff (n : Int) (es : List S67) (hl : es.length < 4611686018427387904) : ∃ b : Bool, Ev (fun k => spec_GraphOk.f k n es) b ∧ (b = true ↔ GraphP n es) := by
  have h1 := spec_edgesOk_ev n es hl
  simp only [spec_GraphOk.f]
  by_cases hb : edgesB n es = true
  · obtain ⟨f1, f2, f3, f4⟩ := edgesB_facts hb
    obtain ⟨m, rfl⟩ : ∃ m : Nat, n = m := ⟨n.toNat, by omega⟩
    obtain ⟨r, hr, r1, r2⟩ := reach_ev m (by omega) (by omega) es f4 hl
    rw [hb] at h1
    have main : ∀ (d i : Nat), i + d = es.length → ∃ b : Bool, Ev (fun k => spec_GraphOk.l0 k es (es.length : Int) (i : Int) m es) b ∧
        (b = true ↔ (∀ j, i ≤ j + 1 → j + 1 < es.length → ¬ ((es.getD (j + 1) z67).f0 < (es.getD j z67).f0 ∨ ((es.getD (j + 1) z67).f0 = (es.getD j z67).f0 ∧ (es.getD (j + 1) z67).f1 < (es.getD j z67).f1))) ∧ ConnE m es) := by
      intro d
      induction d with
      | zero =>
        intro i hi
        obtain ⟨K, hK⟩ := hr
        refine ⟨((r.length : Int) == m), ⟨K + 1, fun k hk => ?_⟩, ?_⟩
        · obtain ⟨p, rfl⟩ : ∃ p, k = p + 1 := ⟨k - 1, by omega⟩
          have h3 := hK p (by omega)
          dsimp only at h3 ⊢
          simp only [spec_GraphOk.l0]
          rw [if_neg (by omega), h3]
          rfl
        · rw [reach_all m es r r1 r2]
          exact ⟨fun h => ⟨fun j h1 h2 => by omega, h⟩, fun h => h.2⟩
      | succ d ih =>
        intro i hi
        obtain ⟨b, hK, hiff⟩ := ih (i + 1) (by omega)
        have stop : Ev (fun k => spec_GraphOk.j1 k es (es.length : Int) (i : Int) true m es) false := ev1 fun k => by simp only [spec_GraphOk.j1, if_true]
        have go : Ev (fun k => spec_GraphOk.j1 k es (es.length : Int) (i : Int) false m es) b := by
          refine ev_succ ?_
          simp only [spec_GraphOk.j1, Bool.false_eq_true, if_false, wrap_succ (show i < 4611686018427387904 by omega)]
          exact hK
        by_cases i0 : i = 0
        · subst i0
          refine ⟨b, ev_succ ?_, ?_⟩
          · simp only [spec_GraphOk.l0]
            exact ev_ift (by omega) (ev_ift (by omega) (ev_ift (by omega) (ev_ifn (by omega) go)))
          · rw [hiff]
            exact ⟨fun h => ⟨fun j _ h2 => h.1 j (by omega) h2, h.2⟩, fun h => ⟨fun j _ h2 => h.1 j (by omega) h2, h.2⟩⟩
        · obtain ⟨p, rfl⟩ : ∃ p, i = p + 1 := ⟨i - 1, by omega⟩
          have ew : wrap64 (((p + 1 : Nat) : Int) - 1) = (p : Int) := by unfold wrap64; omega
          by_cases hc : (es.getD (p + 1) z67).f0 < (es.getD p z67).f0 ∨ ((es.getD (p + 1) z67).f0 = (es.getD p z67).f0 ∧ (es.getD (p + 1) z67).f1 < (es.getD p z67).f1)
          · refine ⟨false, ev_succ ?_, ?_⟩
            · simp only [spec_GraphOk.l0, ew, rdE_nat]
              refine ev_ift (by omega) (ev_ift (by omega) (ev_ift (by omega) (ev_ift (by omega) (ev_ift (by omega) (ev_ift (by omega) ?_)))))
              by_cases c0 : (es.getD (p + 1) z67).f0 < (es.getD p z67).f0
              · exact ev_ift c0 stop
              · have c1 : (es.getD (p + 1) z67).f1 < (es.getD p z67).f1 := by omega
                simp only [decide_eq_true c1]
                exact ev_ifn c0 (ev_ift (by omega) stop)
            · simp only [Bool.false_eq_true, false_iff]
              exact fun h => h.1 p (by omega) (by omega) hc
          · refine ⟨b, ev_succ ?_, ?_⟩
            · simp only [spec_GraphOk.l0, ew, rdE_nat]
              refine ev_ift (by omega) (ev_ift (by omega) (ev_ift (by omega) (ev_ift (by omega) (ev_ift (by omega) (ev_ift (by omega) (ev_ifn (by omega) ?_))))))
              by_cases c0 : (es.getD (p + 1) z67).f0 = (es.getD p z67).f0
              · have c1 : ¬ (es.getD (p + 1) z67).f1 < (es.getD p z67).f1 := by omega
                simp only [decide_eq_false c1]
                exact ev_ift c0 go
              · exact ev_ifn c0 go
            · rw [hiff]
              refine ⟨fun h => ⟨fun j h1 h2 => ?_, h.2⟩, fun h => ⟨fun j _ h2 => h.1 j (by omega) h2, h.2⟩⟩
              by_cases e : j = p
              · subst e; exact hc
              · exact h.1 j (by omega) h2
    obtain ⟨b, hb2, hiff⟩ := main es.length 0 (by omega)
    refine ⟨b, Ev.bind h1 ?_, ?_⟩
    · simp only [if_true]
      exact hb2
    · rw [hiff]
      exact ⟨fun h => ⟨hb, fun i hi => h.1 i (by omega) hi, h.2⟩, fun h => ⟨fun j _ h2 => h.2.1 j h2, h.2.2⟩⟩
  · refine ⟨false, Ev.bind h1 ?_, ?_⟩
    · simp only [hb]
      exact Ev.now _
    · simp only [Bool.false_eq_true, false_iff]
      exact fun h => hb h.1
theorem graphOk_both (n : Int) (es : List S67) (hl : es.length < 4611686018427387904) : ∃ b : Bool, Ev (fun k => impl_GraphOk.f k n es) b ∧ Ev (fun k => spec_GraphOk.f k n es) b ∧ (b = true ↔ GraphP n es) := by
  obtain ⟨b, h1, i1⟩ := impl_graphOk_iff n es hl
  obtain ⟨b', h2, i2⟩ := spec_graphOk_iff n es hl
  have : b' = b := by rw [Bool.eq_iff_iff, i1, i2]
  subst this
  exact ⟨b', h1, h2, i1⟩
theorem within_eq (a b c : Int) : impl_within.f a b c = some (decide (b ≤ a ∧ a ≤ c)) := by
  unfold impl_within.f
  by_cases h : a ≥ b
  · rw [if_pos h]; simp; omega
  · rw [if_neg h]; simp; omega
theorem in_eq (a b c : Int) : spec_l01In.f a b c = some (decide (b ≤ a ∧ a ≤ c)) := by
  unfold spec_l01In.f
  by_cases h : a ≥ b
  · rw [if_pos h]; simp; omega
  · rw [if_neg h]; simp; omega
def allB (l : List Int) (lo hi : Int) : Bool := l.all fun x => decide (lo ≤ x ∧ x ≤ hi)
theorem allWithin_ev (l : List Int) (lo hi : Int) (hl : l.length < 4611686018427387904) : Ev (fun k => impl_allWithin.f k l lo hi) (allB l lo hi) := by
  simp only [impl_allWithin.f]
  refine ev_list0 l (fun k (_ : Unit) i => impl_allWithin.l0 k lo hi l (l.length : Int) i) (fun _ r => allB r lo hi) (fun _ _ => True) (fun s _ => ev1 fun k => ?_) (fun s a rest i hlt hd _ => ?_) () trivial
  · simp only [impl_allWithin.l0]
    rw [if_neg (by omega)]; rfl
  · by_cases h : lo ≤ a ∧ a ≤ hi
    · refine Or.inr ⟨(), trivial, by simp [allB, h], 0, fun k _ => ?_⟩
      simp only [impl_allWithin.l0, rd_drop hd, within_eq, Option.bind_some]
      rw [if_pos (by omega), if_pos (by omega), if_pos (by omega), if_pos (by simp [h]), wrap_succ (by omega)]
    · refine Or.inl (ev1 fun k => ?_)
      simp only [impl_allWithin.l0, rd_drop hd, within_eq, Option.bind_some]
      rw [if_pos (by omega), if_pos (by omega), if_pos (by omega), if_neg (by simpa using h)]
      simp [allB, h]
theorem all_loop (l : List Int) (lo hi : Int) (hl : l.length < 4611686018427387904) (g : Nat → Int → Option Bool)
    (hg : ∀ k i, g (k + 1) i = if i < (l.length : Int) then (if 0 ≤ i then (if i < (l.length : Int) then ((spec_l01In.f (rd l i) lo hi).bind fun t => (if t = true then (g k (wrap64 (i + 1))) else (some false))) else (none)) else (none)) else (some true)) :
    Ev (fun k => g k 0) (allB l lo hi) := by
  refine ev_list0 l (fun k (_ : Unit) i => g k i) (fun _ r => allB r lo hi) (fun _ _ => True) (fun s _ => ev1 fun k => ?_) (fun s a rest i hlt hd _ => ?_) () trivial
  · rw [hg, if_neg (by omega)]; rfl
  · by_cases h : lo ≤ a ∧ a ≤ hi
    · refine Or.inr ⟨(), trivial, by simp [allB, h], 0, fun k _ => ?_⟩
      rw [hg, if_pos (by omega), if_pos (by omega), if_pos (by omega), rd_drop hd, in_eq, Option.bind_some, if_pos (by simp [h]), wrap_succ (by omega)]
    · refine Or.inl (ev1 fun k => ?_)
      rw [hg, if_pos (by omega), if_pos (by omega), if_pos (by omega), rd_drop hd, in_eq, Option.bind_some, if_neg (by simpa using h)]
      simp [allB, h]
def DivP (n : Int) (es : List S67) (d : List Int) : Prop := GraphP n es ∧ (d.length : Int) = n ∧ allB d (-60) 60 = true
theorem divOk_both (n : Int) (es : List S67) (d : List Int) (hl : es.length < 4611686018427387904) (hd : d.length < 4611686018427387904) : ∃ b : Bool, Ev (fun k => impl_DivisorOk.f k n es d) b ∧ Ev (fun k => spec_DivisorOk.f k n es d) b ∧ (b = true ↔ DivP n es d) := by
  obtain ⟨b, h1, h2, hb⟩ := graphOk_both n es hl
  simp only [impl_DivisorOk.f, spec_DivisorOk.f]
  have off : ∀ q : Bool, q = true → Ev (fun k => spec_DivisorOk.j0 k d q) false := fun q hq => ev1 fun k => by
    simp only [spec_DivisorOk.j0, hq, if_true]
  cases b with
  | false =>
    refine ⟨false, Ev.bind h1 ?_, Ev.bind h2 ?_, ?_⟩
    · simp only [Bool.false_eq_true, if_false]; exact Ev.now _
    · simp only [Bool.false_eq_true, if_false]; exact off _ rfl
    · simp only [Bool.false_eq_true, false_iff] at hb ⊢
      exact fun h => hb h.1
  | true =>
    simp only [true_iff] at hb
    by_cases hn : (d.length : Int) = n
    · refine ⟨allB d (-60) 60, Ev.bind h1 ?_, Ev.bind h2 ?_, ?_⟩
      · simp only [if_true, if_pos hn]
        exact Ev.bind (allWithin_ev d (-60) 60 hd) (Ev.now _)
      · simp only [if_true]
        refine ev_succ ?_
        simp only [spec_DivisorOk.j0]
        simp only [if_neg (show ¬ ((d.length : Int) != n) = true by simp [hn])]
        exact all_loop d (-60) 60 hd (fun k i => spec_DivisorOk.l0 k d (d.length : Int) i) (fun k i => by simp only [spec_DivisorOk.l0])
      · exact ⟨fun h => ⟨hb, hn, h⟩, fun h => h.2.2⟩
    · refine ⟨false, Ev.bind h1 ?_, Ev.bind h2 ?_, ?_⟩
      · simp only [if_true, if_neg hn]; exact Ev.now _
      · simp only [if_true]; exact off _ (by simp [hn])
      · simp only [Bool.false_eq_true, false_iff]
        exact fun h => hn h.2.1
theorem getD_set (x : List Int) (i j : Nat) (c : Int) (hi : i < x.length) : (x.set i c).getD j 0 = if i = j then c else x.getD j 0 := by
  simp only [List.getD_eq_getElem?_getD, List.getElem?_set]
  by_cases e : i = j
  · subst e; simp [hi]
  · simp [e]
def cE (s : List Int) (u : Nat) (e : S67) : Int :=
  (if e.f0.toNat = u then s.getD e.f1.toNat 0 - s.getD e.f0.toNat 0 else 0) + (if e.f1.toNat = u then s.getD e.f0.toNat 0 - s.getD e.f1.toNat 0 else 0)
def net (s : List Int) (u : Nat) : List S67 → Int
  | [] => 0
  | e :: es => cE s u e + net s u es
def okE (n : Nat) (e : S67) : Prop := 0 ≤ e.f0 ∧ e.f0 < e.f1 ∧ e.f1 < n
def stepS (s : List Int) (x : List Int) (e : S67) : List Int :=
  let y := x.set e.f0.toNat (wrap64 (wrap64 (x.getD e.f0.toNat 0 - s.getD e.f0.toNat 0) + s.getD e.f1.toNat 0))
  y.set e.f1.toNat (wrap64 (wrap64 (y.getD e.f1.toNat 0 - s.getD e.f1.toNat 0) + s.getD e.f0.toNat 0))
def In64 (x : List Int) : Prop := ∀ u, wrap64 (x.getD u 0) = x.getD u 0
theorem in64_wrap {x : List Int} (h : In64 x) (u : Nat) (c : Int) : wrap64 (x.getD u 0 + 0) = x.getD u 0 := by rw [Int.add_zero]; exact h u
theorem stepS_get (n : Nat) (s x : List Int) (e : S67) (he : okE n e) (hx : x.length = n) (h : In64 x) (u : Nat) : (stepS s x e).getD u 0 = wrap64 (x.getD u 0 + cE s u e) := by
  obtain ⟨h0, h1, h2⟩ := he
  have hne : ¬ e.f0.toNat = e.f1.toNat := by omega
  simp only [stepS, cE]
  rw [getD_set _ e.f1.toNat u _ (by simp; omega), getD_set x e.f0.toNat e.f1.toNat _ (by omega), if_neg hne, getD_set x e.f0.toNat u _ (by omega)]
  by_cases e1 : e.f1.toNat = u
  · have e0 : ¬ e.f0.toNat = u := by omega
    rw [if_pos e1, if_neg e0, if_pos e1, e1]
    unfold wrap64; omega
  · rw [if_neg e1, if_neg e1]
    by_cases e0 : e.f0.toNat = u
    · rw [if_pos e0, if_pos e0, e0]
      unfold wrap64; omega
    · rw [if_neg e0, if_neg e0]
      exact (in64_wrap h u 0).symm
theorem stepS_len (s x : List Int) (e : S67) : (stepS s x e).length = x.length := by simp [stepS]
theorem foldS_get (n : Nat) (s : List Int) : ∀ (es : List S67) (x : List Int), (∀ e ∈ es, okE n e) → x.length = n → In64 x →
    (es.foldl (stepS s) x).length = n ∧ ∀ u, (es.foldl (stepS s) x).getD u 0 = wrap64 (x.getD u 0 + net s u es) := by
  intro es
  induction es with
  | nil => intro x _ hx h; exact ⟨hx, fun u => by simp only [List.foldl_nil, net]; exact (in64_wrap h u 0).symm⟩
  | cons e es ih =>
    intro x he hx h
    have hs := stepS_get n s x e (he e (by simp)) hx h
    have hi : In64 (stepS s x e) := fun u => by rw [hs u]; exact wrap_wrap _
    obtain ⟨h1, h2⟩ := ih (stepS s x e) (fun y hy => he y (by simp [hy])) (by rw [stepS_len]; exact hx) hi
    refine ⟨h1, fun u => ?_⟩
    simp only [List.foldl_cons, net]
    rw [h2 u, hs u, wrap_wrap_add]
    congr 1; omega
theorem spec_fire_ev (n : Nat) (es : List S67) (d s : List Int) (he : ∀ e ∈ es, okE n e) (hd : d.length = n) (hs : s.length = n) (hn : n ≤ 6) (hl : es.length < 4611686018427387904) (nn : Int) :
    Ev (fun k => spec_l04Fire.f k nn es d s) (es.foldl (stepS s) d) := by
  simp only [spec_l04Fire.f, Option.bind_some, List.nil_append, List.length_nil]
  simp only [if_pos (show 0 + d.length < 17592186044416 by omega)]
  refine ev_list0 es (fun k (x : List Int) i => spec_l04Fire.l0 k s x es (es.length : Int) i) (fun x r => r.foldl (stepS s) x) (fun x r => x.length = n) (fun x hx => ev1 fun k => ?_) (fun x e rest i hlt hdr hx => Or.inr ⟨stepS s x e, by rw [stepS_len]; exact hx, rfl, 0, fun k _ => ?_⟩) d hd
  · simp only [spec_l04Fire.l0]
    rw [if_neg (by omega)]; rfl
  · have hmem : e ∈ es := by
      have : e ∈ es.drop i := by rw [hdr]; simp
      exact List.mem_of_mem_drop this
    obtain ⟨h0, h1, h2⟩ := he e hmem
    simp only [spec_l04Fire.l0, rd_IE hdr, Option.bind_some]
    rw [if_pos (by omega), if_pos (by omega), if_pos (by omega), if_pos (by omega), if_pos (by omega), if_pos (by omega), if_pos (by omega), if_pos (by omega), if_pos (by omega), wrap_succ (by omega)]
    rfl
def stepF (v : Nat) (t : Int) (x : List Int) (e : S67) : List Int :=
  if e.f0.toNat = v then
    let y := x.set v (wrap64 (x.getD v 0 - t))
    y.set e.f1.toNat (wrap64 (y.getD e.f1.toNat 0 + t))
  else if e.f1.toNat = v then
    let y := x.set v (wrap64 (x.getD v 0 - t))
    y.set e.f0.toNat (wrap64 (y.getD e.f0.toNat 0 + t))
  else x
def fE (v : Nat) (t : Int) (u : Nat) (e : S67) : Int :=
  if e.f0.toNat = v then (if v = u then -t else 0) + (if e.f1.toNat = u then t else 0)
  else if e.f1.toNat = v then (if v = u then -t else 0) + (if e.f0.toNat = u then t else 0)
  else 0
def netF (v : Nat) (t : Int) (u : Nat) : List S67 → Int
  | [] => 0
  | e :: es => fE v t u e + netF v t u es
theorem stepF_len (v : Nat) (t : Int) (x : List Int) (e : S67) : (stepF v t x e).length = x.length := by
  simp only [stepF]
  split
  · simp
  · split <;> simp
theorem stepF_get (n v : Nat) (t : Int) (x : List Int) (e : S67) (he : okE n e) (hx : x.length = n) (h : In64 x) (u : Nat) : (stepF v t x e).getD u 0 = wrap64 (x.getD u 0 + fE v t u e) := by
  obtain ⟨h0, h1, h2⟩ := he
  have key : ∀ (p q : Nat), p < n → q < n → p ≠ q → ((x.set p (wrap64 (x.getD p 0 - t))).set q (wrap64 ((x.set p (wrap64 (x.getD p 0 - t))).getD q 0 + t))).getD u 0 = wrap64 (x.getD u 0 + ((if p = u then -t else 0) + (if q = u then t else 0))) := by
    intro p q hp hq hpq
    rw [getD_set _ q u _ (by simp; omega), getD_set x p q _ (by omega), if_neg hpq, getD_set x p u _ (by omega)]
    by_cases e1 : q = u
    · rw [if_pos e1, if_pos e1, if_neg (by omega), e1]
      congr 1; omega
    · rw [if_neg e1, if_neg e1]
      by_cases e0 : p = u
      · rw [if_pos e0, if_pos e0, e0]
        congr 1; omega
      · rw [if_neg e0, if_neg e0]
        exact (in64_wrap h u 0).symm
  simp only [stepF, fE]
  by_cases a : e.f0.toNat = v
  · rw [if_pos a, if_pos a]
    exact key v e.f1.toNat (by omega) (by omega) (by omega)
  · rw [if_neg a, if_neg a]
    by_cases b : e.f1.toNat = v
    · rw [if_pos b, if_pos b]
      exact key v e.f0.toNat (by omega) (by omega) (by omega)
    · rw [if_neg b, if_neg b]
      exact (in64_wrap h u 0).symm
theorem foldF_get (n v : Nat) (t : Int) : ∀ (es : List S67) (x : List Int), (∀ e ∈ es, okE n e) → x.length = n → In64 x →
    (es.foldl (stepF v t) x).length = n ∧ ∀ u, (es.foldl (stepF v t) x).getD u 0 = wrap64 (x.getD u 0 + netF v t u es) := by
  intro es
  induction es with
  | nil => intro x _ hx h; exact ⟨hx, fun u => by simp only [List.foldl_nil, netF]; exact (in64_wrap h u 0).symm⟩
  | cons e es ih =>
    intro x he hx h
    have hs := stepF_get n v t x e (he e (by simp)) hx h
    have hi : In64 (stepF v t x e) := fun u => by rw [hs u]; exact wrap_wrap _
    obtain ⟨h1, h2⟩ := ih (stepF v t x e) (fun y hy => he y (by simp [hy])) (by rw [stepF_len]; exact hx) hi
    refine ⟨h1, fun u => ?_⟩
    simp only [List.foldl_cons, netF]
    rw [h2 u, hs u, wrap_wrap_add]
    congr 1; omega
theorem impl_fire_ev (n : Nat) (es : List S67) (x : List Int) (v : Nat) (t : Int) (he : ∀ e ∈ es, okE n e) (hx : x.length = n) (hn : n ≤ 6) (hl : es.length < 4611686018427387904) (nn : Int) :
    Ev (fun k => impl_fire.f k nn es x (v : Int) t) (es.foldl (stepF v t) x) := by
  simp only [impl_fire.f]
  refine ev_list0 es (fun k (x : List Int) i => impl_fire.l0 k x (v : Int) t es (es.length : Int) i) (fun x r => r.foldl (stepF v t) x) (fun x r => x.length = n) (fun x hx => ev1 fun k => ?_) (fun x e rest i hlt hdr hx => Or.inr ⟨stepF v t x e, by rw [stepF_len]; exact hx, rfl, 0, fun k _ => ?_⟩) x hx
  · simp only [impl_fire.l0]
    rw [if_neg (by omega)]; rfl
  · have hmem : e ∈ es := by
      have : e ∈ es.drop i := by rw [hdr]; simp
      exact List.mem_of_mem_drop this
    obtain ⟨h0, h1, h2⟩ := he e hmem
    simp only [impl_fire.l0, rd_IE hdr, Option.bind_some]
    rw [if_pos (by omega), if_pos (by omega), if_pos (by omega), wrap_succ (by omega)]
    simp only [stepF]
    by_cases a : e.f0.toNat = v
    · rw [if_pos (by omega), if_pos (by omega), if_pos (by omega), if_pos (by omega), if_pos (by omega), if_pos a]
      rfl
    · rw [if_neg (by omega), if_neg a]
      by_cases b : e.f1.toNat = v
      · rw [if_pos (by omega), if_pos (by omega), if_pos (by omega), if_pos (by omega), if_pos (by omega), if_pos b]
        rfl
      · rw [if_neg (by omega), if_neg b]
def fireFrom (es : List S67) : Nat → List Int → List Int → List Int
  | _, [], x => x
  | v, t :: ts, x => fireFrom es (v + 1) ts (es.foldl (stepF v t) x)
def sumF (es : List S67) (u : Nat) : Nat → List Int → Int
  | _, [] => 0
  | v, t :: ts => netF v t u es + sumF es u (v + 1) ts
theorem fireFrom_get (n : Nat) (es : List S67) (he : ∀ e ∈ es, okE n e) : ∀ (ts : List Int) (v : Nat) (x : List Int), x.length = n → In64 x →
    (fireFrom es v ts x).length = n ∧ ∀ u, (fireFrom es v ts x).getD u 0 = wrap64 (x.getD u 0 + sumF es u v ts) := by
  intro ts
  induction ts with
  | nil => intro v x hx h; exact ⟨hx, fun u => by simp only [fireFrom, sumF]; exact (in64_wrap h u 0).symm⟩
  | cons t ts ih =>
    intro v x hx h
    obtain ⟨h1, h2⟩ := foldF_get n v t es x he hx h
    have hi : In64 (es.foldl (stepF v t) x) := fun u => by rw [h2 u]; exact wrap_wrap _
    obtain ⟨h3, h4⟩ := ih (v + 1) _ h1 hi
    refine ⟨h3, fun u => ?_⟩
    simp only [fireFrom, sumF]
    rw [h4 u, h2 u, wrap_wrap_add]
    congr 1; omega
def sumV (u : Nat) (e : S67) : Nat → List Int → Int
  | _, [] => 0
  | v, t :: ts => fE v t u e + sumV u e (v + 1) ts
theorem sumF_cons (u : Nat) (e : S67) (es : List S67) : ∀ (ts : List Int) (v : Nat), sumF (e :: es) u v ts = sumV u e v ts + sumF es u v ts := by
  intro ts
  induction ts with
  | nil => intro v; rfl
  | cons t ts ih => intro v; simp only [sumF, sumV, netF, ih]; omega
theorem sumV_eq (u : Nat) (e : S67) (hne : e.f0.toNat ≠ e.f1.toNat) : ∀ (ts : List Int) (v : Nat), sumV u e v ts =
    (if v ≤ e.f0.toNat ∧ e.f0.toNat < v + ts.length then (if e.f0.toNat = u then -(ts.getD (e.f0.toNat - v) 0) else 0) + (if e.f1.toNat = u then ts.getD (e.f0.toNat - v) 0 else 0) else 0) +
    (if v ≤ e.f1.toNat ∧ e.f1.toNat < v + ts.length then (if e.f1.toNat = u then -(ts.getD (e.f1.toNat - v) 0) else 0) + (if e.f0.toNat = u then ts.getD (e.f1.toNat - v) 0 else 0) else 0) := by
  intro ts
  induction ts with
  | nil => intro v; simp only [sumV, List.length_nil]; rw [if_neg (by omega), if_neg (by omega)]; rfl
  | cons t ts ih =>
    intro v
    simp only [sumV, fE, ih, List.length_cons]
    by_cases a : e.f0.toNat = v
    · rw [if_pos a, if_neg (show ¬ (v + 1 ≤ e.f0.toNat ∧ e.f0.toNat < v + 1 + ts.length) by omega), if_pos (show v ≤ e.f0.toNat ∧ e.f0.toNat < v + (ts.length + 1) by omega), show e.f0.toNat - v = 0 by omega]
      simp only [List.getD_cons_zero]
      by_cases b : v + 1 ≤ e.f1.toNat ∧ e.f1.toNat < v + 1 + ts.length
      · rw [if_pos b, if_pos (show v ≤ e.f1.toNat ∧ e.f1.toNat < v + (ts.length + 1) by omega), show e.f1.toNat - v = (e.f1.toNat - (v + 1)) + 1 by omega]
        simp only [List.getD_cons_succ, a]
        omega
      · rw [if_neg b, if_neg (show ¬ (v ≤ e.f1.toNat ∧ e.f1.toNat < v + (ts.length + 1)) by omega)]
        simp only [a]
        omega
    · rw [if_neg a]
      by_cases b : e.f1.toNat = v
      · rw [if_pos b, if_neg (show ¬ (v + 1 ≤ e.f1.toNat ∧ e.f1.toNat < v + 1 + ts.length) by omega), if_pos (show v ≤ e.f1.toNat ∧ e.f1.toNat < v + (ts.length + 1) by omega), show e.f1.toNat - v = 0 by omega]
        simp only [List.getD_cons_zero]
        by_cases c : v + 1 ≤ e.f0.toNat ∧ e.f0.toNat < v + 1 + ts.length
        · rw [if_pos c, if_pos (show v ≤ e.f0.toNat ∧ e.f0.toNat < v + (ts.length + 1) by omega), show e.f0.toNat - v = (e.f0.toNat - (v + 1)) + 1 by omega]
          simp only [List.getD_cons_succ, b]
          omega
        · rw [if_neg c, if_neg (show ¬ (v ≤ e.f0.toNat ∧ e.f0.toNat < v + (ts.length + 1)) by omega)]
          simp only [b]
          omega
      · rw [if_neg b]
        have p1 : (v + 1 ≤ e.f0.toNat ∧ e.f0.toNat < v + 1 + ts.length) ↔ (v ≤ e.f0.toNat ∧ e.f0.toNat < v + (ts.length + 1)) := by omega
        have p2 : (v + 1 ≤ e.f1.toNat ∧ e.f1.toNat < v + 1 + ts.length) ↔ (v ≤ e.f1.toNat ∧ e.f1.toNat < v + (ts.length + 1)) := by omega
        by_cases q1 : v ≤ e.f0.toNat ∧ e.f0.toNat < v + (ts.length + 1)
        · rw [if_pos (p1.2 q1), if_pos q1, show e.f0.toNat - v = (e.f0.toNat - (v + 1)) + 1 by omega]
          simp only [List.getD_cons_succ]
          by_cases q2 : v ≤ e.f1.toNat ∧ e.f1.toNat < v + (ts.length + 1)
          · rw [if_pos (p2.2 q2), if_pos q2, show e.f1.toNat - v = (e.f1.toNat - (v + 1)) + 1 by omega]
            simp only [List.getD_cons_succ]
            omega
          · rw [if_neg (fun h => q2 (p2.1 h)), if_neg q2]; omega
        · rw [if_neg (fun h => q1 (p1.1 h)), if_neg q1]
          by_cases q2 : v ≤ e.f1.toNat ∧ e.f1.toNat < v + (ts.length + 1)
          · rw [if_pos (p2.2 q2), if_pos q2, show e.f1.toNat - v = (e.f1.toNat - (v + 1)) + 1 by omega]
            simp only [List.getD_cons_succ]
            omega
          · rw [if_neg (fun h => q2 (p2.1 h)), if_neg q2]; omega
theorem sumF_net (n : Nat) (s : List Int) (hs : s.length = n) (u : Nat) : ∀ es : List S67, (∀ e ∈ es, okE n e) → sumF es u 0 s = net s u es := by
  intro es
  induction es with
  | nil =>
    intro _
    have : ∀ (ts : List Int) (v : Nat), sumF ([] : List S67) u v ts = 0 := by
      intro ts
      induction ts with
      | nil => intro v; rfl
      | cons t ts ih => intro v; simp only [sumF, netF, ih]; rfl
    exact this s 0
  | cons e es ih =>
    intro he
    obtain ⟨h0, h1, h2⟩ := he e (by simp)
    rw [sumF_cons, ih (fun y hy => he y (by simp [hy])), sumV_eq u e (by omega)]
    simp only [net, cE]
    rw [if_pos (show 0 ≤ e.f0.toNat ∧ e.f0.toNat < 0 + s.length by omega), if_pos (show 0 ≤ e.f1.toNat ∧ e.f1.toNat < 0 + s.length by omega), Nat.sub_zero, Nat.sub_zero]
    by_cases a : e.f0.toNat = u
    · by_cases b : e.f1.toNat = u
      · omega
      · simp only [if_pos a, if_neg b]; omega
    · by_cases b : e.f1.toNat = u
      · simp only [if_neg a, if_pos b]; omega
      · simp only [if_neg a, if_neg b]; omega
theorem list_eq {x y : List Int} (h : x.length = y.length) (hu : ∀ u, x.getD u 0 = y.getD u 0) : x = y := by
  refine List.ext_getElem h fun i h1 h2 => ?_
  have := hu i
  simp only [List.getD_eq_getElem?_getD, List.getElem?_eq_getElem h1, List.getElem?_eq_getElem h2, Option.getD_some] at this
  exact this
theorem fired_same (n : Nat) (es : List S67) (d s : List Int) (he : ∀ e ∈ es, okE n e) (hd : d.length = n) (hs : s.length = n) (h : In64 d) : fireFrom es 0 s d = es.foldl (stepS s) d := by
  obtain ⟨h1, h2⟩ := foldS_get n s es d he hd h
  obtain ⟨h3, h4⟩ := fireFrom_get n es he s 0 d hd h
  refine list_eq (by omega) fun u => ?_
  rw [h2 u, h4 u, sumF_net n s hs u es he]
theorem allB_get {l : List Int} {lo hi : Int} (h : allB l lo hi = true) (hlo : lo ≤ 0) (hhi : 0 ≤ hi) (u : Nat) : lo ≤ l.getD u 0 ∧ l.getD u 0 ≤ hi := by
  simp only [allB, List.all_eq_true, decide_eq_true_eq] at h
  rw [List.getD_eq_getElem?_getD]
  rcases Nat.lt_or_ge u l.length with hu | hu
  · rw [List.getElem?_eq_getElem hu]
    exact h _ (List.getElem_mem hu)
  · rw [List.getElem?_eq_none hu]
    exact ⟨hlo, hhi⟩
end Go.Proofs.Ytbcfccdoffbncaa.Pure
end
section
set_option linter.unusedVariables false
set_option linter.unusedSimpArgs false
namespace Go.Proofs.Ytbcfccdoffbncaa.Pure
open Go.RowKit Go.Proofs.Ytbcfccdoffbncaa.P Go.Proofs.YtbcfccdoffbncaaW.PrintWords Go.Proofs.YtbcfccdoffbncaaW.PrintLast Go.Proofs.YtbcfccdoffbncaaW.PrintMore Go.Proofs.Ytbcfccdoffbncaa.Base Go.Proofs.Ytbcfccdoffbncaa.Reduce Go.Proofs.Ytbcfccdoffbncaa.Loops Go.Proofs.Ytbcfccdoffbncaa.Bits
def mE (n : Nat) (es : List S67) : Nat → Nat → Int := fun v w => multI n es v w
theorem multI_nonneg (n : Int) (es : List S67) (v w : Int) : 0 ≤ multI n es v w := by
  unfold multI
  split
  · exact Int.natCast_nonneg _
  · exact Int.le_refl _
theorem multI_symm (n : Int) (es : List S67) (v w : Int) : multI n es v w = multI n es w v := by
  have e1 : mn v w = mn w v := by unfold mn; split <;> split <;> omega
  have e2 : mx v w = mx w v := by unfold mx; split <;> split <;> omega
  unfold multI multN
  rw [e1, e2]
  by_cases h : 0 ≤ v ∧ v < n ∧ 0 ≤ w ∧ w < n ∧ v ≠ w
  · rw [if_pos h, if_pos (by omega)]
  · rw [if_neg h, if_neg (by omega)]
theorem multI_self (n : Int) (es : List S67) (v : Int) : multI n es v v = 0 := by
  unfold multI
  rw [if_neg (by omega)]
theorem multI_cons (n : Nat) (es : List S67) (e : S67) (he : okE n e) (v w : Nat) (hv : v < n) (hw : w < n) :
    multI n (e :: es) v w = multI n es v w + (if (e.f0.toNat = v ∧ e.f1.toNat = w) ∨ (e.f1.toNat = v ∧ e.f0.toNat = w) then 1 else 0) := by
  obtain ⟨h0, h1, h2⟩ := he
  by_cases hvw : v = w
  · subst hvw
    rw [multI_self, multI_self, if_neg (by omega)]; rfl
  · have hr : 0 ≤ (v : Int) ∧ (v : Int) < n ∧ 0 ≤ (w : Int) ∧ (w : Int) < n ∧ (v : Int) ≠ w := by omega
    unfold multI multN
    rw [if_pos hr, if_pos hr, List.countP_cons]
    have hiff : (decide (e.f0 = mn v w) && decide (e.f1 = mx v w)) = true ↔ ((e.f0.toNat = v ∧ e.f1.toNat = w) ∨ (e.f1.toNat = v ∧ e.f0.toNat = w)) := by
      rw [Bool.and_eq_true, decide_eq_true_eq, decide_eq_true_eq]
      unfold mn mx
      split <;> split <;> omega
    by_cases c : (e.f0.toNat = v ∧ e.f1.toNat = w) ∨ (e.f1.toNat = v ∧ e.f0.toNat = w)
    · rw [if_pos c, if_pos (hiff.2 c)]; omega
    · rw [if_neg c, if_neg (fun h => c (hiff.1 h))]; omega
theorem sum_ind (n j : Nat) (F : Nat → Int) (hj : j < n) : sumN (fun w => (if w = j then 1 else 0) * F w) n = F j := by
  have h := sumN_upd (fun _ => (0 : Int)) n j (F j) hj
  rw [sumN_zero] at h
  rw [← sumN_congr (f := fun i => if i = j then F j else 0) (fun i _ => ?_), h]
  · omega
  · by_cases e : i = j
    · subst e; simp
    · simp [e]
theorem lap_cons (n : Nat) (es : List S67) (e : S67) (he : okE n e) (v : Nat) (hv : v < n) (F : Nat → Int) :
    sumN (fun w => mE n (e :: es) v w * F w) n = sumN (fun w => mE n es v w * F w) n + (if e.f0.toNat = v then F e.f1.toNat else 0) + (if e.f1.toNat = v then F e.f0.toNat else 0) := by
  have hc := multI_cons n es e he v
  obtain ⟨h0, h1, h2⟩ := he
  have split_ : ∀ j : Nat, j < n → (∀ w, w < n → (((e.f0.toNat = v ∧ e.f1.toNat = w) ∨ (e.f1.toNat = v ∧ e.f0.toNat = w)) ↔ w = j)) → sumN (fun w => mE n (e :: es) v w * F w) n = sumN (fun w => mE n es v w * F w) n + F j := by
    intro j hj hiff
    rw [← sum_ind n j F hj, ← sumN_add]
    refine sumN_congr fun w hw => ?_
    show multI n (e :: es) v w * F w = multI n es v w * F w + _
    rw [hc w hv hw]
    by_cases c : w = j
    · rw [if_pos ((hiff w hw).2 c), if_pos c, Int.add_mul]
    · rw [if_neg (fun h => c ((hiff w hw).1 h)), if_neg c, Int.add_mul]
  by_cases a : e.f0.toNat = v
  · rw [if_pos a, if_neg (by omega), split_ e.f1.toNat (by omega) (fun w hw => by omega)]; omega
  · by_cases b : e.f1.toNat = v
    · rw [if_neg a, if_pos b, split_ e.f0.toNat (by omega) (fun w hw => by omega)]; omega
    · rw [if_neg a, if_neg b]
      have : sumN (fun w => mE n (e :: es) v w * F w) n = sumN (fun w => mE n es v w * F w) n := sumN_congr fun w hw => by
        show multI n (e :: es) v w * F w = multI n es v w * F w
        rw [hc w hv hw, if_neg (by omega)]; congr 1; omega
      rw [this]; omega
theorem mE_nil (n : Nat) (v : Nat) (F : Nat → Int) : sumN (fun w => mE n ([] : List S67) v w * F w) n = 0 := by
  rw [← sumN_zero n]
  refine sumN_congr fun w _ => ?_
  show multI n [] v w * F w = 0
  unfold multI multN
  split <;> simp
theorem net_lap (n : Nat) (s : List Int) (v : Nat) (hv : v < n) : ∀ es : List S67, (∀ e ∈ es, okE n e) → net s v es = - lap n (mE n es) (fun w => s.getD w 0) v := by
  have main : ∀ es : List S67, (∀ e ∈ es, okE n e) → net s v es = sumN (fun w => mE n es v w * (s.getD w 0 - s.getD v 0)) n := by
    intro es
    induction es with
    | nil => intro _; exact (mE_nil n v _).symm
    | cons e es ih =>
      intro he
      have h1 := he e (by simp)
      rw [lap_cons n es e h1 v hv (fun w => s.getD w 0 - s.getD v 0), ← ih (fun y hy => he y (by simp [hy]))]
      simp only [net, cE]
      by_cases a : e.f0.toNat = v
      · rw [if_pos a, if_pos a]
        obtain ⟨h0, h1, h2⟩ := h1
        rw [if_neg (by omega), if_neg (by omega), a]; omega
      · rw [if_neg a, if_neg a]
        by_cases b : e.f1.toNat = v
        · rw [if_pos b, if_pos b, b]; omega
        · rw [if_neg b, if_neg b]; omega
  intro es he
  rw [main es he]
  unfold lap
  have : sumN (fun w => mE n es v w * (s.getD v 0 - s.getD w 0)) n = sumN (fun w => (-1) * (mE n es v w * (s.getD w 0 - s.getD v 0))) n := sumN_congr fun w _ => by
    rw [show s.getD v 0 - s.getD w 0 = -(s.getD w 0 - s.getD v 0) by omega, Int.mul_neg]; omega
  rw [this, sumN_mul]; omega
theorem val_le (n : Nat) (v : Nat) (hv : v < n) : ∀ es : List S67, (∀ e ∈ es, okE n e) → sumN (mE n es v) n ≤ es.length := by
  intro es
  induction es with
  | nil =>
    intro _
    have := mE_nil n v (fun _ => 1)
    simp only [Int.mul_one] at this
    rw [show sumN (mE n ([] : List S67) v) n = 0 from this]; simp
  | cons e es ih =>
    intro he
    have h1 := he e (by simp)
    have h := lap_cons n es e h1 v hv (fun _ => 1)
    have i := ih (fun y hy => he y (by simp [hy]))
    simp only [Int.mul_one] at h
    obtain ⟨h0, h1, h2⟩ := h1
    rw [show sumN (mE n (e :: es) v) n = _ from h]
    rw [List.length_cons]
    by_cases a : e.f0.toNat = v
    · rw [if_pos a, if_neg (by omega)]
      have : sumN (fun w => mE n es v w) n = sumN (mE n es v) n := rfl
      omega
    · rw [if_neg a]
      have : sumN (fun w => mE n es v w) n = sumN (mE n es v) n := rfl
      by_cases b : e.f1.toNat = v
      · rw [if_pos b]; omega
      · rw [if_neg b]; omega
theorem mE_pos (n : Nat) (es : List S67) (e : S67) (he : e ∈ es) (hb : okE n e) : 0 < mE n es e.f0.toNat e.f1.toNat := by
  obtain ⟨h0, h1, h2⟩ := hb
  show 0 < multI n es _ _
  unfold multI multN
  rw [if_pos (by omega)]
  have e1 : mn (e.f0.toNat : Int) (e.f1.toNat : Int) = e.f0 := by unfold mn; split <;> omega
  have e2 : mx (e.f0.toNat : Int) (e.f1.toNat : Int) = e.f1 := by unfold mx; split <;> omega
  rw [e1, e2]
  have : 0 < es.countP fun x => decide (x.f0 = e.f0) && decide (x.f1 = e.f1) := List.countP_pos_iff.2 ⟨e, he, by simp⟩
  omega
theorem gr_of (n : Nat) (es : List S67) (h : GraphP n es) : Gr n (mE n es) := by
  obtain ⟨f1, f2, f3, f4⟩ := edgesB_facts h.1
  refine ⟨by omega, by omega, fun v w => multI_symm _ _ _ _, fun v w => multI_nonneg _ _ _ _, fun v => multI_self _ _ _, fun v hv => ?_, fun P hP hcl v hv => ?_⟩
  · have := val_le n v hv es f4
    omega
  · have := h.2.2 (fun i => P i.toNat) hP (fun e he => by
      obtain ⟨h0, h1, h2⟩ := f4 e he
      have hp := mE_pos n es e he ⟨h0, h1, h2⟩
      have hp' : 0 < mE n es e.f1.toNat e.f0.toNat := by
        have : mE n es e.f1.toNat e.f0.toNat = mE n es e.f0.toNat e.f1.toNat := multI_symm _ _ _ _
        omega
      exact ⟨fun h => hcl _ _ (by omega) (by omega) hp h, fun h => hcl _ _ (by omega) (by omega) hp' h⟩) v (by omega) (by omega)
    simpa using this
end Go.Proofs.Ytbcfccdoffbncaa.Pure
end
section
set_option linter.unusedVariables false
set_option linter.unusedSimpArgs false
namespace Go.Proofs.Ytbcfccdoffbncaa.Pure
open Go.RowKit Go.Proofs.Ytbcfccdoffbncaa.P Go.Proofs.YtbcfccdoffbncaaW.PrintWords Go.Proofs.YtbcfccdoffbncaaW.PrintLast Go.Proofs.YtbcfccdoffbncaaW.PrintMore Go.Proofs.Ytbcfccdoffbncaa.Base Go.Proofs.Ytbcfccdoffbncaa.Loops
def valN (es : List S67) (v : Int) : Nat := es.countP fun e => decide (e.f0 = v) || decide (e.f1 = v)
def valI (n : Int) (es : List S67) (v : Int) : Int := if 0 ≤ v ∧ v < n then (valN es v : Int) else 0
theorem val_loop (es : List S67) (hl : es.length < 4611686018427387904) (v : Int) (g : Nat → Int → Int → Option Int)
    (hg : ∀ k c i, g (k + 1) c i = if i < (es.length : Int) then (if 0 ≤ i then (if i < (es.length : Int) then (if ((rd_T67 es i).f0) = v then (g k (wrap64 (c + 1)) (wrap64 (i + 1))) else (if ((rd_T67 es i).f1) = v then (g k (wrap64 (c + 1)) (wrap64 (i + 1))) else (g k c (wrap64 (i + 1))))) else (none)) else (none)) else (some c)) :
    Ev (fun k => g k 0 0) (valN es v : Int) := by
  have h := ev_list es (fun k (c : Int) i => g k c i) (fun c r => c + (r.countP fun e => decide (e.f0 = v) || decide (e.f1 = v) : Nat)) (fun c r => 0 ≤ c ∧ c + r.length ≤ es.length) (fun s _ => ev1 fun k => ?_) (fun s e rest i hlt hd hinv => Or.inr ?_) es 0 0 (by omega) rfl (by simp)
  · simpa [valN] using h
  · rw [hg, if_neg (by omega)]; simp
  · simp only [List.length_cons] at hinv
    by_cases hc : e.f0 = v ∨ e.f1 = v
    · refine ⟨s + 1, by omega, ?_, 0, fun k _ => ?_⟩
      · rw [List.countP_cons_of_pos (by simp [hc])]; omega
      · rw [hg, if_pos (by omega), if_pos (by omega), if_pos (by omega), rd_IE hd, wrap_succ (by omega), wrap_id (by omega) (by omega)]
        by_cases h1 : e.f0 = v
        · rw [if_pos h1]
        · rw [if_neg h1, if_pos (by omega)]
    · refine ⟨s, by omega, ?_, 0, fun k _ => ?_⟩
      · rw [List.countP_cons_of_neg (by simp; omega)]
      · rw [hg, if_pos (by omega), if_pos (by omega), if_pos (by omega), rd_IE hd, wrap_succ (by omega), if_neg (by omega), if_neg (by omega)]
theorem impl_val_ev (n : Int) (es : List S67) (hl : es.length < 4611686018427387904) (v : Int) : Ev (fun k => impl_Valence.f k n es v) (valI n es v) := by
  simp only [impl_Valence.f]
  have off : ∀ q : Bool, q = true → Ev (fun k => impl_Valence.j0 k v q n es) 0 := fun q hq => ev1 fun k => by
    simp only [impl_Valence.j0, hq, if_true]
  by_cases h1 : v < 0
  · simp only [if_pos h1]
    rw [valI, if_neg (by omega)]
    exact off _ rfl
  · simp only [if_neg h1]
    by_cases h2 : v ≥ n
    · rw [valI, if_neg (by omega)]
      exact off _ (by simp; omega)
    · rw [valI, if_pos (by omega)]
      obtain ⟨K, hK⟩ := val_loop es hl v (fun k c i => impl_Valence.l0 k v c es (es.length : Int) i) (fun k c i => by simp only [impl_Valence.l0])
      refine ⟨K + 1, fun k hk => ?_⟩
      obtain ⟨m, rfl⟩ : ∃ m, k = m + 1 := ⟨k - 1, by omega⟩
      have h2 := hK m (by omega)
      dsimp only at h2 ⊢
      simp only [impl_Valence.j0]
      rw [if_neg (by simp; omega), h2]
end Go.Proofs.Ytbcfccdoffbncaa.Pure
end
section
set_option linter.unusedVariables false
set_option linter.unusedSimpArgs false
namespace Go.Proofs.Ytbcfccdoffbncaa.Pure
open Go.RowKit Go.Proofs.Ytbcfccdoffbncaa.P Go.Proofs.YtbcfccdoffbncaaW.PrintWords Go.Proofs.YtbcfccdoffbncaaW.PrintLast Go.Proofs.YtbcfccdoffbncaaW.PrintMore Go.Proofs.Ytbcfccdoffbncaa.Base Go.Proofs.Ytbcfccdoffbncaa.Reduce Go.Proofs.Ytbcfccdoffbncaa.Loops Go.Proofs.Ytbcfccdoffbncaa.Bits
def XD (es : List S67) (D s : List Int) : List Int := es.foldl (stepS s) D
def addAt (s : List Int) (v : Nat) (t : Int) : List Int := s.set v (s.getD v 0 + t)
theorem cE_addAt (n : Nat) (s : List Int) (v : Nat) (t : Int) (hs : s.length = n) (hv : v < n) (u : Nat) (e : S67) (he : okE n e) : cE (addAt s v t) u e = cE s u e + fE v t u e := by
  obtain ⟨h0, h1, h2⟩ := he
  have g : ∀ j, (addAt s v t).getD j 0 = s.getD j 0 + (if v = j then t else 0) := by
    intro j
    unfold addAt
    rw [getD_set _ _ _ _ (by omega)]
    by_cases e : v = j
    · rw [if_pos e, if_pos e, e]
    · rw [if_neg e, if_neg e]; omega
  simp only [cE, fE, g]
  (repeat' split) <;> omega
theorem net_addAt (n : Nat) (s : List Int) (v : Nat) (t : Int) (hs : s.length = n) (hv : v < n) (u : Nat) : ∀ es : List S67, (∀ e ∈ es, okE n e) → net (addAt s v t) u es = net s u es + netF v t u es := by
  intro es
  induction es with
  | nil => intro _; rfl
  | cons e es ih =>
    intro he
    simp only [net, netF]
    rw [cE_addAt n s v t hs hv u e (he e (by simp)), ih (fun y hy => he y (by simp [hy]))]
    omega
theorem xd_len (n : Nat) (es : List S67) (D s : List Int) (he : ∀ e ∈ es, okE n e) (hD : D.length = n) (h : In64 D) : (XD es D s).length = n := (foldS_get n s es D he hD h).1
theorem xd_get (n : Nat) (es : List S67) (D s : List Int) (he : ∀ e ∈ es, okE n e) (hD : D.length = n) (h : In64 D) (u : Nat) : (XD es D s).getD u 0 = wrap64 (D.getD u 0 + net s u es) := (foldS_get n s es D he hD h).2 u
theorem xd_in64 (n : Nat) (es : List S67) (D s : List Int) (he : ∀ e ∈ es, okE n e) (hD : D.length = n) (h : In64 D) : In64 (XD es D s) := fun u => by
  rw [xd_get n es D s he hD h u]; exact wrap_wrap _
theorem xd_fire (n : Nat) (es : List S67) (D s : List Int) (he : ∀ e ∈ es, okE n e) (hD : D.length = n) (hs : s.length = n) (h : In64 D) (v : Nat) (hv : v < n) (t : Int) : es.foldl (stepF v t) (XD es D s) = XD es D (addAt s v t) := by
  have h1 := foldF_get n v t es (XD es D s) he (xd_len n es D s he hD h) (xd_in64 n es D s he hD h)
  refine list_eq (by rw [h1.1, xd_len n es D _ he hD h]) fun u => ?_
  rw [h1.2 u, xd_get n es D s he hD h u, xd_get n es D _ he hD h u, net_addAt n s v t hs hv u es he, wrap_wrap_add]
  congr 1; omega
theorem val_sum (n : Nat) (v : Nat) (hv : v < n) : ∀ es : List S67, (∀ e ∈ es, okE n e) → valI n es v = sumN (mE n es v) n := by
  have main : ∀ es : List S67, (∀ e ∈ es, okE n e) → (valN es v : Int) = sumN (mE n es v) n := by
    intro es
    induction es with
    | nil =>
      intro _
      have := mE_nil n v (fun _ => 1)
      simp only [Int.mul_one] at this
      rw [show sumN (mE n ([] : List S67) v) n = 0 from this]; rfl
    | cons e es ih =>
      intro he
      have h1 := he e (by simp)
      have h := lap_cons n es e h1 v hv (fun _ => 1)
      have i := ih (fun y hy => he y (by simp [hy]))
      simp only [Int.mul_one] at h
      rw [show sumN (mE n (e :: es) v) n = _ from h, show sumN (fun w => mE n es v w) n = sumN (mE n es v) n from rfl, ← i]
      obtain ⟨h0, h1, h2⟩ := h1
      unfold valN
      rw [List.countP_cons]
      have hp : (decide (e.f0 = (v : Int)) || decide (e.f1 = (v : Int))) = true ↔ (e.f0.toNat = v ∨ e.f1.toNat = v) := by
        rw [Bool.or_eq_true, decide_eq_true_eq, decide_eq_true_eq]; omega
      by_cases a : e.f0.toNat = v
      · rw [if_pos a, if_neg (show ¬ e.f1.toNat = v by omega), if_pos (hp.2 (Or.inl a))]; omega
      · by_cases b : e.f1.toNat = v
        · rw [if_neg a, if_pos b, if_pos (hp.2 (Or.inr b))]; omega
        · rw [if_neg a, if_neg b, if_neg (fun h => (hp.1 h).elim a b)]; omega
  intro es he
  unfold valI
  rw [if_pos (by omega)]
  exact main es he
theorem lap_bound (n : Nat) (es : List S67) (h : GraphP n es) (s : Nat → Int) (B : Int) (hB : 0 ≤ B) (hs : ∀ w, w < n → -B ≤ s w ∧ s w ≤ B) (v : Nat) (hv : v < n) : -(24 * B) ≤ lap n (mE n es) s v ∧ lap n (mE n es) s v ≤ 24 * B := by
  have G := gr_of n es h
  have h1 : lap n (mE n es) s v ≤ sumN (fun w => mE n es v w * (2 * B)) n := by
    unfold lap
    refine sumN_le fun w hw => Int.mul_le_mul_of_nonneg_left ?_ (G.nonneg v w)
    have := hs w hw; have := hs v hv; omega
  have h2 : sumN (fun w => mE n es v w * (-(2 * B))) n ≤ lap n (mE n es) s v := by
    unfold lap
    refine sumN_le fun w hw => Int.mul_le_mul_of_nonneg_left ?_ (G.nonneg v w)
    have := hs w hw; have := hs v hv; omega
  rw [sumN_mul'] at h1 h2
  have h3 := G.val v hv
  have h4 : 0 ≤ sumN (mE n es v) n := sumN_nonneg fun i _ => G.nonneg v i
  have e1 : sumN (fun i => mE n es v i) n = sumN (mE n es v) n := rfl
  rw [e1] at h1 h2
  have h5 : sumN (mE n es v) n * (2 * B) ≤ 12 * (2 * B) := Int.mul_le_mul_of_nonneg_right h3 (by omega)
  rw [Int.mul_neg] at h2
  omega
theorem xd_val (n : Nat) (es : List S67) (D s : List Int) (h : GraphP n es) (hD : D.length = n) (hs : s.length = n) (hD0 : ∀ u : Nat, -60 ≤ D.getD u 0 ∧ D.getD u 0 ≤ 60) (B : Int) (hB : 0 ≤ B) (hB2 : B ≤ 1000000000000) (hsB : ∀ w, -B ≤ s.getD w 0 ∧ s.getD w 0 ≤ B) (u : Nat) (hu : u < n) :
    (XD es D s).getD u 0 = D.getD u 0 - lap n (mE n es) (fun w => s.getD w 0) u := by
  have he := (edgesB_facts h.1).2.2.2
  have h64 : In64 D := fun u => wrap_id (by have := hD0 u; omega) (by have := hD0 u; omega)
  rw [xd_get n es D s he hD h64 u, net_lap n s u hu es he]
  have := lap_bound n es h (fun w => s.getD w 0) B hB (fun w _ => hsB w) u hu
  have := hD0 u
  rw [wrap_id (by omega) (by omega)]; omega
end Go.Proofs.Ytbcfccdoffbncaa.Pure
end
section
namespace Go.Proofs.Ytbcfccdoffbncaa.P
open Go.RowKit Go.Proofs.YtbcfccdoffbncaaW.PrintWords Go.Proofs.YtbcfccdoffbncaaW.PrintLast Go.Proofs.YtbcfccdoffbncaaW.PrintMore
attribute [local go_sem] max2_int min2_int max_two min_two max_three min_three max_four min_four
set_option linter.unusedVariables false
set_option linter.unusedSimpArgs false
mutual
def spec_l05Burn.l0 : Nat → List Int → List Int → List Bool → Int → List (S67) → Option (List Int)
 | 0, _, _, _, _, _ => none
 | k + 1, x1, x7, x8, x128000, x128001 => spec_l05Burn.l1 k x1 x7 x8 (-1) (wrap64 (x128000 - 1)) x128000 x128001
def spec_l05Burn.l1 : Nat → List Int → List Int → List Bool → Int → Int → Int → List (S67) → Option (List Int)
 | 0, _, _, _, _, _, _, _ => none
 | k + 1, x1, x7, x8, x9, x10, x128000, x128001 => if x10 ≥ 0 then (spec_l05Burn.l2 k x1 x7 x8 x9 x10 0 0 x128000 x128001) else (if x9 < 0 then (some x7) else (if 0 ≤ x9 then (if x9 < (x8.length : Int) then (if x7.length < 17592186044416 then (spec_l05Burn.l0 k x1 (x7 ++ [x9]) (x8.set (x9 : Int).toNat true) x128000 x128001) else (none)) else (none)) else (none)))
def spec_l05Burn.l2 : Nat → List Int → List Int → List Bool → Int → Int → Int → Int → Int → List (S67) → Option (List Int)
 | 0, _, _, _, _, _, _, _, _, _ => none
 | k + 1, x1, x7, x8, x9, x10, x11, x12, x128000, x128001 => if x12 < x128000 then (if 0 ≤ x12 then (if x12 < (x8.length : Int) then (if rdOf false x8 x12 = true then ((spec_Multiplicity.f k x128000 x128001 x10 x12).bind fun t136 => (spec_l05Burn.l2 k x1 x7 x8 x9 x10 (wrap64 (x11 + t136)) (wrap64 (x12 + 1)) x128000 x128001)) else (spec_l05Burn.l2 k x1 x7 x8 x9 x10 x11 (wrap64 (x12 + 1)) x128000 x128001)) else (none)) else (none)) else (if 0 ≤ x10 then (if x10 < (x8.length : Int) then (if rdOf false x8 x10 = true then (spec_l05Burn.l1 k x1 x7 x8 x9 (wrap64 (x10 - 1)) x128000 x128001) else (if x10 < (x1.length : Int) then (if (rd x1 x10) < x11 then (spec_l05Burn.l1 k x1 x7 x8 x10 (wrap64 (x10 - 1)) x128000 x128001) else (spec_l05Burn.l1 k x1 x7 x8 x9 (wrap64 (x10 - 1)) x128000 x128001)) else (none))) else (none)) else (none))
end
def spec_l05Burn.f (k : Nat) (a0_0 : Int) (l0_1 : List (S67)) (l1 : List Int) (a2 : Int) : Option (List Int) := if 0 ≤ a0_0 then (if (a0_0 : Int).toNat ≤ 281474976710656 then ((some (List.replicate (a0_0 : Int).toNat false : List Bool)).bind fun y131 => (if 0 ≤ a2 then (if a2 < (y131.length : Int) then (spec_l05Burn.l0 k l1 (([a2] : List Int)) (y131.set (a2 : Int).toNat true) a0_0 l0_1) else (none)) else (none))) else (none)) else (none)
end Go.Proofs.Ytbcfccdoffbncaa.P
end
section
set_option linter.unusedVariables false
set_option linter.unusedSimpArgs false
namespace Go.Proofs.Ytbcfccdoffbncaa.Pure
open Go.RowKit Go.Proofs.Ytbcfccdoffbncaa.P Go.Proofs.YtbcfccdoffbncaaW.PrintWords Go.Proofs.YtbcfccdoffbncaaW.PrintLast Go.Proofs.YtbcfccdoffbncaaW.PrintMore Go.Proofs.Ytbcfccdoffbncaa.Base Go.Proofs.Ytbcfccdoffbncaa.Loops Go.Proofs.Ytbcfccdoffbncaa.Bits
def sumQ (n : Int) (es : List S67) (v : Int) : List Int → Int
  | [] => 0
  | w :: q => multI n es v w + sumQ n es v q
theorem multI_b (n : Int) (es : List S67) (v w : Int) : 0 ≤ multI n es v w ∧ multI n es v w ≤ es.length := by
  unfold multI
  split
  · have : multN es v w ≤ es.length := List.countP_le_length
    omega
  · omega
theorem sumQ_b (n : Int) (es : List S67) (v : Int) : ∀ q : List Int, 0 ≤ sumQ n es v q ∧ sumQ n es v q ≤ es.length * q.length := by
  intro q
  induction q with
  | nil => simp [sumQ]
  | cons w q ih =>
    have := multI_b n es v w
    simp only [sumQ, List.length_cons]
    rw [Int.natCast_add, Int.mul_add]
    simp only [Int.natCast_one, Int.mul_one]
    omega
def sumB (n : Int) (es : List S67) (v : Int) (q : List Int) : Nat → Int
  | 0 => 0
  | i + 1 => sumB n es v q i + (if (i : Int) ∈ q then multI n es v i else 0)
theorem sumB_nil (n : Int) (es : List S67) (v : Int) : ∀ m, sumB n es v [] m = 0 := by
  intro m
  induction m with
  | zero => rfl
  | succ m ih => simp [sumB, ih]
theorem sumB_cons (n : Int) (es : List S67) (v : Int) (x : Int) (q : List Int) (hx : x ∉ q) (h0 : 0 ≤ x) : ∀ m : Nat, sumB n es v (x :: q) m = sumB n es v q m + (if x < m then multI n es v x else 0) := by
  intro m
  induction m with
  | zero => simp only [sumB]; rw [if_neg (by omega)]; rfl
  | succ m ih =>
    simp only [sumB, ih, List.mem_cons]
    by_cases e : (m : Int) = x
    · subst e
      rw [if_neg (Int.lt_irrefl (m : Int)), if_pos (Or.inl rfl : (m : Int) = m ∨ (m : Int) ∈ q), if_neg hx, if_pos (show (m : Int) < ((m + 1 : Nat) : Int) by omega)]; try omega
    · have g2 : x < ((m + 1 : Nat) : Int) ↔ x < (m : Int) := by omega
      by_cases c : (m : Int) ∈ q
      · rw [if_pos (Or.inr c : (m : Int) = x ∨ (m : Int) ∈ q), if_pos c]
        by_cases g : x < m
        · rw [if_pos g, if_pos (g2.2 g)]; try omega
        · rw [if_neg g, if_neg (fun h => g (g2.1 h))]; try omega
      · rw [if_neg (show ¬ ((m : Int) = x ∨ (m : Int) ∈ q) from fun h => h.elim e c), if_neg c]
        by_cases g : x < m
        · rw [if_pos g, if_pos (g2.2 g)]; try omega
        · rw [if_neg g, if_neg (fun h => g (g2.1 h))]; try omega
theorem sumB_eq (n : Int) (es : List S67) (v : Int) (m : Nat) : ∀ q : List Int, q.Nodup → (∀ w ∈ q, 0 ≤ w ∧ w < m) → sumB n es v q m = sumQ n es v q := by
  intro q
  induction q with
  | nil => intro _ _; exact sumB_nil n es v m
  | cons x q ih =>
    intro hd hr
    rw [List.nodup_cons] at hd
    have hx := hr x (by simp)
    rw [sumB_cons n es v x q hd.1 hx.1 m, ih hd.2 (fun w hw => hr w (by simp [hw])), if_pos hx.2]
    simp only [sumQ]; omega
def hotB (n : Int) (es : List S67) (d q : List Int) (v : Nat) : Bool := !decide ((v : Int) ∈ q) && decide (d.getD v 0 < sumQ n es v q)
def lowB (P : Nat → Bool) : Nat → Nat → Int
  | _, 0 => -1
  | i, c + 1 => if P i = true then (i : Int) else lowB P (i + 1) c
theorem lowB_spec (P : Nat → Bool) : ∀ (c i : Nat), (lowB P i c = -1 ∧ ∀ j, i ≤ j → j < i + c → P j = false) ∨ ∃ j : Nat, lowB P i c = j ∧ i ≤ j ∧ j < i + c ∧ P j = true := by
  intro c
  induction c with
  | zero => intro i; exact Or.inl ⟨rfl, fun j h1 h2 => by omega⟩
  | succ c ih =>
    intro i
    simp only [lowB]
    by_cases h : P i = true
    · rw [if_pos h]; exact Or.inr ⟨i, rfl, Nat.le_refl _, by omega, h⟩
    · rw [if_neg h]
      rcases ih (i + 1) with ⟨h1, h2⟩ | ⟨j, h1, h2, h3, h4⟩
      · refine Or.inl ⟨h1, fun j h3 h4 => ?_⟩
        by_cases e : j = i
        · subst e; simpa using h
        · exact h2 j (by omega) (by omega)
      · exact Or.inr ⟨j, h1, by omega, by omega, h4⟩
theorem index_ev (q : List Int) (x : Int) (hq : q.length < 4611686018427387904) : ∃ t : Int, Ev (fun k => slices_Index_int_int.f k q x) t ∧ (t ≥ 0 ↔ x ∈ q) := by
  simp only [slices_Index_int_int.f]
  have main : ∀ (rest : List Int) (i : Nat), i ≤ q.length → q.drop i = rest → ∃ t : Int, Ev (fun k => slices_Index_int_int.l0 k q x (q.length : Int) (i : Int)) t ∧ (t ≥ 0 ↔ x ∈ rest) := by
    intro rest
    induction rest with
    | nil =>
      intro i hi hd
      have := drop_nil hd
      refine ⟨-1, ev1 fun k => ?_, by simp⟩
      simp only [slices_Index_int_int.l0]
      rw [if_neg (by omega)]
    | cons a rest ih =>
      intro i hi hd
      have hlt := drop_lt hd
      by_cases e : x = a
      · refine ⟨i, ev1 fun k => ?_, by simp [e]⟩
        simp only [slices_Index_int_int.l0, rd_drop hd]
        rw [if_pos (by omega), if_pos (by omega), if_pos (by omega), if_pos e]
      · obtain ⟨t, h1, h2⟩ := ih (i + 1) (by omega) (drop_next hd)
        refine ⟨t, ev_succ ?_, by rw [h2]; simp [e]⟩
        simp only [slices_Index_int_int.l0, rd_drop hd, wrap_succ (show i < 4611686018427387904 by omega)]
        exact ev_ift (by omega) (ev_ift (by omega) (ev_ift (by omega) (ev_ifn e h1)))
  exact main q 0 (by omega) rfl
theorem contains_ev (q : List Int) (x : Int) (hq : q.length < 4611686018427387904) : Ev (fun k => slices_Contains_int_int.f k q x) (decide (x ∈ q)) := by
  obtain ⟨t, h1, h2⟩ := index_ev q x hq
  simp only [slices_Contains_int_int.f]
  refine Ev.bind h1 ?_
  rw [show decide (t ≥ 0) = decide (x ∈ q) by simp [h2]]
  exact Ev.now _
def BInv (n : Nat) (q : List Int) : Prop := q.Nodup ∧ ∀ v ∈ q, 0 ≤ v ∧ v < n
theorem binv_len {n : Nat} {q : List Int} (h : BInv n q) : q.length ≤ n := by
  have := List.Nodup.length_le_of_subset h.1 (l₂ := (List.range n).map fun i : Nat => (i : Int)) (fun v hv => by
    have hb := h.2 v hv
    exact List.mem_map.2 ⟨v.toNat, by simp; omega, by omega⟩)
  simpa using this
theorem binv_add {n : Nat} {q : List Int} (h : BInv n q) {v : Int} (hv : v ∉ q) (hb : 0 ≤ v ∧ v < n) : BInv n (q ++ [v]) := by
  refine ⟨?_, fun x hx => ?_⟩
  · rw [List.nodup_append]
    refine ⟨h.1, by simp, fun a ha b hb' => ?_⟩
    simp at hb'
    subst hb'
    intro e'
    subst e'
    exact hv ha
  · rcases List.mem_append.1 hx with hx | hx
    · exact h.2 x hx
    · simp at hx; subst hx; exact hb
theorem impl_next (n : Nat) (hn : n ≤ 6) (es : List S67) (hl : es.length ≤ 12) (d q : List Int) (hd : d.length = n) (hq : BInv n q) (r : List Int)
    (hstop : lowB (hotB n es d q) 0 n = -1 → r = q)
    (hgo : ∀ v : Nat, lowB (hotB n es d q) 0 n = v → Ev (fun k => impl_burn.l0 k d (q ++ [(v : Int)]) n es) r) :
    Ev (fun k => impl_burn.l0 k d q n es) r := by
  have hql := binv_len hq
  have stop : ∀ (x : Int) (i : Nat), x = lowB (hotB n es d q) 0 n → Ev (fun k => impl_burn.j2 k d q x (i : Int) false n es) r := by
    intro x i hx
    refine ev_succ ?_
    simp only [impl_burn.j2]
    refine ev_iff ?_
    rcases lowB_spec (hotB n es d q) n 0 with ⟨h1, _⟩ | ⟨j, h1, _, _, _⟩
    · rw [hx, h1, hstop h1]
      exact ev_ift (by omega) (Ev.now _)
    · rw [hx, h1]
      exact ev_ifn (by omega) (ev_ift (by omega) (hgo j h1))
  have main : ∀ (c i : Nat), i + c = n → lowB (hotB n es d q) i c = lowB (hotB n es d q) 0 n → Ev (fun k => impl_burn.l1 k d q (-1) (i : Int) n es) r := by
    intro c
    induction c with
    | zero =>
      intro i hi hlow
      refine ev_succ ?_
      simp only [impl_burn.l1]
      exact ev_ifn (by omega) (stop (-1) i hlow)
    | succ c ih =>
      intro i hi hlow
      refine ev_succ ?_
      simp only [impl_burn.l1]
      refine ev_ift (by omega) (ev_succ ?_)
      simp only [impl_burn.j2]
      refine ev_ift (by decide) ?_
      have hin : ∀ s, s = sumQ n es i q → Ev (fun k => impl_burn.l2 k d q (-1) (i : Int) s q (q.length : Int) (q.length : Int) n es) r := by
        intro s hs
        subst hs
        refine ev_succ ?_
        simp only [impl_burn.l2]
        refine ev_ifn (by omega) (Ev.bind (contains_ev q i (by omega)) ?_)
        simp only [lowB] at hlow
        by_cases hc : (i : Int) ∈ q
        · have hf : hotB n es d q i = false := by simp [hotB, hc]
          rw [hf] at hlow
          simp only [Bool.false_eq_true, if_false] at hlow
          simp only [wrap_succ (show i < 4611686018427387904 by omega)]
          exact ev_ift (by simp [hc]) (ih (i + 1) (by omega) hlow)
        · refine ev_ifn (by simp [hc]) (ev_ift (by omega) (ev_ift (by omega) ?_))
          by_cases hlt : d.getD i 0 < sumQ n es i q
          · have hf : hotB n es d q i = true := by simp only [hotB, decide_eq_true hlt, Bool.and_true, decide_eq_false hc, Bool.not_false]
            rw [if_pos hf] at hlow
            refine ev_ift hlt (ev_succ ?_)
            simp only [impl_burn.l1, wrap_succ (show i < 4611686018427387904 by omega)]
            by_cases hi2 : i + 1 < n
            · rw [show decide ((i : Int) < 0) = false by simp]
              exact ev_ift (by omega) (stop i (i + 1) hlow)
            · exact ev_ifn (by omega) (stop i (i + 1) hlow)
          · have hf : hotB n es d q i = false := by simp only [hotB, decide_eq_false hlt, Bool.and_false]
            rw [hf] at hlow
            simp only [Bool.false_eq_true, if_false] at hlow
            simp only [wrap_succ (show i < 4611686018427387904 by omega)]
            exact ev_ifn hlt (ih (i + 1) (by omega) hlow)
      refine ev_listE q (fun k (s : Int) j => impl_burn.l2 k d q (-1) (i : Int) s q (q.length : Int) j n es) (fun _ _ => r) (fun s rest => 0 ≤ s ∧ s + sumQ n es i rest = sumQ n es i q) (fun s hs => hin s (by simpa [sumQ] using hs.2)) (fun s w rest j hj hdr hs => ?_) 0 (by simp)
      refine Or.inr ⟨s + multI n es i w, ?_, rfl, fun r' hr' => ev_succ ?_⟩
      · have := multI_b n es i w
        simp only [sumQ] at hs
        omega
      · have hb := multI_b n es i w
        have hb2 := sumQ_b n es i q
        have hb3 := sumQ_b n es i rest
        have hb4 : (es.length : Int) * (q.length : Int) ≤ 12 * 6 := Int.mul_le_mul (by omega) (by omega) (by omega) (by omega)
        simp only [sumQ] at hs
        simp only [impl_burn.l2, rd_drop hdr, wrap_succ (show j < 4611686018427387904 by omega)]
        refine ev_ift (by omega) (ev_ift (by omega) (ev_ift (by omega) (Ev.bind (impl_mult_ev n es (by omega) i w) ?_)))
        rw [wrap_id (by omega) (by omega)]
        exact hr'
  refine ev_succ ?_
  simp only [impl_burn.l0]
  exact main n 0 (by omega) rfl
theorem spec_next (n : Nat) (hn : n ≤ 6) (es : List S67) (hl : es.length ≤ 12) (d q : List Int) (b : List Bool) (hd : d.length = n) (hq : BInv n q) (hb : b.length = n) (hbq : ∀ v : Nat, b.getD v false = decide ((v : Int) ∈ q)) (r : List Int)
    (hstop : lowB (hotB n es d q) 0 n = -1 → r = q)
    (hgo : ∀ v : Nat, lowB (hotB n es d q) 0 n = v → Ev (fun k => spec_l05Burn.l0 k d (q ++ [(v : Int)]) (b.set v true) n es) r) :
    Ev (fun k => spec_l05Burn.l0 k d q b n es) r := by
  have hql := binv_len hq
  have main : ∀ (i c : Nat), i + c = n → Ev (fun k => spec_l05Burn.l1 k d q b (lowB (hotB n es d q) i c) ((i : Int) - 1) n es) r := by
    intro i
    induction i with
    | zero =>
      intro c hc
      obtain rfl : c = n := by omega
      refine ev_succ ?_
      simp only [spec_l05Burn.l1]
      refine ev_ifn (by omega) ?_
      rcases lowB_spec (hotB c es d q) c 0 with ⟨h1, _⟩ | ⟨j, h1, _, h3, _⟩
      · rw [h1, hstop h1]
        exact ev_ift (by omega) (Ev.now _)
      · have hg := hgo j h1
        rw [h1, Int.toNat_natCast]
        exact ev_ifn (by omega) (ev_ift (by omega) (ev_ift (by omega) (ev_ift (by omega) hg)))
    | succ i ih =>
      intro c hc
      have hih := ih (c + 1) (by omega)
      refine ev_succ ?_
      simp only [spec_l05Burn.l1]
      rw [show ((i + 1 : Nat) : Int) - 1 = (i : Int) by omega]
      refine ev_ift (by omega) ?_
      have hin : ∀ s, s = sumQ n es i q → Ev (fun k => spec_l05Burn.l2 k d q b (lowB (hotB n es d q) (i + 1) c) (i : Int) s (n : Int) n es) r := by
        intro s hs
        subst hs
        refine ev_succ ?_
        simp only [spec_l05Burn.l2]
        have er : rdOf false b (i : Int) = decide ((i : Int) ∈ q) := by rw [← hbq i]; rfl
        rw [er, show wrap64 ((i : Int) - 1) = (i : Int) - 1 by unfold wrap64; omega]
        refine ev_ifn (by omega) (ev_ift (by omega) (ev_ift (by omega) ?_))
        simp only [lowB] at hih
        by_cases hc' : (i : Int) ∈ q
        · have hf : hotB n es d q i = false := by simp [hotB, hc']
          rw [hf] at hih
          simp only [Bool.false_eq_true, if_false] at hih
          exact ev_ift (by simp [hc']) hih
        · refine ev_ifn (by simp [hc']) (ev_ift (by omega) ?_)
          by_cases hlt : d.getD i 0 < sumQ n es i q
          · have hf : hotB n es d q i = true := by simp only [hotB, decide_eq_true hlt, Bool.and_true, decide_eq_false hc', Bool.not_false]
            rw [hf] at hih
            simp only [if_true] at hih
            exact ev_ift hlt hih
          · have hf : hotB n es d q i = false := by simp only [hotB, decide_eq_false hlt, Bool.and_false]
            rw [hf] at hih
            simp only [Bool.false_eq_true, if_false] at hih
            exact ev_ifn hlt hih
      have inner : ∀ (e j : Nat), j + e = n → Ev (fun k => spec_l05Burn.l2 k d q b (lowB (hotB n es d q) (i + 1) c) (i : Int) (sumB n es i q j) (j : Int) n es) r := by
        intro e
        induction e with
        | zero =>
          intro j hj
          obtain rfl : j = n := by omega
          exact hin _ (sumB_eq j es i j q hq.1 hq.2)
        | succ e ihe =>
          intro j hj
          have hj1 := ihe (j + 1) (by omega)
          refine ev_succ ?_
          simp only [spec_l05Burn.l2]
          have er : rdOf false b (j : Int) = decide ((j : Int) ∈ q) := by rw [← hbq j]; rfl
          rw [er, wrap_succ (by omega)]
          refine ev_ift (by omega) (ev_ift (by omega) (ev_ift (by omega) ?_))
          simp only [sumB] at hj1
          by_cases hc' : (j : Int) ∈ q
          · rw [if_pos hc'] at hj1
            have bnd : ∀ m : Nat, 0 ≤ sumB n es i q m ∧ sumB n es i q m ≤ 12 * m := by
              intro m
              induction m with
              | zero => simp [sumB]
              | succ m ihm =>
                have := multI_b n es i m
                simp only [sumB]
                split <;> omega
            have hb1 := bnd j
            have hb2 := multI_b n es i j
            refine ev_ift (by simp [hc']) (Ev.bind (spec_mult_ev n es (by omega) i j) ?_)
            rw [wrap_id (by omega) (by omega)]
            exact hj1
          · rw [if_neg hc', Int.add_zero] at hj1
            exact ev_ifn (by simp [hc']) hj1
      exact inner n 0 (by omega)
  refine ev_succ ?_
  simp only [spec_l05Burn.l0]
  rw [show wrap64 ((n : Int) - 1) = (n : Int) - 1 by unfold wrap64; omega]
  have := main n 0 (by omega)
  exact this
theorem burn_from (n : Nat) (hn : n ≤ 6) (es : List S67) (hl : es.length ≤ 12) (d : List Int) (hd : d.length = n) :
    ∀ (c : Nat) (q : List Int) (b : List Bool), BInv n q → c + q.length = n → b.length = n → (∀ v : Nat, b.getD v false = decide ((v : Int) ∈ q)) →
      ∃ r, Ev (fun k => impl_burn.l0 k d q n es) r ∧ Ev (fun k => spec_l05Burn.l0 k d q b n es) r ∧ BInv n r ∧ r.take q.length = q ∧ (∀ v : Nat, v < n → hotB n es d r v = false) ∧ ∀ j, q.length ≤ j → j < r.length → hotB n es d (r.take j) (r.getD j 0).toNat = true := by
  intro c
  induction c with
  | zero =>
    intro q b hq hlen hb hbq
    have all : ∀ v : Nat, v < n → (v : Int) ∈ q := by
      intro v hv
      by_cases h : (v : Int) ∈ q
      · exact h
      · have := binv_len (binv_add hq h ⟨by omega, by omega⟩)
        simp at this
        omega
    have cold : ∀ v : Nat, v < n → hotB n es d q v = false := fun v hv => by simp [hotB, all v hv]
    have hlow : lowB (hotB n es d q) 0 n = -1 := by
      rcases lowB_spec (hotB n es d q) n 0 with ⟨h1, _⟩ | ⟨j, _, _, h3, h4⟩
      · exact h1
      · rw [cold j (by omega)] at h4; cases h4
    exact ⟨q, impl_next n hn es hl d q hd hq q (fun _ => rfl) (fun v hv => by omega), spec_next n hn es hl d q b hd hq hb hbq q (fun _ => rfl) (fun v hv => by omega), hq, List.take_length, cold, fun j h1 h2 => by omega⟩
  | succ c ih =>
    intro q b hq hlen hb hbq
    rcases lowB_spec (hotB n es d q) n 0 with ⟨h1, h2⟩ | ⟨j, h1, _, h3, h4⟩
    · exact ⟨q, impl_next n hn es hl d q hd hq q (fun _ => rfl) (fun v hv => by omega), spec_next n hn es hl d q b hd hq hb hbq q (fun _ => rfl) (fun v hv => by omega), hq, List.take_length, fun v hv => h2 v (by omega) (by omega), fun j h1 h2 => by omega⟩
    · have hj : (j : Int) ∉ q := by
        intro h
        simp [hotB, h] at h4
      have hq' := binv_add hq hj ⟨by omega, by omega⟩
      obtain ⟨r, r1, r2, r3, r4, r5, r6⟩ := ih (q ++ [(j : Int)]) (b.set j true) hq' (by simp; omega) (by simpa using hb) (fun v => by
        rw [List.getD_eq_getElem?_getD, List.getElem?_set]
        by_cases e : j = v
        · subst e
          rw [if_pos rfl, if_pos (by omega)]; simp
        · rw [if_neg e, ← List.getD_eq_getElem?_getD, hbq v]
          have : ¬ (v : Int) = j := by omega
          simp [this])
      have hlt : q.length < r.length := by
        have := congrArg List.length r4
        simp at this
        omega
      have hpre : r.take q.length = q := by
        have h := congrArg (List.take q.length) r4
        rw [List.take_take, List.length_append, Nat.min_eq_left (by omega), List.take_left'] at h
        · exact h
        · rfl
      have hat : r.getD q.length 0 = (j : Int) := by
        have h := congrArg (fun x => x.getD q.length 0) r4
        simp only [List.getD_eq_getElem?_getD, List.getElem?_take, List.length_append, List.length_singleton] at h
        rw [if_pos (by omega)] at h
        rw [List.getD_eq_getElem?_getD, h]
        simp
      refine ⟨r, impl_next n hn es hl d q hd hq r (fun h => by omega) (fun v hv => ?_), spec_next n hn es hl d q b hd hq hb hbq r (fun h => by omega) (fun v hv => ?_), r3, hpre, r5, fun i hi1 hi2 => ?_⟩
      · obtain rfl : v = j := by omega
        exact r1
      · obtain rfl : v = j := by omega
        exact r2
      · by_cases e : i = q.length
        · subst e
          rw [hpre, hat, Int.toNat_natCast]; exact h4
        · exact r6 i (by simp; omega) hi2
theorem burn_both (n : Nat) (hn : n ≤ 6) (es : List S67) (hl : es.length ≤ 12) (d : List Int) (hd : d.length = n) (q : Nat) (hq : q < n) :
    ∃ r, Ev (fun k => impl_burn.f k n es d q) r ∧ Ev (fun k => spec_l05Burn.f k n es d q) r ∧ BInv n r ∧ r.take 1 = [(q : Int)] ∧ (∀ v : Nat, v < n → hotB n es d r v = false) ∧ ∀ j, 1 ≤ j → j < r.length → hotB n es d (r.take j) (r.getD j 0).toNat = true := by
  obtain ⟨r, h1, h2, h3, h4, h5, h6⟩ := burn_from n hn es hl d hd (n - 1) [(q : Int)] ((List.replicate n false).set q true) ⟨by simp, fun v hv => by simp at hv; omega⟩ (by simp; omega) (by simp) (fun v => by
    rw [List.getD_eq_getElem?_getD, List.getElem?_set]
    by_cases e : q = v
    · subst e
      rw [if_pos rfl, if_pos (by simpa using hq)]; simp
    · rw [if_neg e]
      have : ¬ (v : Int) = q := by omega
      simp only [List.mem_singleton, this, decide_false, List.getElem?_replicate]
      split <;> rfl)
  refine ⟨r, ?_, ?_, h3, h4, h5, h6⟩
  · simp only [impl_burn.f]; exact h1
  · simp only [spec_l05Burn.f, Option.bind_some]
    refine ev_ift (by omega) (ev_ift (by omega) (ev_ift (by omega) (ev_ift (by simp; omega) ?_)))
    rw [Int.toNat_natCast, Int.toNat_natCast]
    exact h2
theorem burn_mem {r : List Int} {q : Int} (h : r.take 1 = [q]) : q ∈ r := by
  have : q ∈ r.take 1 := by rw [h]; simp
  exact List.mem_of_mem_take this
end Go.Proofs.Ytbcfccdoffbncaa.Pure
end
section
set_option linter.unusedVariables false
set_option linter.unusedSimpArgs false
namespace Go.Proofs.Ytbcfccdoffbncaa.Pure
open Go.RowKit Go.Proofs.Ytbcfccdoffbncaa.P Go.Proofs.YtbcfccdoffbncaaW.PrintWords Go.Proofs.YtbcfccdoffbncaaW.PrintLast Go.Proofs.YtbcfccdoffbncaaW.PrintMore Go.Proofs.Ytbcfccdoffbncaa.Base Go.Proofs.Ytbcfccdoffbncaa.Reduce Go.Proofs.Ytbcfccdoffbncaa.Loops Go.Proofs.Ytbcfccdoffbncaa.Bits
theorem least_ (P : Nat → Prop) : (∃ j, P j) → ∃ j, P j ∧ ∀ i, i < j → ¬ P i := by
  intro ⟨j, hj⟩
  have main : ∀ j, P j → ∃ j, P j ∧ ∀ i, i < j → ¬ P i := by
    intro j
    induction j using Nat.strongRecOn with
    | _ j ih =>
      intro hj
      by_cases h : ∃ i, i < j ∧ P i
      · obtain ⟨i, h1, h2⟩ := h
        exact ih i h1 h2
      · exact ⟨j, hj, fun i hi hp => h ⟨i, hi, hp⟩⟩
  exact main j hj
def XF (n : Nat) (es : List S67) (D s : List Int) : Nat → Int := fun v => D.getD v 0 - lap n (mE n es) (fun w => s.getD w 0) v
structure Start (n : Nat) (es : List S67) (D : List Int) (q : Nat) : Prop where
  g : GraphP n es
  q : q < n
  len : D.length = n
  b : ∀ u : Nat, -60 ≤ D.getD u 0 ∧ D.getD u 0 ≤ 60
theorem addAt_get (n : Nat) (s : List Int) (v : Nat) (t : Int) (hs : s.length = n) (hv : v < n) (j : Nat) : (addAt s v t).getD j 0 = s.getD j 0 + (if j = v then t else 0) := by
  unfold addAt
  rw [getD_set _ _ _ _ (by omega)]
  by_cases e : v = j
  · rw [if_pos e, if_pos e.symm, e]
  · rw [if_neg e, if_neg (fun h => e h.symm)]; omega
theorem addAt_len (s : List Int) (v : Nat) (t : Int) : (addAt s v t).length = s.length := by simp [addAt]
def bumpTo (r s : List Int) : Nat → List Int
  | 0 => s
  | i + 1 => if (i : Int) ∈ r then bumpTo r s i else addAt (bumpTo r s i) i 1
theorem bump_len (r s : List Int) : ∀ i, (bumpTo r s i).length = s.length := by
  intro i
  induction i with
  | zero => rfl
  | succ i ih => simp only [bumpTo]; split <;> simp [addAt_len, ih]
theorem bump_get (n : Nat) (r s : List Int) (hs : s.length = n) : ∀ i, i ≤ n → ∀ j, (bumpTo r s i).getD j 0 = s.getD j 0 + (if j < i ∧ (j : Int) ∉ r then 1 else 0) := by
  intro i
  induction i with
  | zero => intro _ j; rw [if_neg (by omega)]; simp [bumpTo]
  | succ i ih =>
    intro hi j
    have h := ih (by omega) j
    simp only [bumpTo]
    by_cases c : (i : Int) ∈ r
    · rw [if_pos c, h]
      by_cases d : j < i ∧ (j : Int) ∉ r
      · rw [if_pos d, if_pos ⟨by omega, d.2⟩]
      · rw [if_neg d, if_neg (fun h => d ⟨by
          by_cases e : j = i
          · subst e; exact absurd c h.2
          · omega, h.2⟩)]
    · rw [if_neg c, addAt_get n _ i 1 (by rw [bump_len]; exact hs) (by omega), h]
      by_cases e : j = i
      · subst e
        rw [if_neg (by omega), if_pos rfl, if_pos ⟨by omega, c⟩]; omega
      · rw [if_neg e]
        by_cases d : j < i ∧ (j : Int) ∉ r
        · rw [if_pos d, if_pos ⟨by omega, d.2⟩]; omega
        · rw [if_neg d, if_neg (fun h => d ⟨by omega, h.2⟩)]; omega
theorem sumB_sumN (n : Int) (es : List S67) (v : Int) (q : List Int) : ∀ m : Nat, sumB n es v q m = sumN (fun w => if (w : Int) ∈ q then multI n es v w else 0) m := by
  intro m
  induction m with
  | zero => rfl
  | succ m ih => simp only [sumB, sumN, ih]
theorem binv_all {n : Nat} {r : List Int} (h : BInv n r) (hl : r.length = n) (v : Nat) (hv : v < n) : (v : Int) ∈ r := by
  by_cases c : (v : Int) ∈ r
  · exact c
  · have := binv_len (binv_add h c ⟨by omega, by omega⟩)
    simp at this
    omega
theorem binv_some {n : Nat} {r : List Int} (h : BInv n r) (hl : r.length ≠ n) : ∃ v : Nat, v < n ∧ (v : Int) ∉ r := by
  refine Classical.byContradiction fun hno => ?_
  have hall : ∀ v : Nat, v < n → (v : Int) ∈ r := fun v hv => Classical.byContradiction fun h => hno ⟨v, hv, h⟩
  have h1 := binv_len h
  have hd : ((List.range n).map fun i : Nat => (i : Int)).Nodup :=
     List.Pairwise.map _ (fun a b h e => h (by omega)) List.nodup_range
  have := List.Nodup.length_le_of_subset hd (l₂ := r) (fun x hx => by
    obtain ⟨i, hi, rfl⟩ := List.mem_map.1 hx
    exact hall i (List.mem_range.1 hi))
  simp at this
  omega
theorem red_of (n : Nat) (es : List S67) (x r : List Int) (q : Nat) (X : Nat → Int) (hX : ∀ v, v < n → x.getD v 0 = X v) (hnd : ∀ v, v < n → v ≠ q → 0 ≤ X v)
    (hr : BInv n r) (hl : r.length = n) (h1 : r.take 1 = [(q : Int)]) (hot : ∀ j, 1 ≤ j → j < r.length → hotB n es x (r.take j) (r.getD j 0).toNat = true) : Red n (mE n es) q X := by
  refine ⟨hnd, fun A hA hex => ?_⟩
  obtain ⟨u, hu⟩ := hex
  have hur := binv_all hr hl u (hA u hu).1
  obtain ⟨j0, hj0, hj1⟩ := List.mem_iff_getElem.1 hur
  obtain ⟨j, ⟨hj, hAj⟩, hmin⟩ := least_ (fun j => j < r.length ∧ A (r.getD j 0).toNat = true) ⟨j0, hj0, by
    rw [List.getD_eq_getElem?_getD, List.getElem?_eq_getElem hj0, Option.getD_some, hj1, Int.toNat_natCast]; exact hu⟩
  have hjr : r.getD j 0 ∈ r := by
    rw [List.getD_eq_getElem?_getD, List.getElem?_eq_getElem hj, Option.getD_some]; exact List.getElem_mem _
  have hb := hr.2 _ hjr
  have hj1 : 1 ≤ j := by
    rcases Nat.eq_zero_or_pos j with e | e
    · subst e
      have hq : r.getD 0 0 = (q : Int) := by
        cases r with
        | nil => simp at hj
        | cons a r => simp at h1 ⊢; exact h1
      rw [hq, Int.toNat_natCast] at hAj
      exact absurd rfl (hA q hAj).2
    · exact e
  have hh := hot j hj1 hj
  refine ⟨(r.getD j 0).toNat, hAj, ?_⟩
  simp only [hotB, Bool.and_eq_true, decide_eq_true_eq] at hh
  have hlt := hh.2
  rw [hX _ (by omega)] at hlt
  have hsub : ∀ w ∈ r.take j, 0 ≤ w ∧ w < (n : Int) := fun w hw => hr.2 w (List.mem_of_mem_take hw)
  rw [← sumB_eq n es _ n (r.take j) (List.Sublist.nodup (List.take_sublist j r) hr.1) hsub, sumB_sumN] at hlt
  refine Int.lt_of_lt_of_le hlt (sumN_le fun w hw => ?_)
  by_cases c : (w : Int) ∈ r.take j
  · rw [if_pos c]
    have hnA : ¬ A w = true := by
      intro hAw
      obtain ⟨i, hi, hiw⟩ := List.mem_iff_getElem.1 c
      have hij : i < j := by rw [List.length_take] at hi; omega
      refine hmin i hij ⟨by omega, ?_⟩
      rw [List.getElem_take] at hiw
      rw [List.getD_eq_getElem?_getD, List.getElem?_eq_getElem (by omega), Option.getD_some, hiw, Int.toNat_natCast]
      exact hAw
    rw [if_neg hnA]; exact Int.le_refl _
  · rw [if_neg c]
    by_cases d : A w = true
    · rw [if_pos d]; exact Int.le_refl _
    · rw [if_neg d]; exact multI_nonneg _ _ _ _
theorem bump_ok (n : Nat) (es : List S67) (D s x r : List Int) (q : Nat) (hs : s.length = n) (hX : ∀ v, v < n → x.getD v 0 = XF n es D s v) (hnd : ∀ v, v < n → v ≠ q → 0 ≤ XF n es D s v)
    (hr : BInv n r) (hq : (q : Int) ∈ r) (cold : ∀ v, v < n → hotB n es x r v = false) : ∀ v, v < n → v ≠ q → 0 ≤ XF n es D (bumpTo r s n) v := by
  intro v hv hvq
  have h1 : lap n (mE n es) (fun w => (bumpTo r s n).getD w 0) v = lap n (mE n es) (fun w => s.getD w 0 + (if w < n ∧ (w : Int) ∉ r then 1 else 0)) v :=
    lap_congr hv fun w _ => bump_get n r s hs n (Nat.le_refl _) w
  have h2 := lap_add n (mE n es) (fun w => s.getD w 0) (fun w => if w < n ∧ (w : Int) ∉ r then 1 else 0) v
  have h0 := hnd v hv hvq
  unfold XF at h0 ⊢
  rw [h1, h2]
  by_cases c : (v : Int) ∈ r
  · have : lap n (mE n es) (fun w => if w < n ∧ (w : Int) ∉ r then 1 else 0) v ≤ sumN (fun _ => 0) n := by
      unfold lap
      refine sumN_le fun w _ => ?_
      dsimp only
      rw [if_neg (show ¬ (v < n ∧ (v : Int) ∉ r) from fun h => h.2 c)]
      have hm := multI_nonneg n es v w
      by_cases d : w < n ∧ (w : Int) ∉ r
      · rw [if_pos d]
        show multI n es v w * (0 - 1) ≤ 0
        omega
      · rw [if_neg d]; simp
    rw [sumN_zero] at this
    omega
  · have hc := cold v hv
    have hx := hX v hv
    simp only [hotB, decide_eq_false c, Bool.not_false, Bool.true_and, decide_eq_false_iff_not] at hc
    have : lap n (mE n es) (fun w => if w < n ∧ (w : Int) ∉ r then 1 else 0) v = sumQ n es v r := by
      rw [← sumB_eq n es v n r hr.1 hr.2, sumB_sumN]
      unfold lap
      refine sumN_congr fun w hw => ?_
      dsimp only
      rw [if_pos ⟨hv, c⟩]
      by_cases d : (w : Int) ∈ r
      · rw [if_pos d, if_neg (show ¬ (w < n ∧ (w : Int) ∉ r) from fun h => h.2 d)]
        show multI n es v w * (1 - 0) = _
        omega
      · rw [if_neg d, if_pos (show w < n ∧ (w : Int) ∉ r from ⟨hw, d⟩)]; simp
    unfold XF at hx
    omega
def aB (C : Int) : Nat → Int
  | 0 => 0
  | i + 1 => C + 8 * aB C i
end Go.Proofs.Ytbcfccdoffbncaa.Pure
end
section
namespace Go.Proofs.Ytbcfccdoffbncaa.P
open Go.RowKit Go.Proofs.YtbcfccdoffbncaaW.PrintWords Go.Proofs.YtbcfccdoffbncaaW.PrintLast Go.Proofs.YtbcfccdoffbncaaW.PrintMore
attribute [local go_sem] max2_int min2_int max_two min_two max_three min_three max_four min_four
set_option linter.unusedVariables false
set_option linter.unusedSimpArgs false
def spec_l05Debt.l0 : Nat → Int → List Int → Int → Int → Option (Bool)
 | 0, _, _, _, _ => none
 | k + 1, x1, x7, x8, x9 => if x9 < x8 then (if 0 ≤ x9 then (if x9 < (x7.length : Int) then (if x9 = x1 then (spec_l05Debt.l0 k x1 x7 x8 (wrap64 (x9 + 1))) else (if (rd x7 x9) < 0 then (some true) else (spec_l05Debt.l0 k x1 x7 x8 (wrap64 (x9 + 1))))) else (none)) else (none)) else (some false)
def spec_l05Debt.f (k : Nat) (l0 : List Int) (a1 : Int) : Option (Bool) := spec_l05Debt.l0 k a1 l0 (l0.length : Int) 0
mutual
def spec_l05Reduce.l0 : Nat → List Int → Int → List Int → List Int → Int → List (S67) → Option (List Int × List Int)
 | 0, _, _, _, _, _, _ => none
 | k + 1, x1, x2, x8, x9, x145000, x145001 => (spec_l05Debt.f k x9 x2).bind fun t154 => (if t154 = true then (spec_l05Reduce.l1 k x1 x2 x8 x9 (x9.length : Int) 0 x145000 x145001) else (spec_l05Reduce.l2 k x1 x2 x8 x9 x145000 x145001))
def spec_l05Reduce.l1 : Nat → List Int → Int → List Int → List Int → Int → Int → Int → List (S67) → Option (List Int × List Int)
 | 0, _, _, _, _, _, _, _, _ => none
 | k + 1, x1, x2, x8, x9, x23, x24, x145000, x145001 => if x24 < x23 then (if x24 = x2 then (spec_l05Reduce.l1 k x1 x2 x8 x9 x23 (wrap64 (x24 + 1)) x145000 x145001) else (if 0 ≤ x24 then (if x24 < (x9.length : Int) then (if (rd x9 x24) < 0 then (if x24 < (x8.length : Int) then ((some (x8.set (x24 : Int).toNat (wrap64 ((rd x8 x24) - 1)) : List Int)).bind fun y157 => ((spec_l04Fire.f k x145000 x145001 x1 y157).bind fun t158 => (spec_l05Reduce.l1 k x1 x2 y157 t158 x23 (wrap64 (x24 + 1)) x145000 x145001))) else (none)) else (spec_l05Reduce.l1 k x1 x2 x8 x9 x23 (wrap64 (x24 + 1)) x145000 x145001)) else (none)) else (none))) else (spec_l05Reduce.l0 k x1 x2 x8 x9 x145000 x145001)
def spec_l05Reduce.l2 : Nat → List Int → Int → List Int → List Int → Int → List (S67) → Option (List Int × List Int)
 | 0, _, _, _, _, _, _ => none
 | k + 1, x1, x2, x8, x9, x145000, x145001 => (spec_l05Burn.f k x145000 x145001 x9 x2).bind fun t161 => (if (t161.length : Int) = x145000 then (some (x9, x8)) else (spec_l05Reduce.l3 k x1 x2 x8 t161 0 x145000 x145001))
def spec_l05Reduce.l3 : Nat → List Int → Int → List Int → List Int → Int → Int → List (S67) → Option (List Int × List Int)
 | 0, _, _, _, _, _, _, _ => none
 | k + 1, x1, x2, x8, x11, x12, x145000, x145001 => if x12 < x145000 then ((spec_l02Has.f k x11 x12).bind fun t167 => (if t167 = true then (spec_l05Reduce.l3 k x1 x2 x8 x11 (wrap64 (x12 + 1)) x145000 x145001) else (if 0 ≤ x12 then (if x12 < (x8.length : Int) then (spec_l05Reduce.l3 k x1 x2 (x8.set (x12 : Int).toNat (wrap64 ((rd x8 x12) + 1))) x11 (wrap64 (x12 + 1)) x145000 x145001) else (none)) else (none)))) else ((spec_l04Fire.f k x145000 x145001 x1 x8).bind fun t164 => (spec_l05Reduce.l2 k x1 x2 x8 t164 x145000 x145001))
end
def spec_l05Reduce.f (k : Nat) (a0_0 : Int) (l0_1 : List (S67)) (l1 : List Int) (a2 : Int) : Option (List Int × List Int) := if 0 ≤ a0_0 then (if (a0_0 : Int).toNat ≤ 35184372088832 then ((some (([] : List Int) : List Int)).bind fun y148 => (if y148.length + l1.length < 17592186044416 then (spec_l05Reduce.l0 k l1 a2 (List.replicate (a0_0 : Int).toNat 0) (y148 ++ l1) a0_0 l0_1) else (none))) else (none)) else (none)
end Go.Proofs.Ytbcfccdoffbncaa.P
end
section
set_option linter.unusedVariables false
set_option linter.unusedSimpArgs false
namespace Go.Proofs.Ytbcfccdoffbncaa.Pure
open Go.RowKit Go.Proofs.Ytbcfccdoffbncaa.P Go.Proofs.YtbcfccdoffbncaaW.PrintWords Go.Proofs.YtbcfccdoffbncaaW.PrintLast Go.Proofs.YtbcfccdoffbncaaW.PrintMore Go.Proofs.Ytbcfccdoffbncaa.Base Go.Proofs.Ytbcfccdoffbncaa.Loops
def debtF (q : Int) : Nat → List Int → Option Nat
  | _, [] => none
  | i, x :: r => if (i : Int) = q then debtF q (i + 1) r else if x < 0 then some i else debtF q (i + 1) r
def debtI (q : Int) (d : List Int) : Int := match debtF q 0 d with
  | some v => v
  | none => -1
theorem debtF_none (q : Int) : ∀ (l : List Int) (i : Nat), debtF q i l = none → ∀ j, j < l.length → ((i + j : Nat) : Int) ≠ q → 0 ≤ l.getD j 0 := by
  intro l
  induction l with
  | nil => intro i _ j hj; simp at hj
  | cons x r ih =>
    intro i h j hj hne
    simp only [debtF] at h
    cases j with
    | zero =>
      rw [if_neg (by simpa using hne)] at h
      by_cases hx : x < 0
      · rw [if_pos hx] at h; cases h
      · simp; omega
    | succ j =>
      have h' : debtF q (i + 1) r = none := by
        by_cases e : (i : Int) = q
        · rw [if_pos e] at h; exact h
        · rw [if_neg e] at h
          by_cases hx : x < 0
          · rw [if_pos hx] at h; cases h
          · rw [if_neg hx] at h; exact h
      have := ih (i + 1) h' j (by simpa using hj) (by rw [show i + 1 + j = i + (j + 1) by omega]; exact hne)
      simpa using this
theorem debtF_some (q : Int) : ∀ (l : List Int) (i v : Nat), debtF q i l = some v → i ≤ v ∧ v < i + l.length ∧ (v : Int) ≠ q ∧ l.getD (v - i) 0 < 0 := by
  intro l
  induction l with
  | nil => intro i v h; cases h
  | cons x r ih =>
    intro i v h
    have next : debtF q (i + 1) r = some v → i ≤ v ∧ v < i + (x :: r).length ∧ (v : Int) ≠ q ∧ (x :: r).getD (v - i) 0 < 0 := by
      intro h'
      obtain ⟨h1, h2, h3, h4⟩ := ih (i + 1) v h'
      refine ⟨by omega, by simp; omega, h3, ?_⟩
      rw [show v - i = (v - (i + 1)) + 1 by omega]
      simpa using h4
    simp only [debtF] at h
    by_cases e : (i : Int) = q
    · rw [if_pos e] at h; exact next h
    · rw [if_neg e] at h
      by_cases hx : x < 0
      · rw [if_pos hx] at h
        injection h with h
        subst h
        exact ⟨Nat.le_refl _, by simp, e, by simpa using hx⟩
      · rw [if_neg hx] at h; exact next h
theorem inDebt_ev (d : List Int) (q : Int) (hd : d.length < 4611686018427387904) : Ev (fun k => impl_inDebt.f k d q) (debtI q d) := by
  simp only [impl_inDebt.f]
  have main : ∀ (rest : List Int) (i : Nat), i ≤ d.length → d.drop i = rest → Ev (fun k => impl_inDebt.l0 k q d (d.length : Int) (i : Int)) (match debtF q i rest with
      | some v => (v : Int)
      | none => -1) := by
    intro rest
    induction rest with
    | nil =>
      intro i hi hdr
      have := drop_nil hdr
      refine ev1 fun k => ?_
      simp only [impl_inDebt.l0, debtF]
      rw [if_neg (by omega)]
    | cons x r ih =>
      intro i hi hdr
      have hlt := drop_lt hdr
      have h := ih (i + 1) (by omega) (drop_next hdr)
      refine ev_succ ?_
      simp only [impl_inDebt.l0, rd_drop hdr, debtF, wrap_succ (show i < 4611686018427387904 by omega)]
      refine ev_ift (by omega) (ev_ift (by omega) (ev_ift (by omega) ?_))
      by_cases e : (i : Int) = q
      · rw [if_pos e]; exact ev_ift e h
      · rw [if_neg e]
        refine ev_ifn e ?_
        by_cases hx : x < 0
        · rw [if_pos hx]; exact ev_ift hx (Ev.now _)
        · rw [if_neg hx]; exact ev_ifn hx h
  exact main d 0 (by omega) rfl
theorem specDebt_ev (d : List Int) (q : Int) (hd : d.length < 4611686018427387904) : Ev (fun k => spec_l05Debt.f k d q) (debtF q 0 d).isSome := by
  simp only [spec_l05Debt.f]
  have main : ∀ (rest : List Int) (i : Nat), i ≤ d.length → d.drop i = rest → Ev (fun k => spec_l05Debt.l0 k q d (d.length : Int) (i : Int)) (debtF q i rest).isSome := by
    intro rest
    induction rest with
    | nil =>
      intro i hi hdr
      have := drop_nil hdr
      refine ev1 fun k => ?_
      simp only [spec_l05Debt.l0, debtF]
      rw [if_neg (by omega)]; rfl
    | cons x r ih =>
      intro i hi hdr
      have hlt := drop_lt hdr
      have h := ih (i + 1) (by omega) (drop_next hdr)
      refine ev_succ ?_
      simp only [spec_l05Debt.l0, rd_drop hdr, debtF, wrap_succ (show i < 4611686018427387904 by omega)]
      refine ev_ift (by omega) (ev_ift (by omega) (ev_ift (by omega) ?_))
      by_cases e : (i : Int) = q
      · rw [if_pos e]; exact ev_ift e h
      · rw [if_neg e]
        refine ev_ifn e ?_
        by_cases hx : x < 0
        · rw [if_pos hx]; exact ev_ift hx (Ev.now _)
        · rw [if_neg hx]; exact ev_ifn hx h
  exact main d 0 (by omega) rfl
end Go.Proofs.Ytbcfccdoffbncaa.Pure
end
section
set_option linter.unusedVariables false
set_option linter.unusedSimpArgs false
namespace Go.Proofs.Ytbcfccdoffbncaa.Pure
open Go.RowKit Go.Proofs.Ytbcfccdoffbncaa.P Go.Proofs.YtbcfccdoffbncaaW.PrintWords Go.Proofs.YtbcfccdoffbncaaW.PrintLast Go.Proofs.YtbcfccdoffbncaaW.PrintMore Go.Proofs.Ytbcfccdoffbncaa.Base Go.Proofs.Ytbcfccdoffbncaa.Reduce Go.Proofs.Ytbcfccdoffbncaa.Loops Go.Proofs.Ytbcfccdoffbncaa.Bits
theorem rd_n (l : List Int) (v : Nat) : rd l (v : Int) = l.getD v 0 := by unfold rd; rw [Int.toNat_natCast]
theorem getD_all {n : Nat} {s : List Int} {B : Int} (hs : s.length = n) (hB : 0 ≤ B) (h : ∀ w, w < n → -B ≤ s.getD w 0 ∧ s.getD w 0 ≤ B) (w : Nat) : -B ≤ s.getD w 0 ∧ s.getD w 0 ≤ B := by
  by_cases c : w < n
  · exact h w c
  · have : s.getD w 0 = 0 := by rw [List.getD_eq_getElem?_getD, List.getElem?_eq_none (by omega)]; rfl
    rw [this]; omega
structure Inv1 (n q : Nat) (σ : Nat → Int) (s : List Int) : Prop where
  len : s.length = n
  z : s.getD q 0 = 0
  b : ∀ w, w < n → -(σ w) ≤ s.getD w 0 ∧ s.getD w 0 ≤ 0
structure Resc (n : Nat) (es : List S67) (q : Nat) (σ : Nat → Int) : Prop where
  z : σ q = 0
  b : ∀ v, 0 ≤ σ v ∧ σ v ≤ 1357260
  l : ∀ v, v < n → v ≠ q → 60 ≤ lap n (mE n es) σ v
theorem start64 {n q : Nat} {es : List S67} {D : List Int} (S : Start n es D q) : In64 D := fun u => wrap_id (by have := S.b u; omega) (by have := S.b u; omega)
theorem xd_xf {n q : Nat} {es : List S67} {D s : List Int} (S : Start n es D q) (hs : s.length = n) (hb : ∀ w, w < n → -1000000000000 ≤ s.getD w 0 ∧ s.getD w 0 ≤ 1000000000000) (u : Nat) (hu : u < n) : (XD es D s).getD u 0 = XF n es D s u :=
  xd_val n es D s S.g S.len hs S.b 1000000000000 (by omega) (by omega) (fun w => getD_all hs (by omega) hb w) u hu
theorem inv1_b {n q : Nat} {es : List S67} {σ : Nat → Int} {s : List Int} (R : Resc n es q σ) (h : Inv1 n q σ s) (w : Nat) (hw : w < n) : -1000000000000 ≤ s.getD w 0 ∧ s.getD w 0 ≤ 1000000000000 := by
  have := h.b w hw; have := R.b w; omega
theorem xf_bound {n q : Nat} {es : List S67} {D s : List Int} (S : Start n es D q) (B : Int) (hB : 0 ≤ B) (hb : ∀ w, w < n → -B ≤ s.getD w 0 ∧ s.getD w 0 ≤ B) (u : Nat) (hu : u < n) : -60 - 24 * B ≤ XF n es D s u ∧ XF n es D s u ≤ 60 + 24 * B := by
  have := lap_bound n es S.g (fun w => s.getD w 0) B hB hb u hu
  have := S.b u
  unfold XF
  omega
theorem inv1_borrow {n q : Nat} {es : List S67} {D s : List Int} {σ : Nat → Int} (S : Start n es D q) (R : Resc n es q σ) (h : Inv1 n q σ s) (v : Nat) (hv : v < n) (hvq : v ≠ q) (t : Int) (ht : 1 ≤ t)
    (hd : XF n es D s v + sumN (mE n es v) n * (t - 1) < 0) : Inv1 n q σ (addAt s v (-t)) ∧ sumN (fun w => σ w + (addAt s v (-t)).getD w 0) n = sumN (fun w => σ w + s.getD w 0) n - t := by
  have G := gr_of n es S.g
  have hl := lap_neg n (mE n es) (fun w => s.getD w 0) v
  have hle := borrow_le G (q := q) (v := v) (D := fun w => D.getD w 0) (b := fun w => - s.getD w 0) (σ := σ) hv hvq (S.b v).1 (R.l v hv hvq) (fun w hw => by have := h.b w hw; omega) t (by
    unfold XF at hd
    rw [hl]
    omega)
  (try dsimp only at hle)
  have hg := addAt_get n s v (-t) h.len hv
  refine ⟨⟨by rw [addAt_len]; exact h.len, ?_, fun w hw => ?_⟩, ?_⟩
  · rw [hg q, if_neg (fun e => hvq e.symm), h.z]; rfl
  · rw [hg w]
    have := h.b w hw
    by_cases e : w = v
    · rw [if_pos e]; subst e; omega
    · rw [if_neg e]; omega
  · have hu := sumN_upd (fun w => σ w + s.getD w 0) n v (σ v + s.getD v 0 - t) hv
    have : sumN (fun w => σ w + (addAt s v (-t)).getD w 0) n = sumN (fun i => if i = v then σ v + s.getD v 0 - t else (fun w => σ w + s.getD w 0) i) n := sumN_congr fun w _ => by
      rw [hg w]
      by_cases e : w = v
      · rw [if_pos e, if_pos e, e]; omega
      · rw [if_neg e, if_neg e]
        show σ w + (s.getD w 0 + 0) = σ w + s.getD w 0
        omega
    rw [this, hu]; omega
theorem inv1_sum {n q : Nat} {σ : Nat → Int} {s : List Int} (h : Inv1 n q σ s) : 0 ≤ sumN (fun w => σ w + s.getD w 0) n := sumN_nonneg fun w hw => by have := h.b w hw; omega
theorem phase1I {n q : Nat} {es : List S67} {D : List Int} {σ : Nat → Int} (S : Start n es D q) (R : Resc n es q σ) (hl : es.length ≤ 12) (hn : n ≤ 6) :
    ∀ (c : Nat) (s : List Int), Inv1 n q σ s → sumN (fun w => σ w + s.getD w 0) n ≤ c → ∃ s1, Inv1 n q σ s1 ∧ (∀ v, v < n → v ≠ q → 0 ≤ XF n es D s1 v) ∧
      ∀ r, Ev (fun k => impl_reduce.l1 k (q : Int) (XD es D s1) s1 n es) r → Ev (fun k => impl_reduce.l0 k (q : Int) (XD es D s) s (debtI q (XD es D s)) n es) r := by
  have he := (edgesB_facts S.g.1).2.2.2
  have G := gr_of n es S.g
  intro c
  induction c with
  | zero =>
    intro s h hc
    have hz := inv1_sum h
    have hlen := xd_len n es D s he S.len (start64 S)
    cases hf : debtF q 0 (XD es D s) with
    | none =>
      refine ⟨s, h, fun v hv hvq => ?_, fun r hr => ev_succ ?_⟩
      · rw [← xd_xf S h.len (fun w hw => inv1_b R h w hw) v hv]
        exact debtF_none q _ 0 hf v (by omega) (by omega)
      · have hi : debtI q (XD es D s) = -1 := by unfold debtI; rw [hf]
        simp only [impl_reduce.l0, hi]
        exact ev_ifn (by decide) hr
    | some v =>
      exfalso
      obtain ⟨_, h2, h3, h4⟩ := debtF_some q _ 0 v hf
      rw [Nat.sub_zero, xd_xf S h.len (fun w hw => inv1_b R h w hw) v (by omega)] at h4
      have hb := inv1_borrow S R h v (by omega) (by omega) 1 (by omega) (by rw [show (1 : Int) - 1 = 0 by omega, Int.mul_zero]; omega)
      have := inv1_sum hb.1
      omega
  | succ c ih =>
    intro s h hc
    have hlen := xd_len n es D s he S.len (start64 S)
    cases hf : debtF q 0 (XD es D s) with
    | none =>
      refine ⟨s, h, fun v hv hvq => ?_, fun r hr => ev_succ ?_⟩
      · rw [← xd_xf S h.len (fun w hw => inv1_b R h w hw) v hv]
        exact debtF_none q _ 0 hf v (by omega) (by omega)
      · have hi : debtI q (XD es D s) = -1 := by unfold debtI; rw [hf]
        simp only [impl_reduce.l0, hi]
        exact ev_ifn (by decide) hr
    | some v =>
      obtain ⟨_, h2, h3, h4⟩ := debtF_some q _ 0 v hf
      rw [Nat.sub_zero] at h4
      have hv : v < n := by omega
      have hvq : v ≠ q := by omega
      have hxv := xd_xf S h.len (fun w hw => inv1_b R h w hw) v hv
      have hxb := xf_bound (s := s) S 1357260 (by omega) (fun w hw => by have := h.b w hw; have := R.b w; omega) v hv
      have hN := val_sum n v hv es he
      have hN0 := val_pos G S.q hv hvq
      have hN12 := G.val v hv
      generalize hNe : sumN (mE n es v) n = N at *
      generalize hXe : XF n es D s v = X at *
      have ew1 : wrap64 (wrap64 (N - 1) - X) = N - 1 - X := by rw [wrap_id (i := N - 1) (by omega) (by omega)]; exact wrap_id (by omega) (by omega)
      have htd : Int.tdiv (N - 1 - X) N = (N - 1 - X) / N := Int.tdiv_eq_ediv_of_nonneg (by omega)
      generalize hte : (N - 1 - X) / N = t at *
      have ht1 : N * t ≤ N - 1 - X := by rw [← hte]; exact Int.mul_ediv_self_le (by omega)
      have ht2 : N - 1 - X < N * t + N := by
        have := Int.lt_mul_ediv_self_add (x := N - 1 - X) (k := N) (by omega)
        rw [hte] at this; exact this
      have ht3 : 1 ≤ t := by
        refine Classical.byContradiction fun hno => ?_
        have : N * t ≤ N * 0 := Int.mul_le_mul_of_nonneg_left (by omega) (by omega)
        omega
      have ht4 : t ≤ N * t := by
        have := Int.mul_le_mul_of_nonneg_right (show 1 ≤ N by omega) (show 0 ≤ t by omega)
        omega
      have hb := inv1_borrow S R h v hv hvq t ht3 (by rw [hXe, hNe, Int.mul_sub]; omega)
      obtain ⟨s1, i1, i2, i3⟩ := ih (addAt s v (-t)) hb.1 (by rw [hb.2]; omega)
      refine ⟨s1, i1, i2, fun r hr => ev_succ ?_⟩
      have hi : debtI q (XD es D s) = v := by unfold debtI; rw [hf]
      have hsv := h.b v hv
      have hsb := R.b v
      have ew2 : wrap64 (Int.tdiv (N - 1 - X) N) = t := by rw [htd]; exact wrap_id (by omega) (by omega)
      have ew3 : wrap64 (-t) = -t := wrap_id (by omega) (by omega)
      have ew4 : wrap64 (s.getD v 0 - t) = s.getD v 0 + -t := by rw [wrap_id (by omega) (by omega)]; omega
      simp only [impl_reduce.l0, hi]
      refine ev_ift (by omega) (Ev.bind (impl_val_ev n es (by omega) v) ?_)
      simp only [hN, rd_n, hxv, ew1, ew2, ew3, ew4]
      refine ev_ift (by omega) (ev_ift (by omega) (ev_ifn (by omega) (Ev.bind (impl_fire_ev n es (XD es D s) v (-t) he hlen hn (by omega) n) ?_)))
      rw [xd_fire n es D s he S.len h.len (start64 S) v hv (-t)]
      refine ev_ift (by have := h.len; omega) (Ev.bind (inDebt_ev _ q (by rw [xd_len n es D _ he S.len (start64 S)]; omega)) ?_)
      have hset : s.set ((v : Int)).toNat (s.getD v 0 + -t) = addAt s v (-t) := by rw [Int.toNat_natCast]; rfl
      rw [hset]
      exact i3 r hr
theorem passS {n q : Nat} {es : List S67} {D : List Int} {σ : Nat → Int} (S : Start n es D q) (R : Resc n es q σ) (hl : es.length ≤ 12) (hn : n ≤ 6) :
    ∀ (d i : Nat) (s : List Int), i + d = n → Inv1 n q σ s → ∃ s', Inv1 n q σ s' ∧ sumN (fun w => σ w + s'.getD w 0) n ≤ sumN (fun w => σ w + s.getD w 0) n ∧
      (sumN (fun w => σ w + s'.getD w 0) n < sumN (fun w => σ w + s.getD w 0) n ∨ ∀ v, i ≤ v → v < n → v ≠ q → 0 ≤ XF n es D s v) ∧
      ∀ r, Ev (fun k => spec_l05Reduce.l0 k D (q : Int) s' (XD es D s') n es) r → Ev (fun k => spec_l05Reduce.l1 k D (q : Int) s (XD es D s) (n : Int) (i : Int) n es) r := by
  have he := (edgesB_facts S.g.1).2.2.2
  intro d
  induction d with
  | zero =>
    intro i s hi h
    refine ⟨s, h, Int.le_refl _, Or.inr fun v h1 h2 => by omega, fun r hr => ev_succ ?_⟩
    simp only [spec_l05Reduce.l1]
    exact ev_ifn (by omega) hr
  | succ d ih =>
    intro i s hi h
    have hlen := xd_len n es D s he S.len (start64 S)
    have hsl := h.len
    by_cases hiq : i = q
    · obtain ⟨s', i1, i2, i3, i4⟩ := ih (i + 1) s (by omega) h
      refine ⟨s', i1, i2, i3.imp id fun hv v h1 h2 h3 => hv v (by omega) h2 h3, fun r hr => ev_succ ?_⟩
      simp only [spec_l05Reduce.l1, wrap_succ (show i < 4611686018427387904 by omega)]
      exact ev_ift (by omega) (ev_ift (by omega) (i4 r hr))
    · have hx := xd_xf S h.len (fun w hw => inv1_b R h w hw) i (by omega)
      by_cases hc : XF n es D s i < 0
      · have hb := inv1_borrow S R h i (by omega) hiq 1 (by omega) (by rw [show (1 : Int) - 1 = 0 by omega, Int.mul_zero]; omega)
        obtain ⟨s', i1, i2, i3, i4⟩ := ih (i + 1) (addAt s i (-1)) (by omega) hb.1
        refine ⟨s', i1, by rw [hb.2] at i2; omega, Or.inl (by rw [hb.2] at i2; omega), fun r hr => ev_succ ?_⟩
        have hsv := h.b i (by omega)
        have hsb := R.b i
        have ew : wrap64 (s.getD i 0 - 1) = s.getD i 0 + -1 := by rw [wrap_id (by omega) (by omega)]; omega
        have hset : s.set i (s.getD i 0 + -1) = addAt s i (-1) := rfl
        simp only [spec_l05Reduce.l1, rd_n, hx, ew, Int.toNat_natCast, hset, Option.bind_some, wrap_succ (show i < 4611686018427387904 by omega)]
        refine ev_ift (by omega) (ev_ifn (by omega) (ev_ift (by omega) (ev_ift (by omega) (ev_ift hc (ev_ift (by omega) (Ev.bind (spec_fire_ev n es D (addAt s i (-1)) he S.len (by rw [addAt_len]; exact h.len) hn (by omega) n) ?_))))))
        exact i4 r hr
      · obtain ⟨s', i1, i2, i3, i4⟩ := ih (i + 1) s (by omega) h
        refine ⟨s', i1, i2, i3.imp id fun hv v h1 h2 h3 => ?_, fun r hr => ev_succ ?_⟩
        · by_cases e : v = i
          · subst e; omega
          · exact hv v (by omega) h2 h3
        · simp only [spec_l05Reduce.l1, rd_n, hx, wrap_succ (show i < 4611686018427387904 by omega)]
          exact ev_ift (by omega) (ev_ifn (by omega) (ev_ift (by omega) (ev_ift (by omega) (ev_ifn hc (i4 r hr)))))
theorem phase1S {n q : Nat} {es : List S67} {D : List Int} {σ : Nat → Int} (S : Start n es D q) (R : Resc n es q σ) (hl : es.length ≤ 12) (hn : n ≤ 6) :
    ∀ (c : Nat) (s : List Int), Inv1 n q σ s → sumN (fun w => σ w + s.getD w 0) n ≤ c → ∃ s1, Inv1 n q σ s1 ∧ (∀ v, v < n → v ≠ q → 0 ≤ XF n es D s1 v) ∧
      ∀ r, Ev (fun k => spec_l05Reduce.l2 k D (q : Int) s1 (XD es D s1) n es) r → Ev (fun k => spec_l05Reduce.l0 k D (q : Int) s (XD es D s) n es) r := by
  have he := (edgesB_facts S.g.1).2.2.2
  have done_ : ∀ s, Inv1 n q σ s → debtF q 0 (XD es D s) = none → ∃ s1, Inv1 n q σ s1 ∧ (∀ v, v < n → v ≠ q → 0 ≤ XF n es D s1 v) ∧
      ∀ r, Ev (fun k => spec_l05Reduce.l2 k D (q : Int) s1 (XD es D s1) n es) r → Ev (fun k => spec_l05Reduce.l0 k D (q : Int) s (XD es D s) n es) r := by
    intro s h hf
    have hlen := xd_len n es D s he S.len (start64 S)
    have hd := specDebt_ev (XD es D s) q (by omega)
    rw [hf] at hd
    refine ⟨s, h, fun v hv hvq => ?_, fun r hr => ev_succ ?_⟩
    · rw [← xd_xf S h.len (fun w hw => inv1_b R h w hw) v hv]
      exact debtF_none q _ 0 hf v (by omega) (by omega)
    · simp only [spec_l05Reduce.l0]
      exact Ev.bind hd (ev_iff hr)
  have next_ : ∀ s v, Inv1 n q σ s → debtF q 0 (XD es D s) = some v → ∃ s', Inv1 n q σ s' ∧ sumN (fun w => σ w + s'.getD w 0) n < sumN (fun w => σ w + s.getD w 0) n ∧
      ∀ r, Ev (fun k => spec_l05Reduce.l0 k D (q : Int) s' (XD es D s') n es) r → Ev (fun k => spec_l05Reduce.l0 k D (q : Int) s (XD es D s) n es) r := by
    intro s v h hf
    have hlen := xd_len n es D s he S.len (start64 S)
    have hd := specDebt_ev (XD es D s) q (by omega)
    rw [hf] at hd
    obtain ⟨_, h2, h3, h4⟩ := debtF_some q _ 0 v hf
    rw [Nat.sub_zero, xd_xf S h.len (fun w hw => inv1_b R h w hw) v (by omega)] at h4
    obtain ⟨s', i1, _, i3, i4⟩ := passS S R hl hn n 0 s (by omega) h
    refine ⟨s', i1, i3.elim id fun hv => ?_, fun r hr => ev_succ ?_⟩
    · have := hv v (by omega) (by omega) (by omega)
      omega
    · simp only [spec_l05Reduce.l0]
      refine Ev.bind hd (ev_ift rfl ?_)
      rw [hlen]
      exact i4 r hr
  intro c
  induction c with
  | zero =>
    intro s h hc
    cases hf : debtF q 0 (XD es D s) with
    | none => exact done_ s h hf
    | some v =>
      exfalso
      obtain ⟨s', i1, i2, _⟩ := next_ s v h hf
      have := inv1_sum i1
      omega
  | succ c ih =>
    intro s h hc
    cases hf : debtF q 0 (XD es D s) with
    | none => exact done_ s h hf
    | some v =>
      obtain ⟨s', i1, i2, i3⟩ := next_ s v h hf
      obtain ⟨s1, j1, j2, j3⟩ := ih s' i1 (by omega)
      exact ⟨s1, j1, j2, fun r hr => i3 r (j3 r hr)⟩
end Go.Proofs.Ytbcfccdoffbncaa.Pure
end
