/- Functions of the program as plain Lean functions, and that the machine's calls answer as they do. Written for this claim by a program of this work that drives the kit's print engine; Lean checks it. -/
import Derived.Test.YtfpcgccnhpfcnaaGbf62bd544f
import Derived.Test.YtfpcgccnhpfcnaaG738cf0ac4a
import Derived.Test.YtfpcgccnhpfcnaaGa7e7e39d0d
namespace Go.Proofs.Ytfpcgccnhpfcnaa.P
open Go.RowKit Go.Proofs.YtfpcgccnhpfcnaaW.PrintWords Go.Proofs.YtfpcgccnhpfcnaaW.PrintLast Go.Proofs.YtfpcgccnhpfcnaaW.PrintMore
attribute [local go_sem] max2_int min2_int max_two min_two max_three min_three max_four min_four   -- for this text's walks alone
set_option linter.unusedVariables false
set_option linter.unusedSimpArgs false

/-! ### laws_FnExactCanonicalOf: function 5 -/
mutual
def laws_FnExactCanonicalOf.j0 : Nat → Int → List (S86) → Option (Bool)
 | 0, _, _ => none
 | k + 1, x358000, x358001 => (laws_toGraph.f k x358000 x358001).bind fun bt359 => ((spec_CanonicalOf.f k bt359.1 bt359.2).bind fun t363 => ((laws_toGraph.f k x358000 x358001).bind fun bt366 => ((impl_CanonicalOf.f k bt366.1 bt366.2).bind fun t371 => ((laws_eqIntS.f k t371 t363).bind fun t374 => (if t374 = true then (laws_FnExactCanonicalOf.j1 k t363 t371 x358000 x358001 bt366.1 bt366.2) else (some false))))))
def laws_FnExactCanonicalOf.j1 : Nat → List Int → List Int → Int → List (S86) → Int → List (S68) → Option (Bool)
 | 0, _, _, _, _, _, _ => none
 | k + 1, x4, x6, x358000, x358001, x371000, x371001 => (laws_toGraph.f k x358000 x358001).bind fun bt375 => ((laws_eqGraph.f k x371000 x371001 bt375.1 bt375.2).bind fun t379 => (if t379 = true then (laws_FnExactCanonicalOf.j2 k x4 x6 x358000 x358001 x371000 x371001) else (some false)))
def laws_FnExactCanonicalOf.j2 : Nat → List Int → List Int → Int → List (S86) → Int → List (S68) → Option (Bool)
 | 0, _, _, _, _, _, _ => none
 | k + 1, x4, x6, x358000, x358001, x371000, x371001 => (laws_markGraph.f k x371000 x371001 1).bind fun bt380 => (if bt380.1 < 0 then (laws_FnExactCanonicalOf.j3 k x4 x6 true x358000 x358001) else ((laws_eqIntS.f k x6 x4).bind fun t382 => (laws_FnExactCanonicalOf.j3 k x4 x6 (!t382) x358000 x358001)))
def laws_FnExactCanonicalOf.j3 : Nat → List Int → List Int → Bool → Int → List (S86) → Option (Bool)
 | 0, _, _, _, _, _ => none
 | k + 1, x4, x6, x42, x358000, x358001 => if x42 = true then (some false) else (laws_FnExactCanonicalOf.j4 k x4 x6 x358000 x358001)
def laws_FnExactCanonicalOf.j4 : Nat → List Int → List Int → Int → List (S86) → Option (Bool)
 | 0, _, _, _, _ => none
 | k + 1, x4, x6, x358000, x358001 => (laws_markIntS.f k x6 1).bind fun bt383 => ((laws_heldIntS.f k bt383.2 1).bind fun t385 => (if t385 < 0 then (some false) else (laws_FnExactCanonicalOf.j5 k x4 bt383.2 bt383.1 t385 x358000 x358001)))
def laws_FnExactCanonicalOf.j5 : Nat → List Int → List Int → Int → Int → Int → List (S86) → Option (Bool)
 | 0, _, _, _, _, _, _ => none
 | k + 1, x4, x6, x8, x9, x358000, x358001 => if x9 = x8 then (laws_FnExactCanonicalOf.j6 k x4 x6 x8 x358000 x358001) else (some false)
def laws_FnExactCanonicalOf.j6 : Nat → List Int → List Int → Int → Int → List (S86) → Option (Bool)
 | 0, _, _, _, _, _ => none
 | k + 1, x4, x6, x8, x358000, x358001 => (laws_toGraph.f k x358000 x358001).bind fun bt386 => ((impl_CanonicalOf.f k bt386.1 bt386.2).bind fun t390 => ((laws_eqIntS.f k t390 x4).bind fun t393 => (if t393 = true then (laws_FnExactCanonicalOf.j7 k x6 x8) else (some false))))
def laws_FnExactCanonicalOf.j7 : Nat → List Int → Int → Option (Bool)
 | 0, _, _ => none
 | k + 1, x6, x8 => (laws_heldIntS.f k x6 1).bind fun t394 => (if t394 < 0 then (some false) else (laws_FnExactCanonicalOf.j8 k x8 t394))
def laws_FnExactCanonicalOf.j8 : Nat → Int → Int → Option (Bool)
 | 0, _, _ => none
 | k + 1, x8, x9 => if x9 = x8 then (some true) else (some false)
end
def laws_FnExactCanonicalOf.f (k : Nat) (a0_0 : Int) (l0_1 : List (S86)) : Option (Bool) := (laws_szGraph.f a0_0 l0_1 1048576).bind fun t358 => (if t358 < 0 then (some true) else (laws_FnExactCanonicalOf.j0 k a0_0 l0_1))
set_option maxHeartbeats 8000000 in
set_option maxRecDepth 100000 in
theorem laws_FnExactCanonicalOf.calls (k : Nat) (a0_0 : Int) (A0_1 : Option Addr) (c0_1 : Nat) (l0_1 : List (S86)) (r : Bool) (w : World) (hr0_1 : Kd.C k86 w A0_1 l0_1.length l0_1) (hc0_1 : l0_1.length ≤ c0_1) (h : laws_FnExactCanonicalOf.f k a0_0 l0_1 = some r) :
  Calls Try.prog 5 #[.agg #[.int .i64 a0_0, .slice A0_1 l0_1.length c0_1]] w fun e w' => e = .returned (.bool r) ∧ Below w.heap.size w w' := by
 have hu33 := Try.underlying33
 have hu37 := Try.underlying37
 have HR0_1 := Aside0.mk hr0_1
 have HC0_1 := Aside0.mk hc0_1
 clear hr0_1 hc0_1
 have HB := Aside0.mk (Below.refl w.heap.size w)
 have H : ((laws_szGraph.f a0_0 l0_1 1048576).bind fun t358 => (if t358 < 0 then (some true) else (laws_FnExactCanonicalOf.j0 k a0_0 l0_1))) = some r := h
 clear h
 replace H := Option.bind_eq_some_iff.mp H
 obtain ⟨t358, A20, H⟩ := H
 replace H : (if t358 < 0 then (some true) else (laws_FnExactCanonicalOf.j0 k a0_0 l0_1)) = some r := H
 have A2 := Aside0.mk A20
 clear A20
 have HC3 := Aside0.mk H
 clear H
 go_enter Try.func5, Try.ntmps5
 go_upto_if 15 with (first | ((with_reducible refine gate_dst (N := 1) rfl ?_); refine box_event ?hg (N := 1) ?hd (cs := #[.int .i64 a0_0, .slice A0_1 l0_1.length c0_1]) (t := 33) ?hr ?_; (case hd => rfl); (case hg => rfl); (case hr => first | (go_simp; done) | (go_simp; rfl)); intro gb357 hg w4 hbox hb; have BK357 := Aside0.mk (hbox); have GW357 := Aside0.mk ((by rw [hg]; exact (below_size (Lz HB)) : w.heap.size ≤ gb357)); have GE357 := Aside0.mk ((by rw [hg]; exact (below_size (Lz HB)) : w.heap.size ≤ gb357)); replace HB := Aside0.mk (below_step (Lz HB) hb); clear hb hbox hg; have hcz5_0 : w4.cell? ⟨gb357, 0, none⟩ = some (.int .i64 a0_0) := (blk_cell BK357.out 0).trans rfl; have hcz5_1 : w4.cell? ⟨gb357, 1, none⟩ = some (.slice A0_1 l0_1.length c0_1) := (blk_cell BK357.out 1).trans rfl; have hfz5_0 := blk_frozen BK357.out 0; have hfz5_1 := blk_frozen BK357.out 1) | ((with_reducible refine gate_callee (f := 24) rfl ?_); refine goesM_ (some 13) rfl rfl Try.func24 (by kernel_rfl) rfl #[.agg #[.int .i64 a0_0, .slice A0_1 l0_1.length c0_1], .int .i64 1048576] rfl ?_; (with_reducible refine (laws_szGraph.calls a0_0 _ _ l0_1 1048576 t358 _ ?side1 ?side2 A2.out).mono ?_); (case side1 => exact Cz ((Kd.C_below HR0_1.out HB.out))); (case side2 => exact HC0_1.out); rintro e w6 ⟨rfl, hb⟩; refine ⟨_, rfl, ?_⟩; replace BK357 := Aside0.mk (blk_below (g := gb357) (o := .cells #[.int .i64 a0_0, .slice A0_1 l0_1.length c0_1] 33 (0, 0)) (Bz BK357) hb); replace HB := Aside0.mk (below_step (by exact Lz1 HB GE357) hb); (try clear hb); (try clear hb2); (try clear hk); (try clear hi)))
 (try simp only [Act.put, List.setIfInBounds_toArray, List.set_cons_zero, List.set_cons_succ])
 go_cut [] (fun wc => ∃ (kq : Nat), Aside0 (laws_FnExactCanonicalOf.j0 kq a0_0 l0_1 = some r) ∧ Aside0 (kq ≤ k) ∧ Aside0 (wc.heap[gb357]? = some (.cells #[.int .i64 a0_0, (.slice A0_1 l0_1.length c0_1)] 33 (0, 0))) ∧ Aside0 (Below w.heap.size w wc))
 case first =>
  have H := HC3.out
  clear HC3
  by_cases c7 : t358 < 0
  ·rw [if_pos c7] at H
   have c7b0 : decide (t358 < 0) = true := decide_eq_true c7
   clear c7
   (first | rw [c7b0] | (simp only [i64_w, i32_w]; rw [c7b0]) | skip)
   obtain rfl := Option.some.inj H
   go_wp2
   go_ret
   exact ⟨by first | rfl | (simp [errW_none, errW_some] <;> rfl) | (simp [*, errW_none, errW_some] <;> rfl), by exact Lz1 HB GE357⟩
  rw [if_neg c7] at H
  have c7b0 : decide (t358 < 0) = false := decide_eq_false c7
  clear c7
  (first | rw [c7b0] | (simp only [i64_w, i32_w]; rw [c7b0]) | skip)
  have H' := Aside0.mk H
  clear H
  go_wp2
  go_meet
  case rel => exact ⟨_, H', ⟨by first | omega | exact Nat.le_refl _⟩, ⟨by exact Bz BK357⟩, ⟨by exact Lz1 HB GE357⟩⟩
 case rest =>
  clear HC3
  try clear c7
  try clear c7b0
  obtain ⟨kq, HA, HJ2, BK357, HB⟩ := hcut
  cases kq with
  | zero => exact absurd HA.out (by simp [laws_FnExactCanonicalOf.j0])
  | succ kj2 =>
   have H := HA.out
   clear HA
   simp only [laws_FnExactCanonicalOf.j0] at H
   replace H := Option.bind_eq_some_iff.mp H
   obtain ⟨⟨t359, t360⟩, A80, H⟩ := H
   replace H : ((spec_CanonicalOf.f kj2 t359 t360).bind fun t363 => ((laws_toGraph.f kj2 a0_0 l0_1).bind fun bt366 => ((impl_CanonicalOf.f kj2 bt366.1 bt366.2).bind fun t371 => ((laws_eqIntS.f kj2 t371 t363).bind fun t374 => (if t374 = true then (laws_FnExactCanonicalOf.j1 kj2 t363 t371 a0_0 l0_1 bt366.1 bt366.2) else (some false)))))) = some r := H
   have A8 := Aside0.mk A80
   clear A80
   replace H := Option.bind_eq_some_iff.mp H
   obtain ⟨t363, A90, H⟩ := H
   replace H : ((laws_toGraph.f kj2 a0_0 l0_1).bind fun bt366 => ((impl_CanonicalOf.f kj2 bt366.1 bt366.2).bind fun t371 => ((laws_eqIntS.f kj2 t371 t363).bind fun t374 => (if t374 = true then (laws_FnExactCanonicalOf.j1 kj2 t363 t371 a0_0 l0_1 bt366.1 bt366.2) else (some false))))) = some r := H
   have A9 := Aside0.mk A90
   clear A90
   replace H := Option.bind_eq_some_iff.mp H
   obtain ⟨⟨t366, t367⟩, A100, H⟩ := H
   replace H : ((impl_CanonicalOf.f kj2 t366 t367).bind fun t371 => ((laws_eqIntS.f kj2 t371 t363).bind fun t374 => (if t374 = true then (laws_FnExactCanonicalOf.j1 kj2 t363 t371 a0_0 l0_1 t366 t367) else (some false)))) = some r := H
   have A10 := Aside0.mk A100
   clear A100
   replace H := Option.bind_eq_some_iff.mp H
   obtain ⟨t371, A110, H⟩ := H
   replace H : ((laws_eqIntS.f kj2 t371 t363).bind fun t374 => (if t374 = true then (laws_FnExactCanonicalOf.j1 kj2 t363 t371 a0_0 l0_1 t366 t367) else (some false))) = some r := H
   have A11 := Aside0.mk A110
   clear A110
   replace H := Option.bind_eq_some_iff.mp H
   obtain ⟨t374, A120, H⟩ := H
   replace H : (if t374 = true then (laws_FnExactCanonicalOf.j1 kj2 t363 t371 a0_0 l0_1 t366 t367) else (some false)) = some r := H
   have A12 := Aside0.mk A120
   clear A120
   have HC13 := Aside0.mk H
   clear H
   have hcz14_0 : wc.cell? ⟨gb357, 0, none⟩ = some (.int .i64 a0_0) := (blk_cell BK357.out 0).trans rfl
   have hcz14_1 : wc.cell? ⟨gb357, 1, none⟩ = some (.slice A0_1 l0_1.length c0_1) := (blk_cell BK357.out 1).trans rfl
   have hfz14_0 := blk_frozen BK357.out 0
   have hfz14_1 := blk_frozen BK357.out 1
   go_upto_if 26 with (first | ((with_reducible refine gate_callee (f := 26) rfl ?_); refine goesM_ (some 17) rfl rfl Try.func26 (by kernel_rfl) rfl #[.agg #[.int .i64 a0_0, .slice A0_1 l0_1.length c0_1]] rfl ?_; (with_reducible refine (laws_toGraph.calls kj2 a0_0 _ _ l0_1 t359 t360 _ ?side1 ?side2 A8.out).mono ?_); (case side1 => exact Cz ((Kd.C_below HR0_1.out HB.out))); (case side2 => exact HC0_1.out); rintro e w15 ⟨v361, rfl, ho0, hb⟩; refine ⟨_, rfl, ?_⟩; have HO362 := Aside0.mk (Kd.R_lower ho0 (below_size (by exact Lz1 HB GE357))); replace BK357 := Aside0.mk (blk_below (g := gb357) (o := .cells #[.int .i64 a0_0, .slice A0_1 l0_1.length c0_1] 33 (0, 0)) (Bz BK357) hb); replace HB := Aside0.mk (below_step (by exact Lz1 HB GE357) hb); (try clear hb); (try clear ho0); obtain ⟨Ao16, co16, eo16⟩ := Kd.R_slice HO362.out; subst eo16) | ((with_reducible refine gate_callee (f := 31) rfl ?_); refine goesM_ (some 18) rfl rfl Try.func31 (by kernel_rfl) rfl #[.agg #[.int .i64 t359, .slice Ao16 t360.length co16]] rfl ?_; (with_reducible refine (spec_CanonicalOf.calls kj2 t359 _ _ t360 t363 _ ?side1 ?side2 A9.out).mono ?_); (case side1 => exact Cz ((Kd.R_reads' HO362.out).2.2)); (case side2 => exact (Kd.R_reads' HO362.out).2.1); rintro e w17 ⟨v364, rfl, ho0, hb⟩; refine ⟨_, rfl, ?_⟩; replace HO362 := Aside0.mk (Kd.R_below (Rz HO362) hb); have HO365 := Aside0.mk (Kd.R_lower ho0 (below_size (by exact Lz1 HB GE357))); replace BK357 := Aside0.mk (blk_below (g := gb357) (o := .cells #[.int .i64 a0_0, .slice A0_1 l0_1.length c0_1] 33 (0, 0)) (Bz BK357) hb); replace HB := Aside0.mk (below_step (by exact Lz1 HB GE357) hb); (try clear hb); (try clear ho0); have hcz18_0 : w17.cell? ⟨gb357, 0, none⟩ = some (.int .i64 a0_0) := (blk_cell BK357.out 0).trans rfl; have hcz18_1 : w17.cell? ⟨gb357, 1, none⟩ = some (.slice A0_1 l0_1.length c0_1) := (blk_cell BK357.out 1).trans rfl; have hfz18_0 := blk_frozen BK357.out 0; have hfz18_1 := blk_frozen BK357.out 1) | ((with_reducible refine gate_callee (f := 26) rfl ?_); refine goesM_ (some 20) rfl rfl Try.func26 (by kernel_rfl) rfl #[.agg #[.int .i64 a0_0, .slice A0_1 l0_1.length c0_1]] rfl ?_; (with_reducible refine (laws_toGraph.calls kj2 a0_0 _ _ l0_1 t366 t367 _ ?side1 ?side2 A10.out).mono ?_); (case side1 => exact Cz ((Kd.C_below HR0_1.out HB.out))); (case side2 => exact HC0_1.out); rintro e w19 ⟨v368, rfl, ho0, hb⟩; refine ⟨_, rfl, ?_⟩; replace HO365 := Aside0.mk (Kd.R_below (Rz HO365) hb); have HO369 := Aside0.mk (Kd.R_lower (Kd.R_new' ho0 (Kd.R_lt (Rz HO362))) (below_size (by exact Lz1 HB GE357))); replace HO362 := Aside0.mk (Kd.R_elder' (Rz HO362) (Kd.R_base ho0) hb); replace BK357 := Aside0.mk (blk_below (g := gb357) (o := .cells #[.int .i64 a0_0, .slice A0_1 l0_1.length c0_1] 33 (0, 0)) (Bz BK357) hb); replace HB := Aside0.mk (below_step (by exact Lz1 HB GE357) hb); (try clear hb); (try clear ho0)) | ((with_reducible refine gate_dst (N := 5) rfl ?_); refine box_event ?hg (N := 5) ?hd (cs := #[.int .i64 0, .slice none 0 0]) (t := 37) ?hr ?_; (case hd => rfl); (case hg => rfl); (case hr => first | (go_simp; done) | (go_simp; rfl)); intro gb370 hg w20 hbox hb; replace HO362 := Aside0.mk (Kd.R_below (Rz HO362) hb); replace HO365 := Aside0.mk (Kd.R_below (Rz HO365) hb); replace HO369 := Aside0.mk (Kd.R_below (Rz HO369) hb); have BK370 := Aside0.mk (hbox); have GW370 := Aside0.mk ((by rw [hg]; exact (below_size (by exact Lz1 HB GE357)) : w.heap.size ≤ gb370)); have GE370 := Aside0.mk ((by rw [hg]; exact (below_size (by exact Lz1 HB GE357)) : w.heap.size ≤ gb370)); replace HB := Aside0.mk (below_step (by exact Lz1 HB GE357) hb); have NB357_370 := Aside0.mk ((by rw [hg]; exact Nat.ne_of_lt (blk_lt (g := gb357) (o := .cells #[.int .i64 a0_0, .slice A0_1 l0_1.length c0_1] 33 (0, 0)) (Bz BK357)) : gb357 ≠ gb370)); have NB370_357 := Aside0.mk ((by rw [hg]; exact Nat.ne_of_gt (blk_lt (g := gb357) (o := .cells #[.int .i64 a0_0, .slice A0_1 l0_1.length c0_1] 33 (0, 0)) (Bz BK357)) : gb370 ≠ gb357)); replace BK357 := Aside0.mk (blk_below (g := gb357) (o := .cells #[.int .i64 a0_0, .slice A0_1 l0_1.length c0_1] 33 (0, 0)) (Bz BK357) hb); clear hb hbox hg; have hnb21 := NB370_357.out; have hnc21 := NB357_370.out; have hcz22_0 : w20.cell? ⟨gb370, 0, none⟩ = some (.int .i64 0) := (blk_cell BK370.out 0).trans rfl; have hcz22_1 : w20.cell? ⟨gb370, 1, none⟩ = some (.slice none 0 0) := (blk_cell BK370.out 1).trans rfl; have hfz22_0 := blk_frozen BK370.out 0; have hfz22_1 := blk_frozen BK370.out 1; obtain ⟨Ao23, co23, eo23⟩ := Kd.R_slice HO369.out; subst eo23) | ((with_reducible refine gate_callee (f := 32) rfl ?_); refine goesM_ (some 22) rfl rfl Try.func32 (by kernel_rfl) rfl #[.agg #[.int .i64 t366, .slice Ao23 t367.length co23]] rfl ?_; (with_reducible refine (impl_CanonicalOf.calls kj2 t366 _ _ t367 t371 _ ?side1 ?side2 A11.out).mono ?_); (case side1 => refine (Kd.R_reads' (e := 68) (base := w.heap.size) (ok := fun k_ => (True ∧ some k_ ≠ (.slice Ao16 t360.length co16 : Value).ownBlock)) (n := t367.length) (c := co23) ?_).2.2; exact (by (with_reducible repeat (first | apply Kd.R_alloc | apply Kd.R_drewN | apply Kd.R_drew)); exact (Kd.R_mono (Kd.R_far (p := ⟨gb370, 1, none⟩) (Kd.R_far (p := ⟨gb370, 0, none⟩) (Kd.R_types HO369.out BK370.out (by decide)) (fun _ hk => hk.2) (.int .i64 t366)) (fun _ hk => hk.2) (.slice Ao23 t367.length co23)) (fun _ h_ => h_.1)))); (case side2 => exact (Kd.R_reads' HO369.out).2.1); rintro e w24 ⟨v372, rfl, ho0, hb⟩; refine ⟨_, rfl, ?_⟩; replace HO362 := Aside0.mk (Kd.R_below (by (with_reducible repeat (first | apply Kd.R_alloc | apply Kd.R_drewN | apply Kd.R_drew)); exact (Kd.R_mono (Kd.R_far (p := ⟨gb370, 1, none⟩) (Kd.R_far (p := ⟨gb370, 0, none⟩) (Kd.R_types HO362.out BK370.out (by decide)) (fun _ hk => hk.2) (.int .i64 t366)) (fun _ hk => hk.2) (.slice Ao23 t367.length co23)) (fun _ h_ => h_.1))) hb); replace HO369 := Aside0.mk (Kd.R_below (by (with_reducible repeat (first | apply Kd.R_alloc | apply Kd.R_drewN | apply Kd.R_drew)); exact (Kd.R_mono (Kd.R_far (p := ⟨gb370, 1, none⟩) (Kd.R_far (p := ⟨gb370, 0, none⟩) (Kd.R_types HO369.out BK370.out (by decide)) (fun _ hk => hk.2) (.int .i64 t366)) (fun _ hk => hk.2) (.slice Ao23 t367.length co23)) (fun _ h_ => h_.1))) hb); have HO373 := Aside0.mk (Kd.R_lower (Kd.R_new' ho0 (Kd.R_lt (by (with_reducible repeat (first | apply Kd.R_alloc | apply Kd.R_drewN | apply Kd.R_drew)); exact (Kd.R_mono (Kd.R_far (p := ⟨gb370, 1, none⟩) (Kd.R_far (p := ⟨gb370, 0, none⟩) (Kd.R_types HO365.out BK370.out (by decide)) (fun _ hk => hk.2) (.int .i64 t366)) (fun _ hk => hk.2) (.slice Ao23 t367.length co23)) (fun _ h_ => h_.1))))) (below_size (by exact Lz2 HB GE357 GE370))); replace HO365 := Aside0.mk (Kd.R_elder' (by (with_reducible repeat (first | apply Kd.R_alloc | apply Kd.R_drewN | apply Kd.R_drew)); exact (Kd.R_mono (Kd.R_far (p := ⟨gb370, 1, none⟩) (Kd.R_far (p := ⟨gb370, 0, none⟩) (Kd.R_types HO365.out BK370.out (by decide)) (fun _ hk => hk.2) (.int .i64 t366)) (fun _ hk => hk.2) (.slice Ao23 t367.length co23)) (fun _ h_ => h_.1))) (Kd.R_base ho0) hb); replace BK357 := Aside0.mk (blk_below (g := gb357) (o := .cells #[.int .i64 a0_0, .slice A0_1 l0_1.length c0_1] 33 (0, 0)) (by (with_reducible repeat (first | refine blk_drewN ?_ _ | refine blk_drew ?_ | refine blk_alloc ?_ _)); refine blk_far ?_ NB357_370.out _; (with_reducible repeat (first | refine blk_drewN ?_ _ | refine blk_drew ?_ | refine blk_alloc ?_ _)); refine blk_far ?_ NB357_370.out _; exact Bz BK357) hb); replace BK370 := Aside0.mk (blk_below (g := gb370) (o := .cells #[.int .i64 t366, .slice Ao23 t367.length co23] 37 (0, 0)) (by (with_reducible repeat (first | refine blk_drewN ?_ _ | refine blk_drew ?_ | refine blk_alloc ?_ _)); refine blk_put (cs := #[.int .i64 t366, .slice none 0 0]) ?_ 1 _ rfl; (with_reducible repeat (first | refine blk_drewN ?_ _ | refine blk_drew ?_ | refine blk_alloc ?_ _)); refine blk_put (cs := #[.int .i64 0, .slice none 0 0]) ?_ 0 _ rfl; exact Bz BK370) hb); replace HB := Aside0.mk (below_step (by exact Lz2 HB GE357 GE370) hb); (try clear hb); (try clear ho0); obtain ⟨Ao25, co25, eo25⟩ := Kd.R_slice HO373.out; subst eo25; obtain ⟨Ao26, co26, eo26⟩ := Kd.R_slice HO365.out; subst eo26) | ((with_reducible refine gate_callee (f := 19) rfl ?_); refine goesM_ (some 25) rfl rfl Try.func19 (by kernel_rfl) rfl #[.slice Ao25 t371.length co25, .slice Ao26 t363.length co26] rfl ?_; (with_reducible refine (laws_eqIntS.calls kj2 _ _ t371 _ _ t363 t374 _ ?side1 ?side2 ?side3 ?side4 A12.out).mono ?_); (case side1 => exact Cz ((Kd.R_reads' HO373.out).2.2)); (case side2 => exact (Kd.R_reads' HO373.out).2.1); (case side3 => exact Cz ((Kd.R_reads' HO365.out).2.2)); (case side4 => exact (Kd.R_reads' HO365.out).2.1); rintro e w' ⟨rfl, ⟨nd, rfl⟩⟩; refine ⟨_, rfl, ?_⟩))
   (try simp only [Act.put, List.setIfInBounds_toArray, List.set_cons_zero, List.set_cons_succ])
   go_cut [] (fun wc => ∃ (kq : Nat), Aside0 (laws_FnExactCanonicalOf.j1 kq t363 t371 a0_0 l0_1 t366 t367 = some r) ∧ Aside0 (kq ≤ kj2) ∧ Aside0 (Kd.R (Kd.int .i64) 3 wc w.heap.size (fun k_ => some k_ ≠ ((.slice Ao25 t371.length co25) : Value).ownBlock) (.slice Ao26 t363.length co26) t363) ∧ Aside0 (Kd.R (Kd.int .i64) 3 wc w.heap.size (fun k_ => some k_ ≠ ((.slice Ao26 t363.length co26) : Value).ownBlock) (.slice Ao25 t371.length co25) t371) ∧ Aside0 (Kd.R k68 68 wc w.heap.size (fun _ => True) (.slice Ao23 t367.length co23) t367) ∧ Aside0 (wc.heap[gb357]? = some (.cells #[.int .i64 a0_0, (.slice A0_1 l0_1.length c0_1)] 33 (0, 0))) ∧ Aside0 (wc.heap[gb370]? = some (.cells #[.int .i64 t366, (.slice Ao23 t367.length co23)] 37 (0, 0))) ∧ Aside0 (Below w.heap.size w wc))
   case first =>
    have H := HC13.out
    clear HC13
    by_cases c27 : t374 = true
    ·subst c27
     have H1 : (laws_FnExactCanonicalOf.j1 kj2 t363 t371 a0_0 l0_1 t366 t367) = some r := by rw [if_pos rfl] at H; exact H
     clear H
     have H := H1
     clear H1
     have H' := Aside0.mk H
     clear H
     go_wp2
     go_meet
     case rel => exact ⟨_, H', ⟨by have := HJ2.out; first | omega | exact Nat.le_refl _⟩, ⟨by (with_reducible repeat (first | apply Kd.R_alloc | apply Kd.R_drewN | apply Kd.R_drew)); exact Kd.R_mono HO365.out (fun _ hk => hk.2)⟩, ⟨by (with_reducible repeat (first | apply Kd.R_alloc | apply Kd.R_drewN | apply Kd.R_drew)); exact Kd.R_mono HO373.out (fun _ hk => hk.2)⟩, ⟨by (with_reducible repeat (first | apply Kd.R_alloc | apply Kd.R_drewN | apply Kd.R_drew)); exact Kd.R_mono HO369.out (fun _ hk => trivial)⟩, ⟨by exact Bz BK357⟩, ⟨by exact Bz BK370⟩, ⟨by exact Lz2 HB GE357 GE370⟩⟩
    replace c27 := Bool.eq_false_iff.mpr c27
    subst c27
    have H1 : (some false) = some r := by rw [if_neg (show ¬ (false = true) by decide)] at H; exact H
    clear H
    have H := H1
    clear H1
    obtain rfl := Option.some.inj H
    go_wp2
    go_ret
    exact ⟨by first | rfl | (simp [errW_none, errW_some] <;> rfl) | (simp [*, errW_none, errW_some] <;> rfl), by exact Lz2 HB GE357 GE370⟩
   case rest =>
    clear HC13
    try clear c7
    try clear c7b0
    try clear c27
    obtain ⟨kq, HA, HJ12, HO_4, HO_6, HO_371001, BK357, BK370, HB⟩ := hcut
    cases kq with
    | zero => exact absurd HA.out (by simp [laws_FnExactCanonicalOf.j1])
    | succ kj12 =>
     have H := HA.out
     clear HA
     simp only [laws_FnExactCanonicalOf.j1] at H
     replace H := Option.bind_eq_some_iff.mp H
     obtain ⟨⟨t375, t376⟩, A280, H⟩ := H
     replace H : ((laws_eqGraph.f kj12 t366 t367 t375 t376).bind fun t379 => (if t379 = true then (laws_FnExactCanonicalOf.j2 kj12 t363 t371 a0_0 l0_1 t366 t367) else (some false))) = some r := H
     have A28 := Aside0.mk A280
     clear A280
     replace H := Option.bind_eq_some_iff.mp H
     obtain ⟨t379, A290, H⟩ := H
     replace H : (if t379 = true then (laws_FnExactCanonicalOf.j2 kj12 t363 t371 a0_0 l0_1 t366 t367) else (some false)) = some r := H
     have A29 := Aside0.mk A290
     clear A290
     have HC30 := Aside0.mk H
     clear H
     try go_wp2
     replace HO_4 := Aside0.mk (Kd.R_drew HO_4.out)
     replace HO_6 := Aside0.mk (Kd.R_drew HO_6.out)
     replace HO_371001 := Aside0.mk (Kd.R_drew HO_371001.out)
     replace BK357 := Aside0.mk (blk_drew BK357.out)
     replace BK370 := Aside0.mk (blk_drew BK370.out)
     replace HB := Aside0.mk (below_drew1 HB.out)
     refine start_ (n := 5) (S := fun w' => w'.cell? ⟨gb370, 0, none⟩ = some (.int .i64 t366) ∧ w'.cell? ⟨gb370, 1, none⟩ = some (.slice Ao23 t367.length co23) ∧ w'.cell? ⟨gb357, 0, none⟩ = some (.int .i64 a0_0) ∧ w'.cell? ⟨gb357, 1, none⟩ = some (.slice A0_1 l0_1.length c0_1)) (ds := []) #[false, false, false, false, false] (by kernel_rfl) rfl rfl ⟨(blk_cell BK370.out 0).trans rfl, (blk_cell BK370.out 1).trans rfl, (blk_cell BK357.out 0).trans rfl, (blk_cell BK357.out 1).trans rfl⟩ (fun hHeld => ?_)
     generalize wc.drew = w31 at HO_4 HO_6 HO_371001 BK357 BK370 HB hHeld ⊢
     refine take_ (i := 0) (N := some 27) (v := ?_) (a' := ?_) #[true, false, false, false, false] rfl rfl (by kernel_rfl) (fun _ _ _ h => h) (Or.inl ⟨by rfl, ?_⟩) hHeld ?_ ?_
     rotate_left
     ·rintro w' ⟨s0, s1, s2, s3⟩
      go_simp
      with_reducible rfl
     rotate_left
     ·simp only [Act.put, List.setIfInBounds_toArray, List.set_cons_zero, List.set_cons_succ, i64_w, i32_w]
      rfl
     refine take_ (i := 1) (N := some 28) (v := ?_) (a' := ?_) #[true, true, false, false, false] rfl rfl (by kernel_rfl) (fun _ _ _ h => h) (Or.inl ⟨by rfl, ?_⟩) hHeld ?_ ?_
     rotate_left
     ·rintro w' ⟨s0, s1, s2, s3⟩
      go_simp
      with_reducible rfl
     rotate_left
     ·simp only [Act.put, List.setIfInBounds_toArray, List.set_cons_zero, List.set_cons_succ, i64_w, i32_w]
      rfl
     refine one_ (i := 2) (N := some 29) #[true, true, true, false, false] rfl rfl (by kernel_rfl) (by decide) (fun K hK => ?_)
     refine goes_ Try.func26 (by kernel_rfl) rfl #[.agg #[.int .i64 a0_0, .slice A0_1 l0_1.length c0_1]] (by rfl) rfl rfl (by (try simp only [List.map_toArray, List.map_cons, List.map_nil]); first | done | rfl | (simp only [List.length_drop, List.length_take]; rfl)) ?_
     with_reducible refine (laws_toGraph.calls kj12 a0_0 _ _ l0_1 t375 t376 _ ?side1 ?side2 A28.out).mono ?_
     (case side1 => exact Cz ((Kd.C_below HR0_1.out HB.out)))
     (case side2 => exact HC0_1.out)
     rintro e w32 ⟨v377, rfl, ho0, hb⟩
     refine ⟨_, rfl, ?_⟩
     replace HO_4 := Aside0.mk (Kd.R_below (Rz HO_4) hb)
     replace HO_6 := Aside0.mk (Kd.R_below (Rz HO_6) hb)
     have HO378 := Aside0.mk (Kd.R_lower (Kd.R_new' ho0 (Kd.R_lt (Rz HO_371001))) (below_size (by exact Lz2 HB GE357 GE370)))
     replace HO_371001 := Aside0.mk (Kd.R_elder' (Rz HO_371001) (Kd.R_base ho0) hb)
     replace BK357 := Aside0.mk (blk_below (g := gb357) (o := .cells #[.int .i64 a0_0, .slice A0_1 l0_1.length c0_1] 33 (0, 0)) (Bz BK357) hb)
     replace BK370 := Aside0.mk (blk_below (g := gb370) (o := .cells #[.int .i64 t366, .slice Ao23 t367.length co23] 37 (0, 0)) (Bz BK370) hb)
     replace HB := Aside0.mk (below_step (by exact Lz2 HB GE357 GE370) hb)
     (try clear hb)
     (try clear hb2)
     (try clear hk)
     (try clear hi)
     (try clear ho0)
     obtain ⟨Ao33, co33, eo33⟩ := Kd.R_slice HO378.out
     (first | subst eo33 | (injection eo33 with f1_ f2_ f3_; have f4_ := f1_.symm; have f5_ := f3_.symm; clear f1_ f2_ f3_; subst f4_; subst f5_))
     refine hK.out _ _ ⟨(blk_cell BK370.out 0).trans rfl, (blk_cell BK370.out 1).trans rfl, (blk_cell BK357.out 0).trans rfl, (blk_cell BK357.out 1).trans rfl⟩ (fun hHeld => ?_)
     clear hK K
     refine norm_ (a' := ?_) ?_ ?_
     rotate_left
     ·show Act.put _ (some 29) _ = _
      simp only [Act.put, List.setIfInBounds_toArray, List.set_cons_zero, List.set_cons_succ, i64_w, i32_w]
      rfl
     refine one_ (i := 3) (N := some 30) #[true, true, true, true, false] rfl rfl (by kernel_rfl) (by decide) (fun K hK => ?_)
     refine goes_ Try.func28 (by kernel_rfl) rfl #[.agg #[.int .i64 t366, .slice Ao23 t367.length co23], .agg #[.int .i64 t375, .slice Ao33 t376.length co33]] (by rfl) rfl rfl (by (try simp only [List.map_toArray, List.map_cons, List.map_nil]); first | done | rfl | (simp only [List.length_drop, List.length_take]; rfl)) ?_
     with_reducible refine (laws_eqGraph.calls kj12 t366 _ _ t367 t375 _ _ t376 t379 _ ?side1 ?side2 ?side3 ?side4 A29.out).mono ?_
     (case side1 => exact Cz ((Kd.R_reads' HO_371001.out).2.2))
     (case side2 => exact (Kd.R_reads' HO_371001.out).2.1)
     (case side3 => exact Cz ((Kd.R_reads' HO378.out).2.2))
     (case side4 => exact (Kd.R_reads' HO378.out).2.1)
     rintro e w34 ⟨rfl, hb⟩
     refine ⟨_, rfl, ?_⟩
     replace HO_4 := Aside0.mk (Kd.R_below (Rz HO_4) hb)
     replace HO_6 := Aside0.mk (Kd.R_below (Rz HO_6) hb)
     replace HO_371001 := Aside0.mk (Kd.R_below (Rz HO_371001) hb)
     replace HO378 := Aside0.mk (Kd.R_below (Rz HO378) hb)
     replace BK357 := Aside0.mk (blk_below (g := gb357) (o := .cells #[.int .i64 a0_0, .slice A0_1 l0_1.length c0_1] 33 (0, 0)) (Bz BK357) hb)
     replace BK370 := Aside0.mk (blk_below (g := gb370) (o := .cells #[.int .i64 t366, .slice Ao23 t367.length co23] 37 (0, 0)) (Bz BK370) hb)
     replace HB := Aside0.mk (below_step (by exact Lz2 HB GE357 GE370) hb)
     (try clear hb)
     (try clear hb2)
     (try clear hk)
     (try clear hi)
     refine hK.out _ _ ⟨(blk_cell BK370.out 0).trans rfl, (blk_cell BK370.out 1).trans rfl, (blk_cell BK357.out 0).trans rfl, (blk_cell BK357.out 1).trans rfl⟩ (fun hHeld => ?_)
     clear hK K
     refine norm_ (a' := ?_) ?_ ?_
     rotate_left
     ·show Act.put _ (some 30) _ = _
      simp only [Act.put, List.setIfInBounds_toArray, List.set_cons_zero, List.set_cons_succ, i64_w, i32_w]
      rfl
     refine pure_ (i := 4) (N := some 31) (v := ?_) (a' := ?_) #[true, true, true, true, true] rfl rfl (by kernel_rfl) (fun _ _ _ h => h) (Or.inl ⟨by rfl, ?_⟩) ?_ ?_
     rotate_left
     ·intro w'
      go_simp
      with_reducible rfl
     rotate_left
     ·simp only [Act.put, List.setIfInBounds_toArray, List.set_cons_zero, List.set_cons_succ, i64_w, i32_w]
      rfl
     refine done_ (by kernel_rfl) ?_
     go_upto_if 31 with (fail)
     go_cut [] (fun wc => ∃ (kq : Nat), Aside0 (laws_FnExactCanonicalOf.j2 kq t363 t371 a0_0 l0_1 t366 t367 = some r) ∧ Aside0 (kq ≤ kj12) ∧ Aside0 (Kd.R (Kd.int .i64) 3 wc w.heap.size (fun k_ => some k_ ≠ ((.slice Ao25 t371.length co25) : Value).ownBlock) (.slice Ao26 t363.length co26) t363) ∧ Aside0 (Kd.R (Kd.int .i64) 3 wc w.heap.size (fun k_ => some k_ ≠ ((.slice Ao26 t363.length co26) : Value).ownBlock) (.slice Ao25 t371.length co25) t371) ∧ Aside0 (Kd.R k68 68 wc w.heap.size (fun _ => True) (.slice Ao23 t367.length co23) t367) ∧ Aside0 (wc.heap[gb357]? = some (.cells #[.int .i64 a0_0, (.slice A0_1 l0_1.length c0_1)] 33 (0, 0))) ∧ Aside0 (wc.heap[gb370]? = some (.cells #[.int .i64 t366, (.slice Ao23 t367.length co23)] 37 (0, 0))) ∧ Aside0 (Below w.heap.size w wc))
     case first =>
      have H := HC30.out
      clear HC30
      by_cases c35 : t379 = true
      ·subst c35
       have H1 : (laws_FnExactCanonicalOf.j2 kj12 t363 t371 a0_0 l0_1 t366 t367) = some r := by rw [if_pos rfl] at H; exact H
       clear H
       have H := H1
       clear H1
       have H' := Aside0.mk H
       clear H
       go_wp2
       go_meet
       case rel => exact ⟨_, H', ⟨by have := HJ2.out; have := HJ12.out; first | omega | exact Nat.le_refl _⟩, ⟨by exact Rz HO_4⟩, ⟨by exact Rz HO_6⟩, ⟨by (with_reducible repeat (first | apply Kd.R_alloc | apply Kd.R_drewN | apply Kd.R_drew)); exact Kd.R_mono HO_371001.out (fun _ hk => trivial)⟩, ⟨by exact Bz BK357⟩, ⟨by exact Bz BK370⟩, ⟨by exact Lz2 HB GE357 GE370⟩⟩
      replace c35 := Bool.eq_false_iff.mpr c35
      subst c35
      have H1 : (some false) = some r := by rw [if_neg (show ¬ (false = true) by decide)] at H; exact H
      clear H
      have H := H1
      clear H1
      obtain rfl := Option.some.inj H
      go_wp2
      go_ret
      exact ⟨by first | rfl | (simp [errW_none, errW_some] <;> rfl) | (simp [*, errW_none, errW_some] <;> rfl), by exact Lz2 HB GE357 GE370⟩
     case rest =>
      clear HC30
      try clear c7
      try clear c7b0
      try clear c27
      try clear c35
      obtain ⟨kq, HA, HJ29, HO_4, HO_6, HO_371001, BK357, BK370, HB⟩ := hcut
      cases kq with
      | zero => exact absurd HA.out (by simp [laws_FnExactCanonicalOf.j2])
      | succ kj29 =>
       have H := HA.out
       clear HA
       simp only [laws_FnExactCanonicalOf.j2] at H
       replace H := Option.bind_eq_some_iff.mp H
       obtain ⟨⟨t380, t381⟩, A360, H⟩ := H
       replace H : (if t380 < 0 then (laws_FnExactCanonicalOf.j3 kj29 t363 t371 true a0_0 l0_1) else ((laws_eqIntS.f kj29 t371 t363).bind fun t382 => (laws_FnExactCanonicalOf.j3 kj29 t363 t371 (!t382) a0_0 l0_1))) = some r := H
       have A36 := Aside0.mk A360
       clear A360
       have HC37 := Aside0.mk H
       clear H
       have hnb38 := NB370_357.out
       have hnc38 := NB357_370.out
       have hcz39_0 : wc.cell? ⟨gb370, 0, none⟩ = some (.int .i64 t366) := (blk_cell BK370.out 0).trans rfl
       have hcz39_1 : wc.cell? ⟨gb370, 1, none⟩ = some (.slice Ao23 t367.length co23) := (blk_cell BK370.out 1).trans rfl
       have hfz39_0 := blk_frozen BK370.out 0
       have hfz39_1 := blk_frozen BK370.out 1
       go_upto_region 14 with (first | ((with_reducible refine gate_callee (f := 29) rfl ?_); refine goesM_ (some 34) rfl rfl Try.func29 (by kernel_rfl) rfl #[.agg #[.int .i64 t366, .slice Ao23 t367.length co23], .int .i64 1] rfl ?_; (with_reducible refine (laws_markGraph.calls kj29 t366 (fun k_ => some k_ = (.slice Ao23 t367.length co23 : Value).ownBlock) (.slice Ao23 t367.length co23) t367 1 t380 t381 w _ ?side1 ?side2 A36.out).mono ?_); (case side1 => exact Lz2 HB GE357 GE370); (case side2 => exact Kd.R_tight rfl HO_371001.out); rintro e w40 ⟨rfl, hy0, hb, hkp⟩; refine ⟨_, rfl, ?_⟩; replace HO_4 := Aside0.mk (Kd.R_mono (ok' := fun k_ => some k_ ≠ (.slice Ao25 t371.length co25 : Value).ownBlock) (Kd.R_keptB ((Kd.R_apart' HO_4.out (Kd.R_typed HO_371001.out) (by decide))) hkp (fun k_ hk_ hs_ => (hk_.2) hs_)) (fun k_ hk_ => hk_.1.1)); replace HO_6 := Aside0.mk (Kd.R_mono (ok' := fun k_ => some k_ ≠ (.slice Ao26 t363.length co26 : Value).ownBlock) (Kd.R_keptB ((Kd.R_apart' HO_6.out (Kd.R_typed HO_371001.out) (by decide))) hkp (fun k_ hk_ hs_ => (hk_.2) hs_)) (fun k_ hk_ => hk_.1.1)); replace BK357 := Aside0.mk (blk_kept (Bz BK357) hkp (fun hs_ => (fun e_ => (Kd.R_ne HO_371001.out BK357.out (by decide)) e_) hs_)); replace BK370 := Aside0.mk (blk_kept (Bz BK370) hkp (fun hs_ => (fun e_ => (Kd.R_ne HO_371001.out BK370.out (by decide)) e_) hs_)); replace HO_371001 := Aside0.mk (Kd.R_reok rfl hy0 (fun k_ e_ => HO_371001.out.1 k_ e_)); replace HB := Aside0.mk (hb); (try clear hb); (try clear hkp); (try clear hy0)))
       (try simp only [Act.put, List.setIfInBounds_toArray, List.set_cons_zero, List.set_cons_succ])
       go_cut [42] (fun v42 wc => ∃ (kq : Nat) (x42_36 : Bool), v42 = .bool x42_36 ∧ Aside0 (laws_FnExactCanonicalOf.j3 kq t363 t371 x42_36 a0_0 l0_1 = some r) ∧ Aside0 (kq ≤ kj29) ∧ Aside0 (Kd.R (Kd.int .i64) 3 wc w.heap.size (fun k_ => some k_ ≠ ((.slice Ao25 t371.length co25) : Value).ownBlock) (.slice Ao26 t363.length co26) t363) ∧ Aside0 (Kd.R (Kd.int .i64) 3 wc w.heap.size (fun k_ => some k_ ≠ ((.slice Ao26 t363.length co26) : Value).ownBlock) (.slice Ao25 t371.length co25) t371) ∧ Aside0 (Kd.R k68 68 wc w.heap.size (fun _ => True) (.slice Ao23 t367.length co23) t381) ∧ Aside0 (wc.heap[gb357]? = some (.cells #[.int .i64 a0_0, (.slice A0_1 l0_1.length c0_1)] 33 (0, 0))) ∧ Aside0 (wc.heap[gb370]? = some (.cells #[.int .i64 t366, (.slice Ao23 t367.length co23)] 37 (0, 0))) ∧ Aside0 (Below w.heap.size w wc))
       case first =>
        have H := HC37.out
        clear HC37
        by_cases c41 : t380 < 0
        ·rw [if_pos c41] at H
         have c41b0 : decide (t380 < 0) = true := decide_eq_true c41
         clear c41
         (first | rw [c41b0] | (simp only [i64_w, i32_w]; rw [c41b0]) | skip)
         have H' := Aside0.mk H
         clear H
         go_wp2
         go_meet
         case rel => exact ⟨_, (true), (by first | rfl | (simp; done) | (simp [*]; done)), H', ⟨by have := HJ2.out; have := HJ12.out; have := HJ29.out; first | omega | exact Nat.le_refl _⟩, ⟨by exact Rz HO_4⟩, ⟨by exact Rz HO_6⟩, ⟨by exact Rz HO_371001⟩, ⟨by exact Bz BK357⟩, ⟨by exact Bz BK370⟩, ⟨by exact Lz2 HB GE357 GE370⟩⟩
        rw [if_neg c41] at H
        have c41b0 : decide (t380 < 0) = false := decide_eq_false c41
        clear c41
        (first | rw [c41b0] | (simp only [i64_w, i32_w]; rw [c41b0]) | skip)
        replace H := Option.bind_eq_some_iff.mp H
        obtain ⟨t382, A420, H⟩ := H
        replace H : (laws_FnExactCanonicalOf.j3 kj29 t363 t371 (!t382) a0_0 l0_1) = some r := H
        have A42 := Aside0.mk A420
        clear A420
        have H' := Aside0.mk H
        clear H
        go_wp2_with (first | (go_at_call 19; (with_reducible refine (laws_eqIntS.calls kj29 _ _ t371 _ _ t363 t382 _ ?side1 ?side2 ?side3 ?side4 A42.out).mono ?_); (case side1 => exact Cz ((Kd.R_reads' HO_6.out).2.2)); (case side2 => exact (Kd.R_reads' HO_6.out).2.1); (case side3 => exact Cz ((Kd.R_reads' HO_4.out).2.2)); (case side4 => exact (Kd.R_reads' HO_4.out).2.1); rintro e w' ⟨rfl, ⟨nd, rfl⟩⟩))
        go_meet
        case rel => exact ⟨_, (!t382), (by first | rfl | (simp; done) | (simp [*]; done)), H', ⟨by have := HJ2.out; have := HJ12.out; have := HJ29.out; first | omega | exact Nat.le_refl _⟩, ⟨by exact Rz HO_4⟩, ⟨by exact Rz HO_6⟩, ⟨by exact Rz HO_371001⟩, ⟨by exact Bz BK357⟩, ⟨by exact Bz BK370⟩, ⟨by exact Lz2 HB GE357 GE370⟩⟩
       case rest =>
        clear HC37
        try clear c7
        try clear c7b0
        try clear c27
        try clear c35
        try clear c41
        try clear c41b0
        obtain ⟨kq, x42_36, rfl, HA, HJ36, HO_4, HO_6, HO_371001, BK357, BK370, HB⟩ := hcut
        have hl371001_36 := (Kd.R_reads' HO_371001.out).1
        rw [hl371001_36] at HO_371001
        (try simp only [hl371001_36])
        (try simp only [hl371001_36] at BK357)
        (try simp only [hl371001_36] at BK370)
        (try simp only [hl371001_36] at HO_4)
        (try simp only [hl371001_36] at HO_6)
        cases kq with
        | zero => exact absurd HA.out (by simp [laws_FnExactCanonicalOf.j3])
        | succ kj36 =>
         have H := HA.out
         clear HA
         simp only [laws_FnExactCanonicalOf.j3] at H
         have HC43 := Aside0.mk H
         clear H
         go_upto_if 42 with (fail)
         go_cut [] (fun wc => ∃ (kq : Nat), Aside0 (laws_FnExactCanonicalOf.j4 kq t363 t371 a0_0 l0_1 = some r) ∧ Aside0 (kq ≤ kj36) ∧ Aside0 (Kd.R (Kd.int .i64) 3 wc w.heap.size (fun k_ => some k_ ≠ ((.slice Ao25 t371.length co25) : Value).ownBlock) (.slice Ao26 t363.length co26) t363) ∧ Aside0 (Kd.R (Kd.int .i64) 3 wc w.heap.size (fun k_ => some k_ ≠ ((.slice Ao26 t363.length co26) : Value).ownBlock) (.slice Ao25 t371.length co25) t371) ∧ Aside0 (Kd.R k68 68 wc w.heap.size (fun _ => True) (.slice Ao23 t381.length co23) t381) ∧ Aside0 (wc.heap[gb357]? = some (.cells #[.int .i64 a0_0, (.slice A0_1 l0_1.length c0_1)] 33 (0, 0))) ∧ Aside0 (wc.heap[gb370]? = some (.cells #[.int .i64 t366, (.slice Ao23 t381.length co23)] 37 (0, 0))) ∧ Aside0 (Below w.heap.size w wc))
         case first =>
          have H := HC43.out
          clear HC43
          by_cases c44 : x42_36 = true
          ·subst c44
           have H1 : (some false) = some r := by rw [if_pos rfl] at H; exact H
           clear H
           have H := H1
           clear H1
           obtain rfl := Option.some.inj H
           go_wp2
           go_ret
           exact ⟨by first | rfl | (simp [errW_none, errW_some] <;> rfl) | (simp [*, errW_none, errW_some] <;> rfl), by exact Lz2 HB GE357 GE370⟩
          replace c44 := Bool.eq_false_iff.mpr c44
          subst c44
          have H1 : (laws_FnExactCanonicalOf.j4 kj36 t363 t371 a0_0 l0_1) = some r := by rw [if_neg (show ¬ (false = true) by decide)] at H; exact H
          clear H
          have H := H1
          clear H1
          have H' := Aside0.mk H
          clear H
          go_wp2
          go_meet
          case rel => exact ⟨_, H', ⟨by have := HJ2.out; have := HJ12.out; have := HJ29.out; have := HJ36.out; first | omega | exact Nat.le_refl _⟩, ⟨by (try simp only [hl371001_36]); exact Rz HO_4⟩, ⟨by (try simp only [hl371001_36]); exact Rz HO_6⟩, ⟨by (try simp only [hl371001_36]); exact Rz HO_371001⟩, ⟨by (try simp only [hl371001_36]); exact Bz BK357⟩, ⟨by (try simp only [hl371001_36]); exact Bz BK370⟩, ⟨by exact Lz2 HB GE357 GE370⟩⟩
         case rest =>
          clear HC43
          try clear c7
          try clear c7b0
          try clear c27
          try clear c35
          try clear c41
          try clear c41b0
          try clear c44
          obtain ⟨kq, HA, HJ42, HO_4, HO_6, HO_371001, BK357, BK370, HB⟩ := hcut
          cases kq with
          | zero => exact absurd HA.out (by simp [laws_FnExactCanonicalOf.j4])
          | succ kj42 =>
           have H := HA.out
           clear HA
           simp only [laws_FnExactCanonicalOf.j4] at H
           replace H := Option.bind_eq_some_iff.mp H
           obtain ⟨⟨t383, t384⟩, A450, H⟩ := H
           replace H : ((laws_heldIntS.f kj42 t384 1).bind fun t385 => (if t385 < 0 then (some false) else (laws_FnExactCanonicalOf.j5 kj42 t363 t384 t383 t385 a0_0 l0_1))) = some r := H
           have A45 := Aside0.mk A450
           clear A450
           replace H := Option.bind_eq_some_iff.mp H
           obtain ⟨t385, A460, H⟩ := H
           replace H : (if t385 < 0 then (some false) else (laws_FnExactCanonicalOf.j5 kj42 t363 t384 t383 t385 a0_0 l0_1)) = some r := H
           have A46 := Aside0.mk A460
           clear A460
           have HC47 := Aside0.mk H
           clear H
           go_upto_if 50 with (first | ((with_reducible refine gate_callee (f := 22) rfl ?_); refine goesM_ (some 45) rfl rfl Try.func22 (by kernel_rfl) rfl #[.slice Ao25 t371.length co25, .int .i64 1] rfl ?_; (with_reducible refine (laws_markIntS.calls kj42 (fun k_ => some k_ = (.slice Ao25 t371.length co25 : Value).ownBlock) (.slice Ao25 t371.length co25) t371 1 t383 t384 w _ ?side1 ?side2 A45.out).mono ?_); (case side1 => exact Lz2 HB GE357 GE370); (case side2 => exact Kd.R_tight rfl HO_6.out); rintro e w48 ⟨rfl, hy0, hb, hkp⟩; refine ⟨_, rfl, ?_⟩; replace HO_4 := Aside0.mk (Kd.R_mono (ok' := fun k_ => some k_ ≠ (.slice Ao25 t371.length co25 : Value).ownBlock) (Kd.R_keptB (HO_4.out) hkp (fun k_ hk_ hs_ => (hk_) hs_)) (fun k_ hk_ => hk_.1)); replace HO_371001 := Aside0.mk (Kd.R_mono (ok' := fun k_ => True) (Kd.R_keptB ((Kd.R_apart' HO_371001.out (Kd.R_typed HO_6.out) (by decide))) hkp (fun k_ hk_ hs_ => (hk_.2) hs_)) (fun k_ hk_ => trivial)); replace BK357 := Aside0.mk (blk_kept (Bz BK357) hkp (fun hs_ => (fun e_ => (Kd.R_ne HO_6.out BK357.out (by decide)) e_) hs_)); replace BK370 := Aside0.mk (blk_kept (Bz BK370) hkp (fun hs_ => (fun e_ => (Kd.R_ne HO_6.out BK370.out (by decide)) e_) hs_)); replace HO_6 := Aside0.mk (Kd.R_reok rfl hy0 (fun k_ e_ => HO_6.out.1 k_ e_)); replace HB := Aside0.mk (hb); (try clear hb); (try clear hkp); (try clear hy0)) | ((with_reducible refine gate_callee (f := 23) rfl ?_); refine goesL_ (some 48) rfl rfl Try.func23 (by kernel_rfl) rfl #[.slice Ao25 t384.length co25, .int .i64 1] rfl (by (try simp only [List.map_toArray, List.map_cons, List.map_nil]); first | done | (rw [show t384.length = t371.length from (Kd.R_reads' HO_6.out).1.symm] <;> rfl) | rfl | (simp only [List.length_drop, List.length_take]; rfl)) ?_; (with_reducible refine (laws_heldIntS.calls kj42 _ _ t384 1 t385 _ ?side1 ?side2 A46.out).mono ?_); (case side1 => exact Cz ((Kd.R_reads' HO_6.out).2.2)); (case side2 => rw [show t384.length = t371.length from (Kd.R_reads' HO_6.out).1.symm]; exact (Kd.R_reads' HO_6.out).2.1); rintro e w' ⟨rfl, ⟨nd, rfl⟩⟩; refine ⟨_, rfl, ?_⟩))
           (try simp only [Act.put, List.setIfInBounds_toArray, List.set_cons_zero, List.set_cons_succ])
           go_cut [] (fun wc => ∃ (kq : Nat), Aside0 (laws_FnExactCanonicalOf.j5 kq t363 t384 t383 t385 a0_0 l0_1 = some r) ∧ Aside0 (kq ≤ kj42) ∧ Aside0 (Kd.R (Kd.int .i64) 3 wc w.heap.size (fun k_ => some k_ ≠ ((.slice Ao25 t371.length co25) : Value).ownBlock) (.slice Ao26 t363.length co26) t363) ∧ Aside0 (Kd.R (Kd.int .i64) 3 wc w.heap.size (fun k_ => some k_ ≠ ((.slice Ao26 t363.length co26) : Value).ownBlock) (.slice Ao25 t371.length co25) t384) ∧ Aside0 (Kd.R k68 68 wc w.heap.size (fun _ => True) (.slice Ao23 t381.length co23) t381) ∧ Aside0 (wc.heap[gb357]? = some (.cells #[.int .i64 a0_0, (.slice A0_1 l0_1.length c0_1)] 33 (0, 0))) ∧ Aside0 (wc.heap[gb370]? = some (.cells #[.int .i64 t366, (.slice Ao23 t381.length co23)] 37 (0, 0))) ∧ Aside0 (Below w.heap.size w wc))
           case first =>
            have H := HC47.out
            clear HC47
            by_cases c49 : t385 < 0
            ·rw [if_pos c49] at H
             have c49b0 : decide (t385 < 0) = true := decide_eq_true c49
             clear c49
             (first | rw [c49b0] | (simp only [i64_w, i32_w]; rw [c49b0]) | skip)
             obtain rfl := Option.some.inj H
             go_wp2
             go_ret
             exact ⟨by first | rfl | (simp [errW_none, errW_some] <;> rfl) | (simp [*, errW_none, errW_some] <;> rfl), by exact Lz2 HB GE357 GE370⟩
            rw [if_neg c49] at H
            have c49b0 : decide (t385 < 0) = false := decide_eq_false c49
            clear c49
            (first | rw [c49b0] | (simp only [i64_w, i32_w]; rw [c49b0]) | skip)
            have H' := Aside0.mk H
            clear H
            go_wp2
            go_meet
            case rel => exact ⟨_, H', ⟨by have := HJ2.out; have := HJ12.out; have := HJ29.out; have := HJ36.out; have := HJ42.out; first | omega | exact Nat.le_refl _⟩, ⟨by (try simp only [hl371001_36]); exact Rz HO_4⟩, ⟨by (try simp only [hl371001_36]); exact Rz HO_6⟩, ⟨by (try simp only [hl371001_36]); exact Rz HO_371001⟩, ⟨by (try simp only [hl371001_36]); exact Bz BK357⟩, ⟨by (try simp only [hl371001_36]); exact Bz BK370⟩, ⟨by exact Lz2 HB GE357 GE370⟩⟩
           case rest =>
            clear HC47
            try clear c7
            try clear c7b0
            try clear c27
            try clear c35
            try clear c41
            try clear c41b0
            try clear c44
            try clear c49
            try clear c49b0
            obtain ⟨kq, HA, HJ46, HO_4, HO_6, HO_371001, BK357, BK370, HB⟩ := hcut
            have hl6_46 := (Kd.R_reads' HO_6.out).1
            rw [hl6_46] at HO_6
            (try simp only [hl6_46])
            (try simp only [hl6_46] at BK357)
            (try simp only [hl6_46] at BK370)
            (try simp only [hl6_46] at HO_4)
            (try simp only [hl6_46] at HO_371001)
            cases kq with
            | zero => exact absurd HA.out (by simp [laws_FnExactCanonicalOf.j5])
            | succ kj46 =>
             have H := HA.out
             clear HA
             simp only [laws_FnExactCanonicalOf.j5] at H
             have HC50 := Aside0.mk H
             clear H
             go_upto_if 53 with (fail)
             go_cut [] (fun wc => ∃ (kq : Nat), Aside0 (laws_FnExactCanonicalOf.j6 kq t363 t384 t383 a0_0 l0_1 = some r) ∧ Aside0 (kq ≤ kj46) ∧ Aside0 (Kd.R (Kd.int .i64) 3 wc w.heap.size (fun k_ => some k_ ≠ ((.slice Ao25 t384.length co25) : Value).ownBlock) (.slice Ao26 t363.length co26) t363) ∧ Aside0 (Kd.R (Kd.int .i64) 3 wc w.heap.size (fun k_ => some k_ ≠ ((.slice Ao26 t363.length co26) : Value).ownBlock) (.slice Ao25 t384.length co25) t384) ∧ Aside0 (Kd.R k68 68 wc w.heap.size (fun _ => True) (.slice Ao23 t381.length co23) t381) ∧ Aside0 (wc.heap[gb357]? = some (.cells #[.int .i64 a0_0, (.slice A0_1 l0_1.length c0_1)] 33 (0, 0))) ∧ Aside0 (wc.heap[gb370]? = some (.cells #[.int .i64 t366, (.slice Ao23 t381.length co23)] 37 (0, 0))) ∧ Aside0 (Below w.heap.size w wc))
             case first =>
              have H := HC50.out
              clear HC50
              by_cases c51 : t385 = t383
              ·rw [if_pos c51] at H
               have c51b0 : (t385 == t383) = true := beq_iff_eq.mpr c51
               have c51b1 : (t385 != t383) = false := bne_eq_false_iff_eq.mpr c51
               clear c51
               (first | rw [c51b0] | (simp only [i64_w, i32_w]; rw [c51b0]) | skip)
               have H' := Aside0.mk H
               clear H
               go_wp2
               go_meet
               case rel => exact ⟨_, H', ⟨by have := HJ2.out; have := HJ12.out; have := HJ29.out; have := HJ36.out; have := HJ42.out; have := HJ46.out; first | omega | exact Nat.le_refl _⟩, ⟨by (try simp only [hl371001_36]); (try simp only [hl6_46]); exact Rz HO_4⟩, ⟨by (try simp only [hl371001_36]); (try simp only [hl6_46]); exact Rz HO_6⟩, ⟨by (try simp only [hl371001_36]); (try simp only [hl6_46]); exact Rz HO_371001⟩, ⟨by (try simp only [hl371001_36]); (try simp only [hl6_46]); exact Bz BK357⟩, ⟨by (try simp only [hl371001_36]); (try simp only [hl6_46]); exact Bz BK370⟩, ⟨by exact Lz2 HB GE357 GE370⟩⟩
              rw [if_neg c51] at H
              have c51b0 : (t385 == t383) = false := beq_eq_false_iff_ne.mpr c51
              have c51b1 : (t385 != t383) = true := bne_iff_ne.mpr c51
              (first | rw [c51b0] | (simp only [i64_w, i32_w]; rw [c51b0]) | skip)
              obtain rfl := Option.some.inj H
              go_wp2
              go_ret
              exact ⟨by first | rfl | (simp [errW_none, errW_some] <;> rfl) | (simp [*, errW_none, errW_some] <;> rfl), by exact Lz2 HB GE357 GE370⟩
             case rest =>
              clear HC50
              try clear c7
              try clear c7b0
              try clear c27
              try clear c35
              try clear c41
              try clear c41b0
              try clear c44
              try clear c49
              try clear c49b0
              try clear c51
              try clear c51b0
              try clear c51b1
              obtain ⟨kq, HA, HJ49, HO_4, HO_6, HO_371001, BK357, BK370, HB⟩ := hcut
              cases kq with
              | zero => exact absurd HA.out (by simp [laws_FnExactCanonicalOf.j6])
              | succ kj49 =>
               have H := HA.out
               clear HA
               simp only [laws_FnExactCanonicalOf.j6] at H
               replace H := Option.bind_eq_some_iff.mp H
               obtain ⟨⟨t386, t387⟩, A520, H⟩ := H
               replace H : ((impl_CanonicalOf.f kj49 t386 t387).bind fun t390 => ((laws_eqIntS.f kj49 t390 t363).bind fun t393 => (if t393 = true then (laws_FnExactCanonicalOf.j7 kj49 t384 t383) else (some false)))) = some r := H
               have A52 := Aside0.mk A520
               clear A520
               replace H := Option.bind_eq_some_iff.mp H
               obtain ⟨t390, A530, H⟩ := H
               replace H : ((laws_eqIntS.f kj49 t390 t363).bind fun t393 => (if t393 = true then (laws_FnExactCanonicalOf.j7 kj49 t384 t383) else (some false))) = some r := H
               have A53 := Aside0.mk A530
               clear A530
               replace H := Option.bind_eq_some_iff.mp H
               obtain ⟨t393, A540, H⟩ := H
               replace H : (if t393 = true then (laws_FnExactCanonicalOf.j7 kj49 t384 t383) else (some false)) = some r := H
               have A54 := Aside0.mk A540
               clear A540
               have HC55 := Aside0.mk H
               clear H
               have hnb56 := NB357_370.out
               have hnc56 := NB370_357.out
               have hcz57_0 : wc.cell? ⟨gb357, 0, none⟩ = some (.int .i64 a0_0) := (blk_cell BK357.out 0).trans rfl
               have hcz57_1 : wc.cell? ⟨gb357, 1, none⟩ = some (.slice A0_1 l0_1.length c0_1) := (blk_cell BK357.out 1).trans rfl
               have hfz57_0 := blk_frozen BK357.out 0
               have hfz57_1 := blk_frozen BK357.out 1
               go_upto_if 60 with (first | ((with_reducible refine gate_callee (f := 26) rfl ?_); refine goesM_ (some 55) rfl rfl Try.func26 (by kernel_rfl) rfl #[.agg #[.int .i64 a0_0, .slice A0_1 l0_1.length c0_1]] rfl ?_; (with_reducible refine (laws_toGraph.calls kj49 a0_0 _ _ l0_1 t386 t387 _ ?side1 ?side2 A52.out).mono ?_); (case side1 => exact Cz ((Kd.C_below HR0_1.out HB.out))); (case side2 => exact HC0_1.out); rintro e w58 ⟨v388, rfl, ho0, hb⟩; refine ⟨_, rfl, ?_⟩; replace HO_4 := Aside0.mk (Kd.R_below (Rz HO_4) hb); replace HO_6 := Aside0.mk (Kd.R_below (Rz HO_6) hb); have HO389 := Aside0.mk (Kd.R_lower (Kd.R_new' ho0 (Kd.R_lt (Rz HO_371001))) (below_size (by exact Lz2 HB GE357 GE370))); replace HO_371001 := Aside0.mk (Kd.R_elder' (Rz HO_371001) (Kd.R_base ho0) hb); replace BK357 := Aside0.mk (blk_below (g := gb357) (o := .cells #[.int .i64 a0_0, .slice A0_1 l0_1.length c0_1] 33 (0, 0)) (Bz BK357) hb); replace BK370 := Aside0.mk (blk_below (g := gb370) (o := .cells #[.int .i64 t366, .slice Ao23 t381.length co23] 37 (0, 0)) (Bz BK370) hb); replace HB := Aside0.mk (below_step (by exact Lz2 HB GE357 GE370) hb); (try clear hb); (try clear ho0); obtain ⟨Ao59, co59, eo59⟩ := Kd.R_slice HO389.out; subst eo59) | ((with_reducible refine gate_callee (f := 32) rfl ?_); refine goesM_ (some 56) rfl rfl Try.func32 (by kernel_rfl) rfl #[.agg #[.int .i64 t386, .slice Ao59 t387.length co59]] rfl ?_; (with_reducible refine (impl_CanonicalOf.calls kj49 t386 _ _ t387 t390 _ ?side1 ?side2 A53.out).mono ?_); (case side1 => exact Cz ((Kd.R_reads' HO389.out).2.2)); (case side2 => exact (Kd.R_reads' HO389.out).2.1); rintro e w60 ⟨v391, rfl, ho0, hb⟩; refine ⟨_, rfl, ?_⟩; replace HO_371001 := Aside0.mk (Kd.R_below (Rz HO_371001) hb); replace HO389 := Aside0.mk (Kd.R_below (Rz HO389) hb); have HO392 := Aside0.mk (Kd.R_lower (Kd.R_new' (Kd.R_new' ho0 (Kd.R_lt (Rz HO_4))) (Kd.R_lt (Rz HO_6))) (below_size (by exact Lz2 HB GE357 GE370))); replace HO_4 := Aside0.mk (Kd.R_elder' (Rz HO_4) (Kd.R_base ho0) hb); replace HO_6 := Aside0.mk (Kd.R_elder' (Rz HO_6) (Kd.R_base ho0) hb); replace BK357 := Aside0.mk (blk_below (g := gb357) (o := .cells #[.int .i64 a0_0, .slice A0_1 l0_1.length c0_1] 33 (0, 0)) (Bz BK357) hb); replace BK370 := Aside0.mk (blk_below (g := gb370) (o := .cells #[.int .i64 t366, .slice Ao23 t381.length co23] 37 (0, 0)) (Bz BK370) hb); replace HB := Aside0.mk (below_step (by exact Lz2 HB GE357 GE370) hb); (try clear hb); (try clear ho0); obtain ⟨Ao61, co61, eo61⟩ := Kd.R_slice HO392.out; subst eo61) | ((with_reducible refine gate_callee (f := 19) rfl ?_); refine goesM_ (some 59) rfl rfl Try.func19 (by kernel_rfl) rfl #[.slice Ao61 t390.length co61, .slice Ao26 t363.length co26] rfl ?_; (with_reducible refine (laws_eqIntS.calls kj49 _ _ t390 _ _ t363 t393 _ ?side1 ?side2 ?side3 ?side4 A54.out).mono ?_); (case side1 => exact Cz ((Kd.R_reads' HO392.out).2.2)); (case side2 => exact (Kd.R_reads' HO392.out).2.1); (case side3 => exact Cz ((Kd.R_reads' HO_4.out).2.2)); (case side4 => exact (Kd.R_reads' HO_4.out).2.1); rintro e w' ⟨rfl, ⟨nd, rfl⟩⟩; refine ⟨_, rfl, ?_⟩))
               (try simp only [Act.put, List.setIfInBounds_toArray, List.set_cons_zero, List.set_cons_succ])
               go_cut [] (fun wc => ∃ (kq : Nat), Aside0 (laws_FnExactCanonicalOf.j7 kq t384 t383 = some r) ∧ Aside0 (kq ≤ kj49) ∧ Aside0 (Kd.R (Kd.int .i64) 3 wc w.heap.size (fun _ => True) (.slice Ao25 t384.length co25) t384) ∧ Aside0 (Kd.R k68 68 wc w.heap.size (fun _ => True) (.slice Ao23 t381.length co23) t381) ∧ Aside0 (wc.heap[gb357]? = some (.cells #[.int .i64 a0_0, (.slice A0_1 l0_1.length c0_1)] 33 (0, 0))) ∧ Aside0 (wc.heap[gb370]? = some (.cells #[.int .i64 t366, (.slice Ao23 t381.length co23)] 37 (0, 0))) ∧ Aside0 (Below w.heap.size w wc))
               case first =>
                have H := HC55.out
                clear HC55
                by_cases c62 : t393 = true
                ·subst c62
                 have H1 : (laws_FnExactCanonicalOf.j7 kj49 t384 t383) = some r := by rw [if_pos rfl] at H; exact H
                 clear H
                 have H := H1
                 clear H1
                 have H' := Aside0.mk H
                 clear H
                 go_wp2
                 go_meet
                 case rel => exact ⟨_, H', ⟨by have := HJ2.out; have := HJ12.out; have := HJ29.out; have := HJ36.out; have := HJ42.out; have := HJ46.out; have := HJ49.out; first | omega | exact Nat.le_refl _⟩, ⟨by (try simp only [hl371001_36]); (try simp only [hl6_46]); (with_reducible repeat (first | apply Kd.R_alloc | apply Kd.R_drewN | apply Kd.R_drew)); exact Kd.R_mono HO_6.out (fun _ hk => trivial)⟩, ⟨by (try simp only [hl371001_36]); (try simp only [hl6_46]); (with_reducible repeat (first | apply Kd.R_alloc | apply Kd.R_drewN | apply Kd.R_drew)); exact Kd.R_mono HO_371001.out (fun _ hk => trivial)⟩, ⟨by (try simp only [hl371001_36]); (try simp only [hl6_46]); exact Bz BK357⟩, ⟨by (try simp only [hl371001_36]); (try simp only [hl6_46]); exact Bz BK370⟩, ⟨by exact Lz2 HB GE357 GE370⟩⟩
                replace c62 := Bool.eq_false_iff.mpr c62
                subst c62
                have H1 : (some false) = some r := by rw [if_neg (show ¬ (false = true) by decide)] at H; exact H
                clear H
                have H := H1
                clear H1
                obtain rfl := Option.some.inj H
                go_wp2
                go_ret
                exact ⟨by first | rfl | (simp [errW_none, errW_some] <;> rfl) | (simp [*, errW_none, errW_some] <;> rfl), by exact Lz2 HB GE357 GE370⟩
               case rest =>
                clear HC55
                try clear c7
                try clear c7b0
                try clear c27
                try clear c35
                try clear c41
                try clear c41b0
                try clear c44
                try clear c49
                try clear c49b0
                try clear c51
                try clear c51b0
                try clear c51b1
                try clear c62
                obtain ⟨kq, HA, HJ54, HO_6, HO_371001, BK357, BK370, HB⟩ := hcut
                cases kq with
                | zero => exact absurd HA.out (by simp [laws_FnExactCanonicalOf.j7])
                | succ kj54 =>
                 have H := HA.out
                 clear HA
                 simp only [laws_FnExactCanonicalOf.j7] at H
                 replace H := Option.bind_eq_some_iff.mp H
                 obtain ⟨t394, A630, H⟩ := H
                 replace H : (if t394 < 0 then (some false) else (laws_FnExactCanonicalOf.j8 kj54 t383 t394)) = some r := H
                 have A63 := Aside0.mk A630
                 clear A630
                 have HC64 := Aside0.mk H
                 clear H
                 go_upto_if 65 with (first | ((with_reducible refine gate_callee (f := 23) rfl ?_); refine goesM_ (some 63) rfl rfl Try.func23 (by kernel_rfl) rfl #[.slice Ao25 t384.length co25, .int .i64 1] rfl ?_; (with_reducible refine (laws_heldIntS.calls kj54 _ _ t384 1 t394 _ ?side1 ?side2 A63.out).mono ?_); (case side1 => exact Cz ((Kd.R_reads' HO_6.out).2.2)); (case side2 => exact (Kd.R_reads' HO_6.out).2.1); rintro e w' ⟨rfl, ⟨nd, rfl⟩⟩; refine ⟨_, rfl, ?_⟩))
                 (try simp only [Act.put, List.setIfInBounds_toArray, List.set_cons_zero, List.set_cons_succ])
                 go_cut [] (fun wc => ∃ (kq : Nat), Aside0 (laws_FnExactCanonicalOf.j8 kq t383 t394 = some r) ∧ Aside0 (kq ≤ kj54) ∧ Aside0 (Kd.R k68 68 wc w.heap.size (fun _ => True) (.slice Ao23 t381.length co23) t381) ∧ Aside0 (wc.heap[gb357]? = some (.cells #[.int .i64 a0_0, (.slice A0_1 l0_1.length c0_1)] 33 (0, 0))) ∧ Aside0 (wc.heap[gb370]? = some (.cells #[.int .i64 t366, (.slice Ao23 t381.length co23)] 37 (0, 0))) ∧ Aside0 (Below w.heap.size w wc))
                 case first =>
                  have H := HC64.out
                  clear HC64
                  by_cases c65 : t394 < 0
                  ·rw [if_pos c65] at H
                   have c65b0 : decide (t394 < 0) = true := decide_eq_true c65
                   clear c65
                   (first | rw [c65b0] | (simp only [i64_w, i32_w]; rw [c65b0]) | skip)
                   obtain rfl := Option.some.inj H
                   go_wp2
                   go_ret
                   exact ⟨by first | rfl | (simp [errW_none, errW_some] <;> rfl) | (simp [*, errW_none, errW_some] <;> rfl), by exact Lz2 HB GE357 GE370⟩
                  rw [if_neg c65] at H
                  have c65b0 : decide (t394 < 0) = false := decide_eq_false c65
                  clear c65
                  (first | rw [c65b0] | (simp only [i64_w, i32_w]; rw [c65b0]) | skip)
                  have H' := Aside0.mk H
                  clear H
                  go_wp2
                  go_meet
                  case rel => exact ⟨_, H', ⟨by have := HJ2.out; have := HJ12.out; have := HJ29.out; have := HJ36.out; have := HJ42.out; have := HJ46.out; have := HJ49.out; have := HJ54.out; first | omega | exact Nat.le_refl _⟩, ⟨by (try simp only [hl371001_36]); (try simp only [hl6_46]); exact Rz HO_371001⟩, ⟨by (try simp only [hl371001_36]); (try simp only [hl6_46]); exact Bz BK357⟩, ⟨by (try simp only [hl371001_36]); (try simp only [hl6_46]); exact Bz BK370⟩, ⟨by exact Lz2 HB GE357 GE370⟩⟩
                 case rest =>
                  clear HC64
                  try clear c7
                  try clear c7b0
                  try clear c27
                  try clear c35
                  try clear c41
                  try clear c41b0
                  try clear c44
                  try clear c49
                  try clear c49b0
                  try clear c51
                  try clear c51b0
                  try clear c51b1
                  try clear c62
                  try clear c65
                  try clear c65b0
                  obtain ⟨kq, HA, HJ63, HO_371001, BK357, BK370, HB⟩ := hcut
                  cases kq with
                  | zero => exact absurd HA.out (by simp [laws_FnExactCanonicalOf.j8])
                  | succ kj63 =>
                   have H := HA.out
                   clear HA
                   simp only [laws_FnExactCanonicalOf.j8] at H
                   by_cases c66 : t394 = t383
                   ·rw [if_pos c66] at H
                    have c66b0 : (t394 == t383) = true := beq_iff_eq.mpr c66
                    have c66b1 : (t394 != t383) = false := bne_eq_false_iff_eq.mpr c66
                    clear c66
                    obtain rfl := Option.some.inj H
                    go_wp2
                    go_ret
                    exact ⟨by first | rfl | (simp [errW_none, errW_some] <;> rfl) | (simp [*, errW_none, errW_some] <;> rfl), by exact Lz2 HB GE357 GE370⟩
                   rw [if_neg c66] at H
                   have c66b0 : (t394 == t383) = false := beq_eq_false_iff_ne.mpr c66
                   have c66b1 : (t394 != t383) = true := bne_iff_ne.mpr c66
                   obtain rfl := Option.some.inj H
                   go_wp2
                   go_ret
                   exact ⟨by first | rfl | (simp [errW_none, errW_some] <;> rfl) | (simp [*, errW_none, errW_some] <;> rfl), by exact Lz2 HB GE357 GE370⟩

end Go.Proofs.Ytfpcgccnhpfcnaa.P
