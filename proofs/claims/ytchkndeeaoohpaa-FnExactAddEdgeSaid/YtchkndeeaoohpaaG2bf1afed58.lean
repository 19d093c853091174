/- Functions of the program as plain Lean functions and that the machine's calls answer as they do, the words of the print that these use, lemmas and plain proofs of laws. Put together by a program of this work that leaves out what nothing uses; Lean checks it. -/
import Derived.Test.YtchkndeeaoohpaaG6c9ce1069b
import Derived.Test.YtchkndeeaoohpaaG45c7b9954f
import Derived.Test.YtchkndeeaoohpaaG7a6bd9712a
import Derived.Test.YtchkndeeaoohpaaG451e3d1d53
section
namespace Go.Proofs.Ytchkndeeaoohpaa.P
open Go.RowKit Go.Proofs.YtchkndeeaoohpaaW.PrintWords Go.Proofs.YtchkndeeaoohpaaW.PrintLast Go.Proofs.YtchkndeeaoohpaaW.PrintMore
attribute [local go_sem] max2_int min2_int max_two min_two max_three min_three max_four min_four
set_option linter.unusedVariables false
set_option linter.unusedSimpArgs false
mutual
def laws_FnExactAddEdge.j0 : Nat → Int → Int → Int → List (S88) → Option (Bool)
 | 0, _, _, _, _ => none
 | k + 1, x1, x2, x408000, x408001 => (laws_toGraph.f k x408000 x408001).bind fun bt409 => ((spec_AddEdge.f k bt409.1 bt409.2 x1 x2).bind fun bt413 => ((laws_toGraph.f k x408000 x408001).bind fun bt419 => ((impl_AddEdge.f k bt419.1 bt419.2 x1 x2).bind fun bt424 => ((laws_eqGraph.f k bt424.1 bt424.2.1 bt413.1 bt413.2.1).bind fun t430 => (if t430 = true then (laws_FnExactAddEdge.j1 k x1 x2 bt413.2.2 bt424.2.2 (bt424.2.2 != bt413.2.2) x408000 x408001 bt413.1 bt413.2.1 bt419.1 bt419.2 bt424.1 bt424.2.1) else (laws_FnExactAddEdge.j1 k x1 x2 bt413.2.2 bt424.2.2 true x408000 x408001 bt413.1 bt413.2.1 bt419.1 bt419.2 bt424.1 bt424.2.1))))))
def laws_FnExactAddEdge.j1 : Nat → Int → Int → Bool → Bool → Bool → Int → List (S88) → Int → List (S75) → Int → List (S75) → Int → List (S75) → Option (Bool)
 | 0, _, _, _, _, _, _, _, _, _, _, _, _, _ => none
 | k + 1, x1, x2, x9, x12, x48, x408000, x408001, x419000, x419001, x424000, x424001, x430000, x430001 => if x48 = true then (some false) else (laws_FnExactAddEdge.j2 k x1 x2 x9 x12 x408000 x408001 x419000 x419001 x424000 x424001 x430000 x430001)
def laws_FnExactAddEdge.j2 : Nat → Int → Int → Bool → Bool → Int → List (S88) → Int → List (S75) → Int → List (S75) → Int → List (S75) → Option (Bool)
 | 0, _, _, _, _, _, _, _, _, _, _, _, _ => none
 | k + 1, x1, x2, x9, x12, x408000, x408001, x419000, x419001, x424000, x424001, x430000, x430001 => (laws_toGraph.f k x408000 x408001).bind fun bt431 => ((laws_eqGraph.f k x424000 x424001 bt431.1 bt431.2).bind fun t435 => (if t435 = true then (laws_FnExactAddEdge.j3 k x1 x2 x9 x12 x408000 x408001 x419000 x419001 x424000 x424001 x430000 x430001) else (some false)))
def laws_FnExactAddEdge.j3 : Nat → Int → Int → Bool → Bool → Int → List (S88) → Int → List (S75) → Int → List (S75) → Int → List (S75) → Option (Bool)
 | 0, _, _, _, _, _, _, _, _, _, _, _, _ => none
 | k + 1, x1, x2, x9, x12, x408000, x408001, x419000, x419001, x424000, x424001, x430000, x430001 => (laws_markGraph.f k x424000 x424001 1).bind fun bt436 => (if bt436.1 < 0 then (laws_FnExactAddEdge.j4 k x1 x2 x9 true x408000 x408001 x419000 x419001 x430000 x430001) else ((laws_eqGraph.f k x430000 x430001 x419000 x419001).bind fun t438 => (if t438 = true then (laws_FnExactAddEdge.j4 k x1 x2 x9 (x12 != x9) x408000 x408001 x419000 x419001 x430000 x430001) else (laws_FnExactAddEdge.j4 k x1 x2 x9 true x408000 x408001 x419000 x419001 x430000 x430001))))
def laws_FnExactAddEdge.j4 : Nat → Int → Int → Bool → Bool → Int → List (S88) → Int → List (S75) → Int → List (S75) → Option (Bool)
 | 0, _, _, _, _, _, _, _, _, _, _ => none
 | k + 1, x1, x2, x9, x69, x408000, x408001, x419000, x419001, x430000, x430001 => if x69 = true then (some false) else (laws_FnExactAddEdge.j5 k x1 x2 x9 x408000 x408001 x419000 x419001 x430000 x430001)
def laws_FnExactAddEdge.j5 : Nat → Int → Int → Bool → Int → List (S88) → Int → List (S75) → Int → List (S75) → Option (Bool)
 | 0, _, _, _, _, _, _, _, _, _ => none
 | k + 1, x1, x2, x9, x408000, x408001, x419000, x419001, x430000, x430001 => (laws_markGraph.f k x430000 x430001 1).bind fun bt439 => ((laws_heldGraph.f k x430000 bt439.2 1).bind fun t441 => (if t441 < 0 then (some false) else (laws_FnExactAddEdge.j6 k x1 x2 x9 bt439.1 t441 x408000 x408001 x419000 x419001 x430000 bt439.2)))
def laws_FnExactAddEdge.j6 : Nat → Int → Int → Bool → Int → Int → Int → List (S88) → Int → List (S75) → Int → List (S75) → Option (Bool)
 | 0, _, _, _, _, _, _, _, _, _, _, _ => none
 | k + 1, x1, x2, x9, x14, x15, x408000, x408001, x419000, x419001, x430000, x430001 => if x15 = x14 then (laws_FnExactAddEdge.j7 k x1 x2 x9 x14 x408000 x408001 x419000 x419001 x430000 x430001) else (some false)
def laws_FnExactAddEdge.j7 : Nat → Int → Int → Bool → Int → Int → List (S88) → Int → List (S75) → Int → List (S75) → Option (Bool)
 | 0, _, _, _, _, _, _, _, _, _, _ => none
 | k + 1, x1, x2, x9, x14, x408000, x408001, x419000, x419001, x430000, x430001 => (laws_toGraph.f k x408000 x408001).bind fun bt442 => ((impl_AddEdge.f k bt442.1 bt442.2 x1 x2).bind fun bt446 => ((laws_eqGraph.f k bt446.1 bt446.2.1 x419000 x419001).bind fun t452 => (if t452 = true then (laws_FnExactAddEdge.j8 k x14 (bt446.2.2 != x9) x430000 x430001) else (laws_FnExactAddEdge.j8 k x14 true x430000 x430001))))
def laws_FnExactAddEdge.j8 : Nat → Int → Bool → Int → List (S75) → Option (Bool)
 | 0, _, _, _, _ => none
 | k + 1, x14, x97, x430000, x430001 => if x97 = true then (some false) else (laws_FnExactAddEdge.j9 k x14 x430000 x430001)
def laws_FnExactAddEdge.j9 : Nat → Int → Int → List (S75) → Option (Bool)
 | 0, _, _, _ => none
 | k + 1, x14, x430000, x430001 => (laws_heldGraph.f k x430000 x430001 1).bind fun t453 => (if t453 < 0 then (some false) else (laws_FnExactAddEdge.j10 k x14 t453))
def laws_FnExactAddEdge.j10 : Nat → Int → Int → Option (Bool)
 | 0, _, _ => none
 | k + 1, x14, x15 => if x15 = x14 then (some true) else (some false)
end
def laws_FnExactAddEdge.f (k : Nat) (a0_0 : Int) (l0_1 : List (S88)) (a1 : Int) (a2 : Int) : Option (Bool) := (laws_szGraph.f a0_0 l0_1 1048576).bind fun t408 => (if t408 < 0 then (some true) else (laws_FnExactAddEdge.j0 k a1 a2 a0_0 l0_1))
set_option maxHeartbeats 8000000 in
set_option maxRecDepth 100000 in
theorem laws_FnExactAddEdge.calls (k : Nat) (a0_0 : Int) (A0_1 : Option Addr) (c0_1 : Nat) (l0_1 : List (S88)) (a1 : Int) (a2 : Int) (r : Bool) (w : World) (hr0_1 : Kd.C k88 w A0_1 l0_1.length l0_1) (hc0_1 : l0_1.length ≤ c0_1) (h : laws_FnExactAddEdge.f k a0_0 l0_1 a1 a2 = some r) (hR_ : r = true := by rfl) :
  Calls Try.prog 13 #[.agg #[.int .i64 a0_0, .slice A0_1 l0_1.length c0_1], .int .i64 a1, .int .i64 a2] w fun e w' => e = .returned (.bool r) ∧ Below w.heap.size w w' := by
 have HR_ := Aside0.mk hR_
 clear hR_
 have hu37 := Try.underlying37
 have hu42 := Try.underlying42
 have HR0_1 := Aside0.mk hr0_1
 have HC0_1 := Aside0.mk hc0_1
 clear hr0_1 hc0_1
 have HB := Aside0.mk (Below.refl w.heap.size w)
 have H : ((laws_szGraph.f a0_0 l0_1 1048576).bind fun t408 => (if t408 < 0 then (some true) else (laws_FnExactAddEdge.j0 k a1 a2 a0_0 l0_1))) = some r := h
 clear h
 replace H := Option.bind_eq_some_iff.mp H
 obtain ⟨t408, A40, H⟩ := H
 replace H : (if t408 < 0 then (some true) else (laws_FnExactAddEdge.j0 k a1 a2 a0_0 l0_1)) = some r := H
 have A4 := Aside0.mk A40
 clear A40
 have HC5 := Aside0.mk H
 clear H
 go_enter Try.func13, Try.ntmps13
 go_upto_if 22 with (first | ((with_reducible refine gate_dst (N := 3) rfl ?_); refine box_event ?hg (N := 3) ?hd (cs := #[.int .i64 a0_0, .slice A0_1 l0_1.length c0_1]) (t := 37) ?hr ?_; (case hd => rfl); (case hg => rfl); (case hr => first | (go_simp; done) | (go_simp; rfl)); intro gb407 hg w6 hbox hb; have BK407 := Aside0.mk (hbox); have GW407 := Aside0.mk ((by rw [hg]; exact (below_size (Lz HB)) : w.heap.size ≤ gb407)); have GE407 := Aside0.mk ((by rw [hg]; exact (below_size (Lz HB)) : w.heap.size ≤ gb407)); replace HB := Aside0.mk (below_step (Lz HB) hb); clear hb hbox hg; have hcz7_0 : w6.cell? ⟨gb407, 0, none⟩ = some (.int .i64 a0_0) := (blk_cell BK407.out 0).trans rfl; have hcz7_1 : w6.cell? ⟨gb407, 1, none⟩ = some (.slice A0_1 l0_1.length c0_1) := (blk_cell BK407.out 1).trans rfl; have hfz7_0 := blk_frozen BK407.out 0; have hfz7_1 := blk_frozen BK407.out 1) | ((with_reducible refine gate_callee (f := 31) rfl ?_); refine goesM_ (some 20) rfl rfl Try.func31 (by kernel_rfl) rfl #[.agg #[.int .i64 a0_0, .slice A0_1 l0_1.length c0_1], .int .i64 1048576] rfl ?_; (with_reducible refine (laws_szGraph.calls a0_0 _ _ l0_1 1048576 t408 _ ?side1 ?side2 A4.out).mono ?_); (case side1 => exact Cz ((Kd.C_below HR0_1.out HB.out))); (case side2 => exact HC0_1.out); rintro e w8 ⟨rfl, hb⟩; refine ⟨_, rfl, ?_⟩; replace BK407 := Aside0.mk (blk_below (g := gb407) (o := .cells #[.int .i64 a0_0, .slice A0_1 l0_1.length c0_1] 37 (0, 0)) (Bz BK407) hb); replace HB := Aside0.mk (below_step (by exact Lz1 HB GE407) hb); (try clear hb); (try clear hb2); (try clear hk); (try clear hi)))
 (try simp only [Act.put, List.setIfInBounds_toArray, List.set_cons_zero, List.set_cons_succ])
 go_cut [] (fun wc => ∃ (kq : Nat), Aside0 (laws_FnExactAddEdge.j0 kq a1 a2 a0_0 l0_1 = some r) ∧ Aside0 (kq ≤ k) ∧ Aside0 (wc.heap[gb407]? = some (.cells #[.int .i64 a0_0, (.slice A0_1 l0_1.length c0_1)] 37 (0, 0))) ∧ Aside0 (Below w.heap.size w wc))
 case first =>
  have H := HC5.out
  clear HC5
  by_cases c9 : t408 < 0
  ·rw [if_pos c9] at H
   have c9b0 : decide (t408 < 0) = true := decide_eq_true c9
   clear c9
   (first | rw [c9b0] | (simp only [i64_w, i32_w]; rw [c9b0]) | skip)
   obtain rfl := Option.some.inj H
   go_wp2
   go_ret
   exact ⟨by first | rfl | (simp [errW_none, errW_some] <;> rfl) | (simp [*, errW_none, errW_some] <;> rfl), by exact Lz1 HB GE407⟩
  rw [if_neg c9] at H
  have c9b0 : decide (t408 < 0) = false := decide_eq_false c9
  clear c9
  (first | rw [c9b0] | (simp only [i64_w, i32_w]; rw [c9b0]) | skip)
  have H' := Aside0.mk H
  clear H
  go_wp2
  go_meet
  case rel => exact ⟨_, H', ⟨by first | omega | exact Nat.le_refl _⟩, ⟨by exact Bz BK407⟩, ⟨by exact Lz1 HB GE407⟩⟩
 case rest =>
  clear HC5
  try clear c9
  try clear c9b0
  obtain ⟨kq, HA, HJ4, BK407, HB⟩ := hcut
  cases kq with
  | zero => exact absurd HA.out (by simp [laws_FnExactAddEdge.j0])
  | succ kj4 =>
   have H := HA.out
   clear HA
   simp only [laws_FnExactAddEdge.j0] at H
   replace H := Option.bind_eq_some_iff.mp H
   obtain ⟨⟨t409, t410⟩, A100, H⟩ := H
   replace H : ((spec_AddEdge.f kj4 t409 t410 a1 a2).bind fun bt413 => ((laws_toGraph.f kj4 a0_0 l0_1).bind fun bt419 => ((impl_AddEdge.f kj4 bt419.1 bt419.2 a1 a2).bind fun bt424 => ((laws_eqGraph.f kj4 bt424.1 bt424.2.1 bt413.1 bt413.2.1).bind fun t430 => (if t430 = true then (laws_FnExactAddEdge.j1 kj4 a1 a2 bt413.2.2 bt424.2.2 (bt424.2.2 != bt413.2.2) a0_0 l0_1 bt413.1 bt413.2.1 bt419.1 bt419.2 bt424.1 bt424.2.1) else (laws_FnExactAddEdge.j1 kj4 a1 a2 bt413.2.2 bt424.2.2 true a0_0 l0_1 bt413.1 bt413.2.1 bt419.1 bt419.2 bt424.1 bt424.2.1)))))) = some r := H
   have A10 := Aside0.mk A100
   clear A100
   replace H := Option.bind_eq_some_iff.mp H
   obtain ⟨⟨t413, t414, t417⟩, A110, H⟩ := H
   replace H : ((laws_toGraph.f kj4 a0_0 l0_1).bind fun bt419 => ((impl_AddEdge.f kj4 bt419.1 bt419.2 a1 a2).bind fun bt424 => ((laws_eqGraph.f kj4 bt424.1 bt424.2.1 t413 t414).bind fun t430 => (if t430 = true then (laws_FnExactAddEdge.j1 kj4 a1 a2 t417 bt424.2.2 (bt424.2.2 != t417) a0_0 l0_1 t413 t414 bt419.1 bt419.2 bt424.1 bt424.2.1) else (laws_FnExactAddEdge.j1 kj4 a1 a2 t417 bt424.2.2 true a0_0 l0_1 t413 t414 bt419.1 bt419.2 bt424.1 bt424.2.1))))) = some r := H
   have A11 := Aside0.mk A110
   clear A110
   replace H := Option.bind_eq_some_iff.mp H
   obtain ⟨⟨t419, t420⟩, A120, H⟩ := H
   replace H : ((impl_AddEdge.f kj4 t419 t420 a1 a2).bind fun bt424 => ((laws_eqGraph.f kj4 bt424.1 bt424.2.1 t413 t414).bind fun t430 => (if t430 = true then (laws_FnExactAddEdge.j1 kj4 a1 a2 t417 bt424.2.2 (bt424.2.2 != t417) a0_0 l0_1 t413 t414 t419 t420 bt424.1 bt424.2.1) else (laws_FnExactAddEdge.j1 kj4 a1 a2 t417 bt424.2.2 true a0_0 l0_1 t413 t414 t419 t420 bt424.1 bt424.2.1)))) = some r := H
   have A12 := Aside0.mk A120
   clear A120
   replace H := Option.bind_eq_some_iff.mp H
   obtain ⟨⟨t424, t425, t428⟩, A130, H⟩ := H
   replace H : ((laws_eqGraph.f kj4 t424 t425 t413 t414).bind fun t430 => (if t430 = true then (laws_FnExactAddEdge.j1 kj4 a1 a2 t417 t428 (t428 != t417) a0_0 l0_1 t413 t414 t419 t420 t424 t425) else (laws_FnExactAddEdge.j1 kj4 a1 a2 t417 t428 true a0_0 l0_1 t413 t414 t419 t420 t424 t425))) = some r := H
   have A13 := Aside0.mk A130
   clear A130
   have HC14 := Aside0.mk H
   clear H
   have hcz15_0 : wc.cell? ⟨gb407, 0, none⟩ = some (.int .i64 a0_0) := (blk_cell BK407.out 0).trans rfl
   have hcz15_1 : wc.cell? ⟨gb407, 1, none⟩ = some (.slice A0_1 l0_1.length c0_1) := (blk_cell BK407.out 1).trans rfl
   have hfz15_0 := blk_frozen BK407.out 0
   have hfz15_1 := blk_frozen BK407.out 1
   go_upto_region 8 with (first | ((with_reducible refine gate_callee (f := 33) rfl ?_); refine goesM_ (some 25) rfl rfl Try.func33 (by kernel_rfl) rfl #[.agg #[.int .i64 a0_0, .slice A0_1 l0_1.length c0_1]] rfl ?_; (with_reducible refine (laws_toGraph.calls kj4 a0_0 _ _ l0_1 t409 t410 _ ?side1 ?side2 A10.out).mono ?_); (case side1 => exact Cz ((Kd.C_below HR0_1.out HB.out))); (case side2 => exact HC0_1.out); rintro e w16 ⟨v411, rfl, ho0, hb⟩; refine ⟨_, rfl, ?_⟩; have HO412 := Aside0.mk (Kd.R_lower ho0 (below_size (by exact Lz1 HB GE407))); replace BK407 := Aside0.mk (blk_below (g := gb407) (o := .cells #[.int .i64 a0_0, .slice A0_1 l0_1.length c0_1] 37 (0, 0)) (Bz BK407) hb); replace HB := Aside0.mk (below_step (by exact Lz1 HB GE407) hb); (try clear hb); (try clear ho0); obtain ⟨Ao17, co17, eo17⟩ := Kd.R_slice HO412.out; subst eo17) | ((with_reducible refine gate_callee (f := 49) rfl ?_); refine goesM_ (some 28) rfl rfl Try.func49 (by kernel_rfl) rfl #[.agg #[.int .i64 t409, .slice Ao17 t410.length co17], .int .i64 a1, .int .i64 a2] rfl ?_; (with_reducible refine (spec_AddEdge.calls kj4 t409 _ _ t410 a1 a2 t413 t414 t417 _ ?side1 ?side2 A11.out).mono ?_); (case side1 => exact Cz ((Kd.R_reads' HO412.out).2.2)); (case side2 => exact (Kd.R_reads' HO412.out).2.1); rintro e w18 ⟨v415, rfl, ho0, hb⟩; refine ⟨_, rfl, ?_⟩; have HO416 := Aside0.mk (Kd.R_lower (Kd.R_new' ho0 (Kd.R_lt (Rz HO412))) (below_size (by exact Lz1 HB GE407))); replace HO412 := Aside0.mk (Kd.R_elder' (Rz HO412) (Kd.R_base ho0) hb); replace BK407 := Aside0.mk (blk_below (g := gb407) (o := .cells #[.int .i64 a0_0, .slice A0_1 l0_1.length c0_1] 37 (0, 0)) (Bz BK407) hb); replace HB := Aside0.mk (below_step (by exact Lz1 HB GE407) hb); (try clear hb); (try clear ho0)) | ((with_reducible refine gate_dst (N := 8) rfl ?_); refine box_event ?hg (N := 8) ?hd (cs := #[.int .i64 0, .slice none 0 0]) (t := 42) ?hr ?_; (case hd => rfl); (case hg => rfl); (case hr => first | (go_simp; done) | (go_simp; rfl)); intro gb418 hg w19 hbox hb; replace HO412 := Aside0.mk (Kd.R_below (Rz HO412) hb); replace HO416 := Aside0.mk (Kd.R_below (Rz HO416) hb); have BK418 := Aside0.mk (hbox); have GW418 := Aside0.mk ((by rw [hg]; exact (below_size (by exact Lz1 HB GE407)) : w.heap.size ≤ gb418)); have GE418 := Aside0.mk ((by rw [hg]; exact (below_size (by exact Lz1 HB GE407)) : w.heap.size ≤ gb418)); replace HB := Aside0.mk (below_step (by exact Lz1 HB GE407) hb); have NB407_418 := Aside0.mk ((by rw [hg]; exact Nat.ne_of_lt (blk_lt (g := gb407) (o := .cells #[.int .i64 a0_0, .slice A0_1 l0_1.length c0_1] 37 (0, 0)) (Bz BK407)) : gb407 ≠ gb418)); have NB418_407 := Aside0.mk ((by rw [hg]; exact Nat.ne_of_gt (blk_lt (g := gb407) (o := .cells #[.int .i64 a0_0, .slice A0_1 l0_1.length c0_1] 37 (0, 0)) (Bz BK407)) : gb418 ≠ gb407)); replace BK407 := Aside0.mk (blk_below (g := gb407) (o := .cells #[.int .i64 a0_0, .slice A0_1 l0_1.length c0_1] 37 (0, 0)) (Bz BK407) hb); clear hb hbox hg; have hnb20 := NB418_407.out; have hnc20 := NB407_418.out; have hcz21_0 : w19.cell? ⟨gb418, 0, none⟩ = some (.int .i64 0) := (blk_cell BK418.out 0).trans rfl; have hcz21_1 : w19.cell? ⟨gb418, 1, none⟩ = some (.slice none 0 0) := (blk_cell BK418.out 1).trans rfl; have hfz21_0 := blk_frozen BK418.out 0; have hfz21_1 := blk_frozen BK418.out 1; obtain ⟨Ao22, co22, eo22⟩ := Kd.R_slice HO416.out; subst eo22; have hcz23_0 : w19.cell? ⟨gb407, 0, none⟩ = some (.int .i64 a0_0) := (blk_cell BK407.out 0).trans rfl; have hcz23_1 : w19.cell? ⟨gb407, 1, none⟩ = some (.slice A0_1 l0_1.length c0_1) := (blk_cell BK407.out 1).trans rfl; have hfz23_0 := blk_frozen BK407.out 0; have hfz23_1 := blk_frozen BK407.out 1) | ((with_reducible refine gate_callee (f := 33) rfl ?_); refine goesM_ (some 32) rfl rfl Try.func33 (by kernel_rfl) rfl #[.agg #[.int .i64 a0_0, .slice A0_1 l0_1.length c0_1]] rfl ?_; (with_reducible refine (laws_toGraph.calls kj4 a0_0 _ _ l0_1 t419 t420 _ ?side1 ?side2 A12.out).mono ?_); (case side1 => exact Kd.C_below HR0_1.out (by exact Lz2 HB GE407 GE418)); (case side2 => exact HC0_1.out); rintro e w24 ⟨v421, rfl, ho0, hb⟩; refine ⟨_, rfl, ?_⟩; have HO422 := Aside0.mk (Kd.R_lower (Kd.R_new' (Kd.R_new' ho0 (Kd.R_lt (by (with_reducible repeat (first | apply Kd.R_alloc | apply Kd.R_drewN | apply Kd.R_drew)); exact (Kd.R_mono (Kd.R_far (p := ⟨gb418, 1, none⟩) (Kd.R_far (p := ⟨gb418, 0, none⟩) (Kd.R_types HO412.out BK418.out (by decide)) (fun _ hk => hk.2) (.int .i64 t413)) (fun _ hk => hk.2) (.slice Ao22 t414.length co22)) (fun _ h_ => h_.1))))) (Kd.R_lt (by (with_reducible repeat (first | apply Kd.R_alloc | apply Kd.R_drewN | apply Kd.R_drew)); exact (Kd.R_mono (Kd.R_far (p := ⟨gb418, 1, none⟩) (Kd.R_far (p := ⟨gb418, 0, none⟩) (Kd.R_types HO416.out BK418.out (by decide)) (fun _ hk => hk.2) (.int .i64 t413)) (fun _ hk => hk.2) (.slice Ao22 t414.length co22)) (fun _ h_ => h_.1))))) (below_size (by exact Lz2 HB GE407 GE418))); replace HO412 := Aside0.mk (Kd.R_elder' (by (with_reducible repeat (first | apply Kd.R_alloc | apply Kd.R_drewN | apply Kd.R_drew)); exact (Kd.R_mono (Kd.R_far (p := ⟨gb418, 1, none⟩) (Kd.R_far (p := ⟨gb418, 0, none⟩) (Kd.R_types HO412.out BK418.out (by decide)) (fun _ hk => hk.2) (.int .i64 t413)) (fun _ hk => hk.2) (.slice Ao22 t414.length co22)) (fun _ h_ => h_.1))) (Kd.R_base ho0) hb); replace HO416 := Aside0.mk (Kd.R_elder' (by (with_reducible repeat (first | apply Kd.R_alloc | apply Kd.R_drewN | apply Kd.R_drew)); exact (Kd.R_mono (Kd.R_far (p := ⟨gb418, 1, none⟩) (Kd.R_far (p := ⟨gb418, 0, none⟩) (Kd.R_types HO416.out BK418.out (by decide)) (fun _ hk => hk.2) (.int .i64 t413)) (fun _ hk => hk.2) (.slice Ao22 t414.length co22)) (fun _ h_ => h_.1))) (Kd.R_base ho0) hb); replace BK407 := Aside0.mk (blk_below (g := gb407) (o := .cells #[.int .i64 a0_0, .slice A0_1 l0_1.length c0_1] 37 (0, 0)) (by (with_reducible repeat (first | refine blk_drewN ?_ _ | refine blk_drew ?_ | refine blk_alloc ?_ _)); refine blk_far ?_ NB407_418.out _; (with_reducible repeat (first | refine blk_drewN ?_ _ | refine blk_drew ?_ | refine blk_alloc ?_ _)); refine blk_far ?_ NB407_418.out _; exact Bz BK407) hb); replace BK418 := Aside0.mk (blk_below (g := gb418) (o := .cells #[.int .i64 t413, .slice Ao22 t414.length co22] 42 (0, 0)) (by (with_reducible repeat (first | refine blk_drewN ?_ _ | refine blk_drew ?_ | refine blk_alloc ?_ _)); refine blk_put (cs := #[.int .i64 t413, .slice none 0 0]) ?_ 1 _ rfl; (with_reducible repeat (first | refine blk_drewN ?_ _ | refine blk_drew ?_ | refine blk_alloc ?_ _)); refine blk_put (cs := #[.int .i64 0, .slice none 0 0]) ?_ 0 _ rfl; exact Bz BK418) hb); replace HB := Aside0.mk (below_step (by exact Lz2 HB GE407 GE418) hb); (try clear hb); (try clear ho0)) | ((with_reducible refine gate_dst (N := 10) rfl ?_); refine box_event ?hg (N := 10) ?hd (cs := #[.int .i64 0, .slice none 0 0]) (t := 42) ?hr ?_; (case hd => rfl); (case hg => rfl); (case hr => first | (go_simp; done) | (go_simp; rfl)); intro gb423 hg w25 hbox hb; replace HO412 := Aside0.mk (Kd.R_below (Rz HO412) hb); replace HO416 := Aside0.mk (Kd.R_below (Rz HO416) hb); replace HO422 := Aside0.mk (Kd.R_below (Rz HO422) hb); have BK423 := Aside0.mk (hbox); have GW423 := Aside0.mk ((by rw [hg]; exact (below_size (by exact Lz2 HB GE407 GE418)) : w.heap.size ≤ gb423)); have GE423 := Aside0.mk ((by rw [hg]; exact (below_size (by exact Lz2 HB GE407 GE418)) : w.heap.size ≤ gb423)); replace HB := Aside0.mk (below_step (by exact Lz2 HB GE407 GE418) hb); have NB407_423 := Aside0.mk ((by rw [hg]; exact Nat.ne_of_lt (blk_lt (g := gb407) (o := .cells #[.int .i64 a0_0, .slice A0_1 l0_1.length c0_1] 37 (0, 0)) (Bz BK407)) : gb407 ≠ gb423)); have NB423_407 := Aside0.mk ((by rw [hg]; exact Nat.ne_of_gt (blk_lt (g := gb407) (o := .cells #[.int .i64 a0_0, .slice A0_1 l0_1.length c0_1] 37 (0, 0)) (Bz BK407)) : gb423 ≠ gb407)); replace BK407 := Aside0.mk (blk_below (g := gb407) (o := .cells #[.int .i64 a0_0, .slice A0_1 l0_1.length c0_1] 37 (0, 0)) (Bz BK407) hb); have NB418_423 := Aside0.mk ((by rw [hg]; exact Nat.ne_of_lt (blk_lt (g := gb418) (o := .cells #[.int .i64 t413, .slice Ao22 t414.length co22] 42 (0, 0)) (Bz BK418)) : gb418 ≠ gb423)); have NB423_418 := Aside0.mk ((by rw [hg]; exact Nat.ne_of_gt (blk_lt (g := gb418) (o := .cells #[.int .i64 t413, .slice Ao22 t414.length co22] 42 (0, 0)) (Bz BK418)) : gb423 ≠ gb418)); replace BK418 := Aside0.mk (blk_below (g := gb418) (o := .cells #[.int .i64 t413, .slice Ao22 t414.length co22] 42 (0, 0)) (Bz BK418) hb); clear hb hbox hg; have hnb26 := NB423_407.out; have hnc26 := NB407_423.out; have hnb27 := NB423_418.out; have hnc27 := NB418_423.out; have hcz28_0 : w25.cell? ⟨gb423, 0, none⟩ = some (.int .i64 0) := (blk_cell BK423.out 0).trans rfl; have hcz28_1 : w25.cell? ⟨gb423, 1, none⟩ = some (.slice none 0 0) := (blk_cell BK423.out 1).trans rfl; have hfz28_0 := blk_frozen BK423.out 0; have hfz28_1 := blk_frozen BK423.out 1; obtain ⟨Ao29, co29, eo29⟩ := Kd.R_slice HO422.out; subst eo29) | ((with_reducible refine gate_callee (f := 50) rfl ?_); refine goesM_ (some 37) rfl rfl Try.func50 (by kernel_rfl) rfl #[.agg #[.int .i64 t419, .slice Ao29 t420.length co29], .int .i64 a1, .int .i64 a2] rfl ?_; (with_reducible refine (impl_AddEdge.calls kj4 t419 _ _ t420 a1 a2 t424 t425 t428 _ ?side1 ?side2 A13.out).mono ?_); (case side1 => refine (Kd.R_reads' (e := 75) (base := w.heap.size) (ok := fun k_ => ((True ∧ some k_ ≠ (.slice Ao17 t410.length co17 : Value).ownBlock) ∧ some k_ ≠ (.slice Ao22 t414.length co22 : Value).ownBlock)) (n := t420.length) (c := co29) ?_).2.2; exact (by (with_reducible repeat (first | apply Kd.R_alloc | apply Kd.R_drewN | apply Kd.R_drew)); exact (Kd.R_mono (Kd.R_far (p := ⟨gb423, 1, none⟩) (Kd.R_far (p := ⟨gb423, 0, none⟩) (Kd.R_types HO422.out BK423.out (by decide)) (fun _ hk => hk.2) (.int .i64 t419)) (fun _ hk => hk.2) (.slice Ao29 t420.length co29)) (fun _ h_ => h_.1)))); (case side2 => exact (Kd.R_reads' HO422.out).2.1); rintro e w30 ⟨v426, rfl, ho0, hb⟩; refine ⟨_, rfl, ?_⟩; have HO427 := Aside0.mk (Kd.R_lower (Kd.R_new' (Kd.R_new' (Kd.R_new' ho0 (Kd.R_lt (by (with_reducible repeat (first | apply Kd.R_alloc | apply Kd.R_drewN | apply Kd.R_drew)); exact (Kd.R_mono (Kd.R_far (p := ⟨gb423, 1, none⟩) (Kd.R_far (p := ⟨gb423, 0, none⟩) (Kd.R_types HO412.out BK423.out (by decide)) (fun _ hk => hk.2) (.int .i64 t419)) (fun _ hk => hk.2) (.slice Ao29 t420.length co29)) (fun _ h_ => h_.1))))) (Kd.R_lt (by (with_reducible repeat (first | apply Kd.R_alloc | apply Kd.R_drewN | apply Kd.R_drew)); exact (Kd.R_mono (Kd.R_far (p := ⟨gb423, 1, none⟩) (Kd.R_far (p := ⟨gb423, 0, none⟩) (Kd.R_types HO416.out BK423.out (by decide)) (fun _ hk => hk.2) (.int .i64 t419)) (fun _ hk => hk.2) (.slice Ao29 t420.length co29)) (fun _ h_ => h_.1))))) (Kd.R_lt (by (with_reducible repeat (first | apply Kd.R_alloc | apply Kd.R_drewN | apply Kd.R_drew)); exact (Kd.R_mono (Kd.R_far (p := ⟨gb423, 1, none⟩) (Kd.R_far (p := ⟨gb423, 0, none⟩) (Kd.R_types HO422.out BK423.out (by decide)) (fun _ hk => hk.2) (.int .i64 t419)) (fun _ hk => hk.2) (.slice Ao29 t420.length co29)) (fun _ h_ => h_.1))))) (below_size (by exact Lz3 HB GE407 GE418 GE423))); replace HO412 := Aside0.mk (Kd.R_elder' (by (with_reducible repeat (first | apply Kd.R_alloc | apply Kd.R_drewN | apply Kd.R_drew)); exact (Kd.R_mono (Kd.R_far (p := ⟨gb423, 1, none⟩) (Kd.R_far (p := ⟨gb423, 0, none⟩) (Kd.R_types HO412.out BK423.out (by decide)) (fun _ hk => hk.2) (.int .i64 t419)) (fun _ hk => hk.2) (.slice Ao29 t420.length co29)) (fun _ h_ => h_.1))) (Kd.R_base ho0) hb); replace HO416 := Aside0.mk (Kd.R_elder' (by (with_reducible repeat (first | apply Kd.R_alloc | apply Kd.R_drewN | apply Kd.R_drew)); exact (Kd.R_mono (Kd.R_far (p := ⟨gb423, 1, none⟩) (Kd.R_far (p := ⟨gb423, 0, none⟩) (Kd.R_types HO416.out BK423.out (by decide)) (fun _ hk => hk.2) (.int .i64 t419)) (fun _ hk => hk.2) (.slice Ao29 t420.length co29)) (fun _ h_ => h_.1))) (Kd.R_base ho0) hb); replace HO422 := Aside0.mk (Kd.R_elder' (by (with_reducible repeat (first | apply Kd.R_alloc | apply Kd.R_drewN | apply Kd.R_drew)); exact (Kd.R_mono (Kd.R_far (p := ⟨gb423, 1, none⟩) (Kd.R_far (p := ⟨gb423, 0, none⟩) (Kd.R_types HO422.out BK423.out (by decide)) (fun _ hk => hk.2) (.int .i64 t419)) (fun _ hk => hk.2) (.slice Ao29 t420.length co29)) (fun _ h_ => h_.1))) (Kd.R_base ho0) hb); replace BK407 := Aside0.mk (blk_below (g := gb407) (o := .cells #[.int .i64 a0_0, .slice A0_1 l0_1.length c0_1] 37 (0, 0)) (by (with_reducible repeat (first | refine blk_drewN ?_ _ | refine blk_drew ?_ | refine blk_alloc ?_ _)); refine blk_far ?_ NB407_423.out _; (with_reducible repeat (first | refine blk_drewN ?_ _ | refine blk_drew ?_ | refine blk_alloc ?_ _)); refine blk_far ?_ NB407_423.out _; exact Bz BK407) hb); replace BK418 := Aside0.mk (blk_below (g := gb418) (o := .cells #[.int .i64 t413, .slice Ao22 t414.length co22] 42 (0, 0)) (by (with_reducible repeat (first | refine blk_drewN ?_ _ | refine blk_drew ?_ | refine blk_alloc ?_ _)); refine blk_far ?_ NB418_423.out _; (with_reducible repeat (first | refine blk_drewN ?_ _ | refine blk_drew ?_ | refine blk_alloc ?_ _)); refine blk_far ?_ NB418_423.out _; exact Bz BK418) hb); replace BK423 := Aside0.mk (blk_below (g := gb423) (o := .cells #[.int .i64 t419, .slice Ao29 t420.length co29] 42 (0, 0)) (by (with_reducible repeat (first | refine blk_drewN ?_ _ | refine blk_drew ?_ | refine blk_alloc ?_ _)); refine blk_put (cs := #[.int .i64 t419, .slice none 0 0]) ?_ 1 _ rfl; (with_reducible repeat (first | refine blk_drewN ?_ _ | refine blk_drew ?_ | refine blk_alloc ?_ _)); refine blk_put (cs := #[.int .i64 0, .slice none 0 0]) ?_ 0 _ rfl; exact Bz BK423) hb); replace HB := Aside0.mk (below_step (by exact Lz3 HB GE407 GE418 GE423) hb); (try clear hb); (try clear ho0)) | ((with_reducible refine gate_dst (N := 11) rfl ?_); refine box_event ?hg (N := 11) ?hd (cs := #[.int .i64 0, .slice none 0 0]) (t := 42) ?hr ?_; (case hd => rfl); (case hg => rfl); (case hr => first | (go_simp; done) | (go_simp; rfl)); intro gb429 hg w31 hbox hb; replace HO412 := Aside0.mk (Kd.R_below (Rz HO412) hb); replace HO416 := Aside0.mk (Kd.R_below (Rz HO416) hb); replace HO422 := Aside0.mk (Kd.R_below (Rz HO422) hb); replace HO427 := Aside0.mk (Kd.R_below (Rz HO427) hb); have BK429 := Aside0.mk (hbox); have GW429 := Aside0.mk ((by rw [hg]; exact (below_size (by exact Lz3 HB GE407 GE418 GE423)) : w.heap.size ≤ gb429)); have GE429 := Aside0.mk ((by rw [hg]; exact (below_size (by exact Lz3 HB GE407 GE418 GE423)) : w.heap.size ≤ gb429)); replace HB := Aside0.mk (below_step (by exact Lz3 HB GE407 GE418 GE423) hb); have NB407_429 := Aside0.mk ((by rw [hg]; exact Nat.ne_of_lt (blk_lt (g := gb407) (o := .cells #[.int .i64 a0_0, .slice A0_1 l0_1.length c0_1] 37 (0, 0)) (Bz BK407)) : gb407 ≠ gb429)); have NB429_407 := Aside0.mk ((by rw [hg]; exact Nat.ne_of_gt (blk_lt (g := gb407) (o := .cells #[.int .i64 a0_0, .slice A0_1 l0_1.length c0_1] 37 (0, 0)) (Bz BK407)) : gb429 ≠ gb407)); replace BK407 := Aside0.mk (blk_below (g := gb407) (o := .cells #[.int .i64 a0_0, .slice A0_1 l0_1.length c0_1] 37 (0, 0)) (Bz BK407) hb); have NB418_429 := Aside0.mk ((by rw [hg]; exact Nat.ne_of_lt (blk_lt (g := gb418) (o := .cells #[.int .i64 t413, .slice Ao22 t414.length co22] 42 (0, 0)) (Bz BK418)) : gb418 ≠ gb429)); have NB429_418 := Aside0.mk ((by rw [hg]; exact Nat.ne_of_gt (blk_lt (g := gb418) (o := .cells #[.int .i64 t413, .slice Ao22 t414.length co22] 42 (0, 0)) (Bz BK418)) : gb429 ≠ gb418)); replace BK418 := Aside0.mk (blk_below (g := gb418) (o := .cells #[.int .i64 t413, .slice Ao22 t414.length co22] 42 (0, 0)) (Bz BK418) hb); have NB423_429 := Aside0.mk ((by rw [hg]; exact Nat.ne_of_lt (blk_lt (g := gb423) (o := .cells #[.int .i64 t419, .slice Ao29 t420.length co29] 42 (0, 0)) (Bz BK423)) : gb423 ≠ gb429)); have NB429_423 := Aside0.mk ((by rw [hg]; exact Nat.ne_of_gt (blk_lt (g := gb423) (o := .cells #[.int .i64 t419, .slice Ao29 t420.length co29] 42 (0, 0)) (Bz BK423)) : gb429 ≠ gb423)); replace BK423 := Aside0.mk (blk_below (g := gb423) (o := .cells #[.int .i64 t419, .slice Ao29 t420.length co29] 42 (0, 0)) (Bz BK423) hb); clear hb hbox hg; have hnb32 := NB429_407.out; have hnc32 := NB407_429.out; have hnb33 := NB429_418.out; have hnc33 := NB418_429.out; have hnb34 := NB429_423.out; have hnc34 := NB423_429.out; have hcz35_0 : w31.cell? ⟨gb429, 0, none⟩ = some (.int .i64 0) := (blk_cell BK429.out 0).trans rfl; have hcz35_1 : w31.cell? ⟨gb429, 1, none⟩ = some (.slice none 0 0) := (blk_cell BK429.out 1).trans rfl; have hfz35_0 := blk_frozen BK429.out 0; have hfz35_1 := blk_frozen BK429.out 1; obtain ⟨Ao36, co36, eo36⟩ := Kd.R_slice HO427.out; subst eo36))
   (try simp only [Act.put, List.setIfInBounds_toArray, List.set_cons_zero, List.set_cons_succ])
   go_cut [48] (fun v48 wc => ∃ (kq : Nat) (x48_13 : Bool), v48 = .bool x48_13 ∧ Aside0 (laws_FnExactAddEdge.j1 kq a1 a2 t417 t428 x48_13 a0_0 l0_1 t413 t414 t419 t420 t424 t425 = some r) ∧ Aside0 (kq ≤ kj4) ∧ Aside0 (Kd.R k75 75 wc w.heap.size (fun k_ => some k_ ≠ ((.slice Ao29 t420.length co29) : Value).ownBlock ∧ some k_ ≠ ((.slice Ao36 t425.length co36) : Value).ownBlock) (.slice Ao22 t414.length co22) t414) ∧ Aside0 (Kd.R k75 75 wc w.heap.size (fun k_ => some k_ ≠ ((.slice Ao22 t414.length co22) : Value).ownBlock ∧ some k_ ≠ ((.slice Ao36 t425.length co36) : Value).ownBlock) (.slice Ao29 t420.length co29) t420) ∧ Aside0 (Kd.R k75 75 wc w.heap.size (fun k_ => some k_ ≠ ((.slice Ao22 t414.length co22) : Value).ownBlock ∧ some k_ ≠ ((.slice Ao29 t420.length co29) : Value).ownBlock) (.slice Ao36 t425.length co36) t425) ∧ Aside0 (wc.heap[gb407]? = some (.cells #[.int .i64 a0_0, (.slice A0_1 l0_1.length c0_1)] 37 (0, 0))) ∧ Aside0 (wc.heap[gb418]? = some (.cells #[.int .i64 t413, (.slice Ao22 t414.length co22)] 42 (0, 0))) ∧ Aside0 (wc.heap[gb423]? = some (.cells #[.int .i64 t419, (.slice Ao29 t420.length co29)] 42 (0, 0))) ∧ Aside0 (wc.heap[gb429]? = some (.cells #[.int .i64 t424, (.slice Ao36 t425.length co36)] 42 (0, 0))) ∧ Aside0 (Below w.heap.size w wc))
   case first =>
    have H := HC14.out
    clear HC14
    replace H := Option.bind_eq_some_iff.mp H
    obtain ⟨t430, A370, H⟩ := H
    replace H : (if t430 = true then (laws_FnExactAddEdge.j1 kj4 a1 a2 t417 t428 (t428 != t417) a0_0 l0_1 t413 t414 t419 t420 t424 t425) else (laws_FnExactAddEdge.j1 kj4 a1 a2 t417 t428 true a0_0 l0_1 t413 t414 t419 t420 t424 t425)) = some r := H
    have A37 := Aside0.mk A370
    clear A370
    by_cases c38 : t430 = true
    ·subst c38
     have H1 : (laws_FnExactAddEdge.j1 kj4 a1 a2 t417 t428 (t428 != t417) a0_0 l0_1 t413 t414 t419 t420 t424 t425) = some r := by rw [if_pos rfl] at H; exact H
     clear H
     have H := H1
     clear H1
     have H' := Aside0.mk H
     clear H
     have hnb39 := NB429_407.out
     have hnc39 := NB407_429.out
     have hnb40 := NB429_418.out
     have hnc40 := NB418_429.out
     have hnb41 := NB429_423.out
     have hnc41 := NB423_429.out
     have hcz42_0 : w31.cell? ⟨gb429, 0, none⟩ = some (.int .i64 0) := (blk_cell BK429.out 0).trans rfl
     have hcz42_1 : w31.cell? ⟨gb429, 1, none⟩ = some (.slice none 0 0) := (blk_cell BK429.out 1).trans rfl
     have hfz42_0 := blk_frozen BK429.out 0
     have hfz42_1 := blk_frozen BK429.out 1
     have hnb43 := NB418_407.out
     have hnc43 := NB407_418.out
     have hnb44 := NB418_423.out
     have hnc44 := NB423_418.out
     have hcz45_0 : w31.cell? ⟨gb418, 0, none⟩ = some (.int .i64 t413) := (blk_cell BK418.out 0).trans rfl
     have hcz45_1 : w31.cell? ⟨gb418, 1, none⟩ = some (.slice Ao22 t414.length co22) := (blk_cell BK418.out 1).trans rfl
     have hfz45_0 := blk_frozen BK418.out 0
     have hfz45_1 := blk_frozen BK418.out 1
     go_wp2_with (first | ((with_reducible refine gate_callee (f := 35) rfl ?_); refine goesM_ (some 42) rfl rfl Try.func35 (by kernel_rfl) rfl #[.agg #[.int .i64 t424, .slice Ao36 t425.length co36], .agg #[.int .i64 t413, .slice Ao22 t414.length co22]] rfl ?_; (with_reducible refine (laws_eqGraph.calls kj4 t424 _ _ t425 t413 _ _ t414 true _ ?side1 ?side2 ?side3 ?side4 A37.out).mono ?_); (case side1 => refine (Kd.R_reads' (e := 75) (base := w.heap.size) (ok := fun k_ => (((True ∧ some k_ ≠ (.slice Ao17 t410.length co17 : Value).ownBlock) ∧ some k_ ≠ (.slice Ao22 t414.length co22 : Value).ownBlock) ∧ some k_ ≠ (.slice Ao29 t420.length co29 : Value).ownBlock)) (n := t425.length) (c := co36) ?_).2.2; exact (by (with_reducible repeat (first | apply Kd.R_alloc | apply Kd.R_drewN | apply Kd.R_drew)); exact (Kd.R_mono (Kd.R_far (p := ⟨gb429, 1, none⟩) (Kd.R_far (p := ⟨gb429, 0, none⟩) (Kd.R_types HO427.out BK429.out (by decide)) (fun _ hk => hk.2) (.int .i64 t424)) (fun _ hk => hk.2) (.slice Ao36 t425.length co36)) (fun _ h_ => h_.1)))); (case side2 => exact (Kd.R_reads' HO427.out).2.1); (case side3 => refine (Kd.R_reads' (e := 75) (base := w.heap.size) (ok := fun k_ => (((True ∧ some k_ ≠ (.slice Ao17 t410.length co17 : Value).ownBlock) ∧ some k_ ≠ (.slice Ao29 t420.length co29 : Value).ownBlock) ∧ some k_ ≠ (.slice Ao36 t425.length co36 : Value).ownBlock)) (n := t414.length) (c := co22) ?_).2.2; exact (by (with_reducible repeat (first | apply Kd.R_alloc | apply Kd.R_drewN | apply Kd.R_drew)); exact (Kd.R_mono (Kd.R_far (p := ⟨gb429, 1, none⟩) (Kd.R_far (p := ⟨gb429, 0, none⟩) (Kd.R_types HO416.out BK429.out (by decide)) (fun _ hk => hk.2) (.int .i64 t424)) (fun _ hk => hk.2) (.slice Ao36 t425.length co36)) (fun _ h_ => h_.1)))); (case side4 => exact (Kd.R_reads' HO416.out).2.1); rintro e w46 ⟨rfl, hb⟩; refine ⟨_, rfl, ?_⟩; replace HO412 := Aside0.mk (Kd.R_below (by (with_reducible repeat (first | apply Kd.R_alloc | apply Kd.R_drewN | apply Kd.R_drew)); exact (Kd.R_mono (Kd.R_far (p := ⟨gb429, 1, none⟩) (Kd.R_far (p := ⟨gb429, 0, none⟩) (Kd.R_types HO412.out BK429.out (by decide)) (fun _ hk => hk.2) (.int .i64 t424)) (fun _ hk => hk.2) (.slice Ao36 t425.length co36)) (fun _ h_ => h_.1))) hb); replace HO416 := Aside0.mk (Kd.R_below (by (with_reducible repeat (first | apply Kd.R_alloc | apply Kd.R_drewN | apply Kd.R_drew)); exact (Kd.R_mono (Kd.R_far (p := ⟨gb429, 1, none⟩) (Kd.R_far (p := ⟨gb429, 0, none⟩) (Kd.R_types HO416.out BK429.out (by decide)) (fun _ hk => hk.2) (.int .i64 t424)) (fun _ hk => hk.2) (.slice Ao36 t425.length co36)) (fun _ h_ => h_.1))) hb); replace HO422 := Aside0.mk (Kd.R_below (by (with_reducible repeat (first | apply Kd.R_alloc | apply Kd.R_drewN | apply Kd.R_drew)); exact (Kd.R_mono (Kd.R_far (p := ⟨gb429, 1, none⟩) (Kd.R_far (p := ⟨gb429, 0, none⟩) (Kd.R_types HO422.out BK429.out (by decide)) (fun _ hk => hk.2) (.int .i64 t424)) (fun _ hk => hk.2) (.slice Ao36 t425.length co36)) (fun _ h_ => h_.1))) hb); replace HO427 := Aside0.mk (Kd.R_below (by (with_reducible repeat (first | apply Kd.R_alloc | apply Kd.R_drewN | apply Kd.R_drew)); exact (Kd.R_mono (Kd.R_far (p := ⟨gb429, 1, none⟩) (Kd.R_far (p := ⟨gb429, 0, none⟩) (Kd.R_types HO427.out BK429.out (by decide)) (fun _ hk => hk.2) (.int .i64 t424)) (fun _ hk => hk.2) (.slice Ao36 t425.length co36)) (fun _ h_ => h_.1))) hb); replace BK407 := Aside0.mk (blk_below (g := gb407) (o := .cells #[.int .i64 a0_0, .slice A0_1 l0_1.length c0_1] 37 (0, 0)) (by (with_reducible repeat (first | refine blk_drewN ?_ _ | refine blk_drew ?_ | refine blk_alloc ?_ _)); refine blk_far ?_ NB407_429.out _; (with_reducible repeat (first | refine blk_drewN ?_ _ | refine blk_drew ?_ | refine blk_alloc ?_ _)); refine blk_far ?_ NB407_429.out _; exact Bz BK407) hb); replace BK418 := Aside0.mk (blk_below (g := gb418) (o := .cells #[.int .i64 t413, .slice Ao22 t414.length co22] 42 (0, 0)) (by (with_reducible repeat (first | refine blk_drewN ?_ _ | refine blk_drew ?_ | refine blk_alloc ?_ _)); refine blk_far ?_ NB418_429.out _; (with_reducible repeat (first | refine blk_drewN ?_ _ | refine blk_drew ?_ | refine blk_alloc ?_ _)); refine blk_far ?_ NB418_429.out _; exact Bz BK418) hb); replace BK423 := Aside0.mk (blk_below (g := gb423) (o := .cells #[.int .i64 t419, .slice Ao29 t420.length co29] 42 (0, 0)) (by (with_reducible repeat (first | refine blk_drewN ?_ _ | refine blk_drew ?_ | refine blk_alloc ?_ _)); refine blk_far ?_ NB423_429.out _; (with_reducible repeat (first | refine blk_drewN ?_ _ | refine blk_drew ?_ | refine blk_alloc ?_ _)); refine blk_far ?_ NB423_429.out _; exact Bz BK423) hb); replace BK429 := Aside0.mk (blk_below (g := gb429) (o := .cells #[.int .i64 t424, .slice Ao36 t425.length co36] 42 (0, 0)) (by (with_reducible repeat (first | refine blk_drewN ?_ _ | refine blk_drew ?_ | refine blk_alloc ?_ _)); refine blk_put (cs := #[.int .i64 t424, .slice none 0 0]) ?_ 1 _ rfl; (with_reducible repeat (first | refine blk_drewN ?_ _ | refine blk_drew ?_ | refine blk_alloc ?_ _)); refine blk_put (cs := #[.int .i64 0, .slice none 0 0]) ?_ 0 _ rfl; exact Bz BK429) hb); replace HB := Aside0.mk (below_step (by first | exact Lz HB | repeat (first | (with_reducible first | exact HB.out | apply below_alloc | apply pw_below_drewN | apply below_drew1 | refine below_set ?_ GE407.out | refine below_set ?_ GE418.out | refine below_set ?_ GE423.out | refine below_set ?_ GE429.out) | exact HB.out)) hb); (try clear hb); (try clear hb2); (try clear hk); (try clear hi)))
     go_meet
     case rel => exact ⟨_, ((t428 != t417)), eqA, H', ⟨by have := HJ4.out; first | omega | exact Nat.le_refl _⟩, ⟨by (with_reducible repeat (first | apply Kd.R_alloc | apply Kd.R_drewN | apply Kd.R_drew)); exact Kd.R_mono HO416.out (fun _ hk => ⟨hk.1.2, hk.2⟩)⟩, ⟨by (with_reducible repeat (first | apply Kd.R_alloc | apply Kd.R_drewN | apply Kd.R_drew)); exact Kd.R_mono HO422.out (fun _ hk => ⟨hk.1.2, hk.2⟩)⟩, ⟨by (with_reducible repeat (first | apply Kd.R_alloc | apply Kd.R_drewN | apply Kd.R_drew)); exact Kd.R_mono HO427.out (fun _ hk => ⟨hk.1.2, hk.2⟩)⟩, ⟨by exact Bz BK407⟩, ⟨by exact Bz BK418⟩, ⟨by exact Bz BK423⟩, ⟨by exact Bz BK429⟩, ⟨by first | exact Lz HB | repeat (first | (with_reducible first | exact HB.out | apply below_alloc | apply pw_below_drewN | apply below_drew1 | refine below_set ?_ GE407.out | refine below_set ?_ GE418.out | refine below_set ?_ GE423.out | refine below_set ?_ GE429.out) | exact HB.out)⟩⟩
    replace c38 := Bool.eq_false_iff.mpr c38
    subst c38
    have H1 : (laws_FnExactAddEdge.j1 kj4 a1 a2 t417 t428 true a0_0 l0_1 t413 t414 t419 t420 t424 t425) = some r := by rw [if_neg (show ¬ (false = true) by decide)] at H; exact H
    clear H
    have H := H1
    clear H1
    have H' := Aside0.mk H
    clear H
    have hnb47 := NB429_407.out
    have hnc47 := NB407_429.out
    have hnb48 := NB429_418.out
    have hnc48 := NB418_429.out
    have hnb49 := NB429_423.out
    have hnc49 := NB423_429.out
    have hcz50_0 : w31.cell? ⟨gb429, 0, none⟩ = some (.int .i64 0) := (blk_cell BK429.out 0).trans rfl
    have hcz50_1 : w31.cell? ⟨gb429, 1, none⟩ = some (.slice none 0 0) := (blk_cell BK429.out 1).trans rfl
    have hfz50_0 := blk_frozen BK429.out 0
    have hfz50_1 := blk_frozen BK429.out 1
    have hnb51 := NB418_407.out
    have hnc51 := NB407_418.out
    have hnb52 := NB418_423.out
    have hnc52 := NB423_418.out
    have hcz53_0 : w31.cell? ⟨gb418, 0, none⟩ = some (.int .i64 t413) := (blk_cell BK418.out 0).trans rfl
    have hcz53_1 : w31.cell? ⟨gb418, 1, none⟩ = some (.slice Ao22 t414.length co22) := (blk_cell BK418.out 1).trans rfl
    have hfz53_0 := blk_frozen BK418.out 0
    have hfz53_1 := blk_frozen BK418.out 1
    go_wp2_with (first | ((with_reducible refine gate_callee (f := 35) rfl ?_); refine goesM_ (some 42) rfl rfl Try.func35 (by kernel_rfl) rfl #[.agg #[.int .i64 t424, .slice Ao36 t425.length co36], .agg #[.int .i64 t413, .slice Ao22 t414.length co22]] rfl ?_; (with_reducible refine (laws_eqGraph.calls kj4 t424 _ _ t425 t413 _ _ t414 false _ ?side1 ?side2 ?side3 ?side4 A37.out).mono ?_); (case side1 => refine (Kd.R_reads' (e := 75) (base := w.heap.size) (ok := fun k_ => (((True ∧ some k_ ≠ (.slice Ao17 t410.length co17 : Value).ownBlock) ∧ some k_ ≠ (.slice Ao22 t414.length co22 : Value).ownBlock) ∧ some k_ ≠ (.slice Ao29 t420.length co29 : Value).ownBlock)) (n := t425.length) (c := co36) ?_).2.2; exact (by (with_reducible repeat (first | apply Kd.R_alloc | apply Kd.R_drewN | apply Kd.R_drew)); exact (Kd.R_mono (Kd.R_far (p := ⟨gb429, 1, none⟩) (Kd.R_far (p := ⟨gb429, 0, none⟩) (Kd.R_types HO427.out BK429.out (by decide)) (fun _ hk => hk.2) (.int .i64 t424)) (fun _ hk => hk.2) (.slice Ao36 t425.length co36)) (fun _ h_ => h_.1)))); (case side2 => exact (Kd.R_reads' HO427.out).2.1); (case side3 => refine (Kd.R_reads' (e := 75) (base := w.heap.size) (ok := fun k_ => (((True ∧ some k_ ≠ (.slice Ao17 t410.length co17 : Value).ownBlock) ∧ some k_ ≠ (.slice Ao29 t420.length co29 : Value).ownBlock) ∧ some k_ ≠ (.slice Ao36 t425.length co36 : Value).ownBlock)) (n := t414.length) (c := co22) ?_).2.2; exact (by (with_reducible repeat (first | apply Kd.R_alloc | apply Kd.R_drewN | apply Kd.R_drew)); exact (Kd.R_mono (Kd.R_far (p := ⟨gb429, 1, none⟩) (Kd.R_far (p := ⟨gb429, 0, none⟩) (Kd.R_types HO416.out BK429.out (by decide)) (fun _ hk => hk.2) (.int .i64 t424)) (fun _ hk => hk.2) (.slice Ao36 t425.length co36)) (fun _ h_ => h_.1)))); (case side4 => exact (Kd.R_reads' HO416.out).2.1); rintro e w54 ⟨rfl, hb⟩; refine ⟨_, rfl, ?_⟩; replace HO412 := Aside0.mk (Kd.R_below (by (with_reducible repeat (first | apply Kd.R_alloc | apply Kd.R_drewN | apply Kd.R_drew)); exact (Kd.R_mono (Kd.R_far (p := ⟨gb429, 1, none⟩) (Kd.R_far (p := ⟨gb429, 0, none⟩) (Kd.R_types HO412.out BK429.out (by decide)) (fun _ hk => hk.2) (.int .i64 t424)) (fun _ hk => hk.2) (.slice Ao36 t425.length co36)) (fun _ h_ => h_.1))) hb); replace HO416 := Aside0.mk (Kd.R_below (by (with_reducible repeat (first | apply Kd.R_alloc | apply Kd.R_drewN | apply Kd.R_drew)); exact (Kd.R_mono (Kd.R_far (p := ⟨gb429, 1, none⟩) (Kd.R_far (p := ⟨gb429, 0, none⟩) (Kd.R_types HO416.out BK429.out (by decide)) (fun _ hk => hk.2) (.int .i64 t424)) (fun _ hk => hk.2) (.slice Ao36 t425.length co36)) (fun _ h_ => h_.1))) hb); replace HO422 := Aside0.mk (Kd.R_below (by (with_reducible repeat (first | apply Kd.R_alloc | apply Kd.R_drewN | apply Kd.R_drew)); exact (Kd.R_mono (Kd.R_far (p := ⟨gb429, 1, none⟩) (Kd.R_far (p := ⟨gb429, 0, none⟩) (Kd.R_types HO422.out BK429.out (by decide)) (fun _ hk => hk.2) (.int .i64 t424)) (fun _ hk => hk.2) (.slice Ao36 t425.length co36)) (fun _ h_ => h_.1))) hb); replace HO427 := Aside0.mk (Kd.R_below (by (with_reducible repeat (first | apply Kd.R_alloc | apply Kd.R_drewN | apply Kd.R_drew)); exact (Kd.R_mono (Kd.R_far (p := ⟨gb429, 1, none⟩) (Kd.R_far (p := ⟨gb429, 0, none⟩) (Kd.R_types HO427.out BK429.out (by decide)) (fun _ hk => hk.2) (.int .i64 t424)) (fun _ hk => hk.2) (.slice Ao36 t425.length co36)) (fun _ h_ => h_.1))) hb); replace BK407 := Aside0.mk (blk_below (g := gb407) (o := .cells #[.int .i64 a0_0, .slice A0_1 l0_1.length c0_1] 37 (0, 0)) (by (with_reducible repeat (first | refine blk_drewN ?_ _ | refine blk_drew ?_ | refine blk_alloc ?_ _)); refine blk_far ?_ NB407_429.out _; (with_reducible repeat (first | refine blk_drewN ?_ _ | refine blk_drew ?_ | refine blk_alloc ?_ _)); refine blk_far ?_ NB407_429.out _; exact Bz BK407) hb); replace BK418 := Aside0.mk (blk_below (g := gb418) (o := .cells #[.int .i64 t413, .slice Ao22 t414.length co22] 42 (0, 0)) (by (with_reducible repeat (first | refine blk_drewN ?_ _ | refine blk_drew ?_ | refine blk_alloc ?_ _)); refine blk_far ?_ NB418_429.out _; (with_reducible repeat (first | refine blk_drewN ?_ _ | refine blk_drew ?_ | refine blk_alloc ?_ _)); refine blk_far ?_ NB418_429.out _; exact Bz BK418) hb); replace BK423 := Aside0.mk (blk_below (g := gb423) (o := .cells #[.int .i64 t419, .slice Ao29 t420.length co29] 42 (0, 0)) (by (with_reducible repeat (first | refine blk_drewN ?_ _ | refine blk_drew ?_ | refine blk_alloc ?_ _)); refine blk_far ?_ NB423_429.out _; (with_reducible repeat (first | refine blk_drewN ?_ _ | refine blk_drew ?_ | refine blk_alloc ?_ _)); refine blk_far ?_ NB423_429.out _; exact Bz BK423) hb); replace BK429 := Aside0.mk (blk_below (g := gb429) (o := .cells #[.int .i64 t424, .slice Ao36 t425.length co36] 42 (0, 0)) (by (with_reducible repeat (first | refine blk_drewN ?_ _ | refine blk_drew ?_ | refine blk_alloc ?_ _)); refine blk_put (cs := #[.int .i64 t424, .slice none 0 0]) ?_ 1 _ rfl; (with_reducible repeat (first | refine blk_drewN ?_ _ | refine blk_drew ?_ | refine blk_alloc ?_ _)); refine blk_put (cs := #[.int .i64 0, .slice none 0 0]) ?_ 0 _ rfl; exact Bz BK429) hb); replace HB := Aside0.mk (below_step (by first | exact Lz HB | repeat (first | (with_reducible first | exact HB.out | apply below_alloc | apply pw_below_drewN | apply below_drew1 | refine below_set ?_ GE407.out | refine below_set ?_ GE418.out | refine below_set ?_ GE423.out | refine below_set ?_ GE429.out) | exact HB.out)) hb); (try clear hb); (try clear hb2); (try clear hk); (try clear hi)))
    go_meet
    case rel => exact ⟨_, (true), eqA, H', ⟨by have := HJ4.out; first | omega | exact Nat.le_refl _⟩, ⟨by (with_reducible repeat (first | apply Kd.R_alloc | apply Kd.R_drewN | apply Kd.R_drew)); exact Kd.R_mono HO416.out (fun _ hk => ⟨hk.1.2, hk.2⟩)⟩, ⟨by (with_reducible repeat (first | apply Kd.R_alloc | apply Kd.R_drewN | apply Kd.R_drew)); exact Kd.R_mono HO422.out (fun _ hk => ⟨hk.1.2, hk.2⟩)⟩, ⟨by (with_reducible repeat (first | apply Kd.R_alloc | apply Kd.R_drewN | apply Kd.R_drew)); exact Kd.R_mono HO427.out (fun _ hk => ⟨hk.1.2, hk.2⟩)⟩, ⟨by exact Bz BK407⟩, ⟨by exact Bz BK418⟩, ⟨by exact Bz BK423⟩, ⟨by exact Bz BK429⟩, ⟨by first | exact Lz HB | repeat (first | (with_reducible first | exact HB.out | apply below_alloc | apply pw_below_drewN | apply below_drew1 | refine below_set ?_ GE407.out | refine below_set ?_ GE418.out | refine below_set ?_ GE423.out | refine below_set ?_ GE429.out) | exact HB.out)⟩⟩
   case rest =>
    clear HC14
    try clear c9
    try clear c9b0
    try clear c38
    obtain ⟨kq, x48_13, rfl, HA, HJ13, HO_419001, HO_424001, HO_430001, BK407, BK418, BK423, BK429, HB⟩ := hcut
    cases kq with
    | zero => exact absurd HA.out (by simp [laws_FnExactAddEdge.j1])
    | succ kj13 =>
     have H := HA.out
     clear HA
     simp only [laws_FnExactAddEdge.j1] at H
     have HC55 := Aside0.mk H
     clear H
     go_upto_if 48 with (fail)
     go_cut [] (fun wc => ∃ (kq : Nat), Aside0 (laws_FnExactAddEdge.j2 kq a1 a2 t417 t428 a0_0 l0_1 t413 t414 t419 t420 t424 t425 = some r) ∧ Aside0 (kq ≤ kj13) ∧ Aside0 (Kd.R k75 75 wc w.heap.size (fun k_ => some k_ ≠ ((.slice Ao29 t420.length co29) : Value).ownBlock ∧ some k_ ≠ ((.slice Ao36 t425.length co36) : Value).ownBlock) (.slice Ao22 t414.length co22) t414) ∧ Aside0 (Kd.R k75 75 wc w.heap.size (fun k_ => some k_ ≠ ((.slice Ao22 t414.length co22) : Value).ownBlock ∧ some k_ ≠ ((.slice Ao36 t425.length co36) : Value).ownBlock) (.slice Ao29 t420.length co29) t420) ∧ Aside0 (Kd.R k75 75 wc w.heap.size (fun k_ => some k_ ≠ ((.slice Ao22 t414.length co22) : Value).ownBlock ∧ some k_ ≠ ((.slice Ao29 t420.length co29) : Value).ownBlock) (.slice Ao36 t425.length co36) t425) ∧ Aside0 (wc.heap[gb407]? = some (.cells #[.int .i64 a0_0, (.slice A0_1 l0_1.length c0_1)] 37 (0, 0))) ∧ Aside0 (wc.heap[gb418]? = some (.cells #[.int .i64 t413, (.slice Ao22 t414.length co22)] 42 (0, 0))) ∧ Aside0 (wc.heap[gb423]? = some (.cells #[.int .i64 t419, (.slice Ao29 t420.length co29)] 42 (0, 0))) ∧ Aside0 (wc.heap[gb429]? = some (.cells #[.int .i64 t424, (.slice Ao36 t425.length co36)] 42 (0, 0))) ∧ Aside0 (Below w.heap.size w wc))
     case first =>
      have H := HC55.out
      clear HC55
      by_cases c56 : x48_13 = true
      ·subst c56
       have H1 : (some false) = some r := by rw [if_pos rfl] at H; exact H
       clear H
       have H := H1
       clear H1
       exact absurd (Option.some.inj H) (by rw [HR_.out]; decide)
      replace c56 := Bool.eq_false_iff.mpr c56
      subst c56
      have H1 : (laws_FnExactAddEdge.j2 kj13 a1 a2 t417 t428 a0_0 l0_1 t413 t414 t419 t420 t424 t425) = some r := by rw [if_neg (show ¬ (false = true) by decide)] at H; exact H
      clear H
      have H := H1
      clear H1
      have H' := Aside0.mk H
      clear H
      go_wp2
      go_meet
      case rel => exact ⟨_, H', ⟨by have := HJ4.out; have := HJ13.out; first | omega | exact Nat.le_refl _⟩, ⟨by exact Rz HO_419001⟩, ⟨by exact Rz HO_424001⟩, ⟨by exact Rz HO_430001⟩, ⟨by exact Bz BK407⟩, ⟨by exact Bz BK418⟩, ⟨by exact Bz BK423⟩, ⟨by exact Bz BK429⟩, ⟨by first | exact Lz HB | repeat (first | (with_reducible first | exact HB.out | apply below_alloc | apply pw_below_drewN | apply below_drew1 | refine below_set ?_ GE407.out | refine below_set ?_ GE418.out | refine below_set ?_ GE423.out | refine below_set ?_ GE429.out) | exact HB.out)⟩⟩
     case rest =>
      clear HC55
      try clear c9
      try clear c9b0
      try clear c38
      try clear c56
      obtain ⟨kq, HA, HJ54, HO_419001, HO_424001, HO_430001, BK407, BK418, BK423, BK429, HB⟩ := hcut
      cases kq with
      | zero => exact absurd HA.out (by simp [laws_FnExactAddEdge.j2])
      | succ kj54 =>
       have H := HA.out
       clear HA
       simp only [laws_FnExactAddEdge.j2] at H
       replace H := Option.bind_eq_some_iff.mp H
       obtain ⟨⟨t431, t432⟩, A570, H⟩ := H
       replace H : ((laws_eqGraph.f kj54 t419 t420 t431 t432).bind fun t435 => (if t435 = true then (laws_FnExactAddEdge.j3 kj54 a1 a2 t417 t428 a0_0 l0_1 t413 t414 t419 t420 t424 t425) else (some false))) = some r := H
       have A57 := Aside0.mk A570
       clear A570
       replace H := Option.bind_eq_some_iff.mp H
       obtain ⟨t435, A580, H⟩ := H
       replace H : (if t435 = true then (laws_FnExactAddEdge.j3 kj54 a1 a2 t417 t428 a0_0 l0_1 t413 t414 t419 t420 t424 t425) else (some false)) = some r := H
       have A58 := Aside0.mk A580
       clear A580
       have HC59 := Aside0.mk H
       clear H
       try go_wp2
       replace HO_419001 := Aside0.mk (Kd.R_drew HO_419001.out)
       replace HO_424001 := Aside0.mk (Kd.R_drew HO_424001.out)
       replace HO_430001 := Aside0.mk (Kd.R_drew HO_430001.out)
       replace BK407 := Aside0.mk (blk_drew BK407.out)
       replace BK418 := Aside0.mk (blk_drew BK418.out)
       replace BK423 := Aside0.mk (blk_drew BK423.out)
       replace BK429 := Aside0.mk (blk_drew BK429.out)
       replace HB := Aside0.mk (below_drew1 HB.out)
       refine start_ (n := 5) (S := fun w' => w'.cell? ⟨gb423, 0, none⟩ = some (.int .i64 t419) ∧ w'.cell? ⟨gb423, 1, none⟩ = some (.slice Ao29 t420.length co29) ∧ w'.cell? ⟨gb407, 0, none⟩ = some (.int .i64 a0_0) ∧ w'.cell? ⟨gb407, 1, none⟩ = some (.slice A0_1 l0_1.length c0_1)) (ds := []) #[false, false, false, false, false] (by kernel_rfl) rfl rfl ⟨(blk_cell BK423.out 0).trans rfl, (blk_cell BK423.out 1).trans rfl, (blk_cell BK407.out 0).trans rfl, (blk_cell BK407.out 1).trans rfl⟩ (fun hHeld => ?_)
       generalize wc.drew = w60 at HO_419001 HO_424001 HO_430001 BK407 BK418 BK423 BK429 HB hHeld ⊢
       refine take_ (i := 0) (N := some 49) (v := ?_) (a' := ?_) #[true, false, false, false, false] rfl rfl (by kernel_rfl) (fun _ _ _ h => h) (Or.inl ⟨by rfl, ?_⟩) hHeld ?_ ?_
       rotate_left
       ·rintro w' ⟨s0, s1, s2, s3⟩
        go_simp
        with_reducible rfl
       rotate_left
       ·simp only [Act.put, List.setIfInBounds_toArray, List.set_cons_zero, List.set_cons_succ, i64_w, i32_w]
        rfl
       refine take_ (i := 1) (N := some 50) (v := ?_) (a' := ?_) #[true, true, false, false, false] rfl rfl (by kernel_rfl) (fun _ _ _ h => h) (Or.inl ⟨by rfl, ?_⟩) hHeld ?_ ?_
       rotate_left
       ·rintro w' ⟨s0, s1, s2, s3⟩
        go_simp
        with_reducible rfl
       rotate_left
       ·simp only [Act.put, List.setIfInBounds_toArray, List.set_cons_zero, List.set_cons_succ, i64_w, i32_w]
        rfl
       refine one_ (i := 2) (N := some 51) #[true, true, true, false, false] rfl rfl (by kernel_rfl) (by decide) (fun K hK => ?_)
       refine goes_ Try.func33 (by kernel_rfl) rfl #[.agg #[.int .i64 a0_0, .slice A0_1 l0_1.length c0_1]] (by rfl) rfl rfl (by (try simp only [List.map_toArray, List.map_cons, List.map_nil]); first | done | rfl | (simp only [List.length_drop, List.length_take]; rfl)) ?_
       with_reducible refine (laws_toGraph.calls kj54 a0_0 _ _ l0_1 t431 t432 _ ?side1 ?side2 A57.out).mono ?_
       (case side1 => exact Cz ((Kd.C_below HR0_1.out HB.out)))
       (case side2 => exact HC0_1.out)
       rintro e w61 ⟨v433, rfl, ho0, hb⟩
       refine ⟨_, rfl, ?_⟩
       have HO434 := Aside0.mk (Kd.R_lower (Kd.R_new' (Kd.R_new' (Kd.R_new' ho0 (Kd.R_lt (Rz HO_419001))) (Kd.R_lt (Rz HO_424001))) (Kd.R_lt (Rz HO_430001))) (below_size (by first | exact Lz HB | repeat (first | (with_reducible first | exact HB.out | apply below_alloc | apply pw_below_drewN | apply below_drew1 | refine below_set ?_ GE407.out | refine below_set ?_ GE418.out | refine below_set ?_ GE423.out | refine below_set ?_ GE429.out) | exact HB.out))))
       replace HO_419001 := Aside0.mk (Kd.R_elder' (Rz HO_419001) (Kd.R_base ho0) hb)
       replace HO_424001 := Aside0.mk (Kd.R_elder' (Rz HO_424001) (Kd.R_base ho0) hb)
       replace HO_430001 := Aside0.mk (Kd.R_elder' (Rz HO_430001) (Kd.R_base ho0) hb)
       replace BK407 := Aside0.mk (blk_below (g := gb407) (o := .cells #[.int .i64 a0_0, .slice A0_1 l0_1.length c0_1] 37 (0, 0)) (Bz BK407) hb)
       replace BK418 := Aside0.mk (blk_below (g := gb418) (o := .cells #[.int .i64 t413, .slice Ao22 t414.length co22] 42 (0, 0)) (Bz BK418) hb)
       replace BK423 := Aside0.mk (blk_below (g := gb423) (o := .cells #[.int .i64 t419, .slice Ao29 t420.length co29] 42 (0, 0)) (Bz BK423) hb)
       replace BK429 := Aside0.mk (blk_below (g := gb429) (o := .cells #[.int .i64 t424, .slice Ao36 t425.length co36] 42 (0, 0)) (Bz BK429) hb)
       replace HB := Aside0.mk (below_step (by first | exact Lz HB | repeat (first | (with_reducible first | exact HB.out | apply below_alloc | apply pw_below_drewN | apply below_drew1 | refine below_set ?_ GE407.out | refine below_set ?_ GE418.out | refine below_set ?_ GE423.out | refine below_set ?_ GE429.out) | exact HB.out)) hb)
       (try clear hb)
       (try clear hb2)
       (try clear hk)
       (try clear hi)
       (try clear ho0)
       obtain ⟨Ao62, co62, eo62⟩ := Kd.R_slice HO434.out
       (first | subst eo62 | (injection eo62 with f1_ f2_ f3_; have f4_ := f1_.symm; have f5_ := f3_.symm; clear f1_ f2_ f3_; subst f4_; subst f5_))
       refine hK.out _ _ ⟨(blk_cell BK423.out 0).trans rfl, (blk_cell BK423.out 1).trans rfl, (blk_cell BK407.out 0).trans rfl, (blk_cell BK407.out 1).trans rfl⟩ (fun hHeld => ?_)
       clear hK K
       refine norm_ (a' := ?_) ?_ ?_
       rotate_left
       ·show Act.put _ (some 51) _ = _
        simp only [Act.put, List.setIfInBounds_toArray, List.set_cons_zero, List.set_cons_succ, i64_w, i32_w]
        rfl
       refine one_ (i := 3) (N := some 52) #[true, true, true, true, false] rfl rfl (by kernel_rfl) (by decide) (fun K hK => ?_)
       refine goes_ Try.func35 (by kernel_rfl) rfl #[.agg #[.int .i64 t419, .slice Ao29 t420.length co29], .agg #[.int .i64 t431, .slice Ao62 t432.length co62]] (by rfl) rfl rfl (by (try simp only [List.map_toArray, List.map_cons, List.map_nil]); first | done | rfl | (simp only [List.length_drop, List.length_take]; rfl)) ?_
       with_reducible refine (laws_eqGraph.calls kj54 t419 _ _ t420 t431 _ _ t432 t435 _ ?side1 ?side2 ?side3 ?side4 A58.out).mono ?_
       (case side1 => exact Cz ((Kd.R_reads' HO_424001.out).2.2))
       (case side2 => exact (Kd.R_reads' HO_424001.out).2.1)
       (case side3 => exact Cz ((Kd.R_reads' HO434.out).2.2))
       (case side4 => exact (Kd.R_reads' HO434.out).2.1)
       rintro e w63 ⟨rfl, hb⟩
       refine ⟨_, rfl, ?_⟩
       replace HO_419001 := Aside0.mk (Kd.R_below (Rz HO_419001) hb)
       replace HO_424001 := Aside0.mk (Kd.R_below (Rz HO_424001) hb)
       replace HO_430001 := Aside0.mk (Kd.R_below (Rz HO_430001) hb)
       replace HO434 := Aside0.mk (Kd.R_below (Rz HO434) hb)
       replace BK407 := Aside0.mk (blk_below (g := gb407) (o := .cells #[.int .i64 a0_0, .slice A0_1 l0_1.length c0_1] 37 (0, 0)) (Bz BK407) hb)
       replace BK418 := Aside0.mk (blk_below (g := gb418) (o := .cells #[.int .i64 t413, .slice Ao22 t414.length co22] 42 (0, 0)) (Bz BK418) hb)
       replace BK423 := Aside0.mk (blk_below (g := gb423) (o := .cells #[.int .i64 t419, .slice Ao29 t420.length co29] 42 (0, 0)) (Bz BK423) hb)
       replace BK429 := Aside0.mk (blk_below (g := gb429) (o := .cells #[.int .i64 t424, .slice Ao36 t425.length co36] 42 (0, 0)) (Bz BK429) hb)
       replace HB := Aside0.mk (below_step (by first | exact Lz HB | repeat (first | (with_reducible first | exact HB.out | apply below_alloc | apply pw_below_drewN | apply below_drew1 | refine below_set ?_ GE407.out | refine below_set ?_ GE418.out | refine below_set ?_ GE423.out | refine below_set ?_ GE429.out) | exact HB.out)) hb)
       (try clear hb)
       (try clear hb2)
       (try clear hk)
       (try clear hi)
       refine hK.out _ _ ⟨(blk_cell BK423.out 0).trans rfl, (blk_cell BK423.out 1).trans rfl, (blk_cell BK407.out 0).trans rfl, (blk_cell BK407.out 1).trans rfl⟩ (fun hHeld => ?_)
       clear hK K
       refine norm_ (a' := ?_) ?_ ?_
       rotate_left
       ·show Act.put _ (some 52) _ = _
        simp only [Act.put, List.setIfInBounds_toArray, List.set_cons_zero, List.set_cons_succ, i64_w, i32_w]
        rfl
       refine pure_ (i := 4) (N := some 53) (v := ?_) (a' := ?_) #[true, true, true, true, true] rfl rfl (by kernel_rfl) (fun _ _ _ h => h) (Or.inl ⟨by rfl, ?_⟩) ?_ ?_
       rotate_left
       ·intro w'
        go_simp
        with_reducible rfl
       rotate_left
       ·simp only [Act.put, List.setIfInBounds_toArray, List.set_cons_zero, List.set_cons_succ, i64_w, i32_w]
        rfl
       refine done_ (by kernel_rfl) ?_
       go_upto_if 53 with (fail)
       go_cut [] (fun wc => ∃ (kq : Nat), Aside0 (laws_FnExactAddEdge.j3 kq a1 a2 t417 t428 a0_0 l0_1 t413 t414 t419 t420 t424 t425 = some r) ∧ Aside0 (kq ≤ kj54) ∧ Aside0 (Kd.R k75 75 wc w.heap.size (fun k_ => some k_ ≠ ((.slice Ao29 t420.length co29) : Value).ownBlock ∧ some k_ ≠ ((.slice Ao36 t425.length co36) : Value).ownBlock) (.slice Ao22 t414.length co22) t414) ∧ Aside0 (Kd.R k75 75 wc w.heap.size (fun k_ => some k_ ≠ ((.slice Ao22 t414.length co22) : Value).ownBlock ∧ some k_ ≠ ((.slice Ao36 t425.length co36) : Value).ownBlock) (.slice Ao29 t420.length co29) t420) ∧ Aside0 (Kd.R k75 75 wc w.heap.size (fun k_ => some k_ ≠ ((.slice Ao22 t414.length co22) : Value).ownBlock ∧ some k_ ≠ ((.slice Ao29 t420.length co29) : Value).ownBlock) (.slice Ao36 t425.length co36) t425) ∧ Aside0 (wc.heap[gb407]? = some (.cells #[.int .i64 a0_0, (.slice A0_1 l0_1.length c0_1)] 37 (0, 0))) ∧ Aside0 (wc.heap[gb418]? = some (.cells #[.int .i64 t413, (.slice Ao22 t414.length co22)] 42 (0, 0))) ∧ Aside0 (wc.heap[gb423]? = some (.cells #[.int .i64 t419, (.slice Ao29 t420.length co29)] 42 (0, 0))) ∧ Aside0 (wc.heap[gb429]? = some (.cells #[.int .i64 t424, (.slice Ao36 t425.length co36)] 42 (0, 0))) ∧ Aside0 (Below w.heap.size w wc))
       case first =>
        have H := HC59.out
        clear HC59
        by_cases c64 : t435 = true
        ·subst c64
         have H1 : (laws_FnExactAddEdge.j3 kj54 a1 a2 t417 t428 a0_0 l0_1 t413 t414 t419 t420 t424 t425) = some r := by rw [if_pos rfl] at H; exact H
         clear H
         have H := H1
         clear H1
         have H' := Aside0.mk H
         clear H
         go_wp2
         go_meet
         case rel => exact ⟨_, H', ⟨by have := HJ4.out; have := HJ13.out; have := HJ54.out; first | omega | exact Nat.le_refl _⟩, ⟨by (with_reducible repeat (first | apply Kd.R_alloc | apply Kd.R_drewN | apply Kd.R_drew)); exact Kd.R_mono HO_419001.out (fun _ hk => ⟨hk.1.1, hk.1.2⟩)⟩, ⟨by (with_reducible repeat (first | apply Kd.R_alloc | apply Kd.R_drewN | apply Kd.R_drew)); exact Kd.R_mono HO_424001.out (fun _ hk => ⟨hk.1.1, hk.1.2⟩)⟩, ⟨by (with_reducible repeat (first | apply Kd.R_alloc | apply Kd.R_drewN | apply Kd.R_drew)); exact Kd.R_mono HO_430001.out (fun _ hk => ⟨hk.1.1, hk.1.2⟩)⟩, ⟨by exact Bz BK407⟩, ⟨by exact Bz BK418⟩, ⟨by exact Bz BK423⟩, ⟨by exact Bz BK429⟩, ⟨by first | exact Lz HB | repeat (first | (with_reducible first | exact HB.out | apply below_alloc | apply pw_below_drewN | apply below_drew1 | refine below_set ?_ GE407.out | refine below_set ?_ GE418.out | refine below_set ?_ GE423.out | refine below_set ?_ GE429.out) | exact HB.out)⟩⟩
        replace c64 := Bool.eq_false_iff.mpr c64
        subst c64
        have H1 : (some false) = some r := by rw [if_neg (show ¬ (false = true) by decide)] at H; exact H
        clear H
        have H := H1
        clear H1
        exact absurd (Option.some.inj H) (by rw [HR_.out]; decide)
       case rest =>
        clear HC59
        try clear c9
        try clear c9b0
        try clear c38
        try clear c56
        try clear c64
        obtain ⟨kq, HA, HJ58, HO_419001, HO_424001, HO_430001, BK407, BK418, BK423, BK429, HB⟩ := hcut
        cases kq with
        | zero => exact absurd HA.out (by simp [laws_FnExactAddEdge.j3])
        | succ kj58 =>
         have H := HA.out
         clear HA
         simp only [laws_FnExactAddEdge.j3] at H
         replace H := Option.bind_eq_some_iff.mp H
         obtain ⟨⟨t436, t437⟩, A650, H⟩ := H
         replace H : (if t436 < 0 then (laws_FnExactAddEdge.j4 kj58 a1 a2 t417 true a0_0 l0_1 t413 t414 t424 t425) else ((laws_eqGraph.f kj58 t424 t425 t413 t414).bind fun t438 => (if t438 = true then (laws_FnExactAddEdge.j4 kj58 a1 a2 t417 (t428 != t417) a0_0 l0_1 t413 t414 t424 t425) else (laws_FnExactAddEdge.j4 kj58 a1 a2 t417 true a0_0 l0_1 t413 t414 t424 t425)))) = some r := H
         have A65 := Aside0.mk A650
         clear A650
         have HC66 := Aside0.mk H
         clear H
         have hnb67 := NB423_407.out
         have hnc67 := NB407_423.out
         have hnb68 := NB423_418.out
         have hnc68 := NB418_423.out
         have hnb69 := NB423_429.out
         have hnc69 := NB429_423.out
         have hcz70_0 : wc.cell? ⟨gb423, 0, none⟩ = some (.int .i64 t419) := (blk_cell BK423.out 0).trans rfl
         have hcz70_1 : wc.cell? ⟨gb423, 1, none⟩ = some (.slice Ao29 t420.length co29) := (blk_cell BK423.out 1).trans rfl
         have hfz70_0 := blk_frozen BK423.out 0
         have hfz70_1 := blk_frozen BK423.out 1
         go_upto_region 14 with (first | ((with_reducible refine gate_callee (f := 36) rfl ?_); refine goesM_ (some 56) rfl rfl Try.func36 (by kernel_rfl) rfl #[.agg #[.int .i64 t419, .slice Ao29 t420.length co29], .int .i64 1] rfl ?_; (with_reducible refine (laws_markGraph.calls kj58 t419 (fun k_ => some k_ = (.slice Ao29 t420.length co29 : Value).ownBlock) (.slice Ao29 t420.length co29) t420 1 t436 t437 w _ ?side1 ?side2 A65.out).mono ?_); (case side1 => first | exact Lz HB | repeat (first | (with_reducible first | exact HB.out | apply below_alloc | apply pw_below_drewN | apply below_drew1 | refine below_set ?_ GE407.out | refine below_set ?_ GE418.out | refine below_set ?_ GE423.out | refine below_set ?_ GE429.out) | exact HB.out)); (case side2 => exact Kd.R_tight rfl HO_424001.out); rintro e w71 ⟨rfl, hy0, hb, hkp⟩; refine ⟨_, rfl, ?_⟩; replace HO_419001 := Aside0.mk (Kd.R_mono (ok' := fun k_ => some k_ ≠ (.slice Ao29 t420.length co29 : Value).ownBlock ∧ some k_ ≠ (.slice Ao36 t425.length co36 : Value).ownBlock) (Kd.R_keptB (HO_419001.out) hkp (fun k_ hk_ hs_ => (hk_.1) hs_)) (fun k_ hk_ => ⟨hk_.1.1, hk_.1.2⟩)); replace HO_430001 := Aside0.mk (Kd.R_mono (ok' := fun k_ => some k_ ≠ (.slice Ao22 t414.length co22 : Value).ownBlock ∧ some k_ ≠ (.slice Ao29 t420.length co29 : Value).ownBlock) (Kd.R_keptB (HO_430001.out) hkp (fun k_ hk_ hs_ => (hk_.2) hs_)) (fun k_ hk_ => ⟨hk_.1.1, hk_.1.2⟩)); replace BK407 := Aside0.mk (blk_kept (Bz BK407) hkp (fun hs_ => (fun e_ => (Kd.R_ne HO_424001.out BK407.out (by decide)) e_) hs_)); replace BK418 := Aside0.mk (blk_kept (Bz BK418) hkp (fun hs_ => (fun e_ => (Kd.R_ne HO_424001.out BK418.out (by decide)) e_) hs_)); replace BK423 := Aside0.mk (blk_kept (Bz BK423) hkp (fun hs_ => (fun e_ => (Kd.R_ne HO_424001.out BK423.out (by decide)) e_) hs_)); replace BK429 := Aside0.mk (blk_kept (Bz BK429) hkp (fun hs_ => (fun e_ => (Kd.R_ne HO_424001.out BK429.out (by decide)) e_) hs_)); replace HO_424001 := Aside0.mk (Kd.R_reok rfl hy0 (fun k_ e_ => HO_424001.out.1 k_ e_)); replace HB := Aside0.mk (hb); (try clear hb); (try clear hkp); (try clear hy0)))
         (try simp only [Act.put, List.setIfInBounds_toArray, List.set_cons_zero, List.set_cons_succ])
         go_cut [69] (fun v69 wc => ∃ (kq : Nat) (x69_65 : Bool), v69 = .bool x69_65 ∧ Aside0 (laws_FnExactAddEdge.j4 kq a1 a2 t417 x69_65 a0_0 l0_1 t413 t414 t424 t425 = some r) ∧ Aside0 (kq ≤ kj58) ∧ Aside0 (Kd.R k75 75 wc w.heap.size (fun k_ => some k_ ≠ ((.slice Ao29 t420.length co29) : Value).ownBlock ∧ some k_ ≠ ((.slice Ao36 t425.length co36) : Value).ownBlock) (.slice Ao22 t414.length co22) t414) ∧ Aside0 (Kd.R k75 75 wc w.heap.size (fun k_ => some k_ ≠ ((.slice Ao22 t414.length co22) : Value).ownBlock ∧ some k_ ≠ ((.slice Ao36 t425.length co36) : Value).ownBlock) (.slice Ao29 t420.length co29) t437) ∧ Aside0 (Kd.R k75 75 wc w.heap.size (fun k_ => some k_ ≠ ((.slice Ao22 t414.length co22) : Value).ownBlock ∧ some k_ ≠ ((.slice Ao29 t420.length co29) : Value).ownBlock) (.slice Ao36 t425.length co36) t425) ∧ Aside0 (wc.heap[gb407]? = some (.cells #[.int .i64 a0_0, (.slice A0_1 l0_1.length c0_1)] 37 (0, 0))) ∧ Aside0 (wc.heap[gb418]? = some (.cells #[.int .i64 t413, (.slice Ao22 t414.length co22)] 42 (0, 0))) ∧ Aside0 (wc.heap[gb423]? = some (.cells #[.int .i64 t419, (.slice Ao29 t420.length co29)] 42 (0, 0))) ∧ Aside0 (wc.heap[gb429]? = some (.cells #[.int .i64 t424, (.slice Ao36 t425.length co36)] 42 (0, 0))) ∧ Aside0 (Below w.heap.size w wc))
         case first =>
          have H := HC66.out
          clear HC66
          by_cases c72 : t436 < 0
          ·rw [if_pos c72] at H
           have c72b0 : decide (t436 < 0) = true := decide_eq_true c72
           clear c72
           (first | rw [c72b0] | (simp only [i64_w, i32_w]; rw [c72b0]) | skip)
           have H' := Aside0.mk H
           clear H
           go_wp2
           go_meet
           case rel => exact ⟨_, (true), eqA, H', ⟨by have := HJ4.out; have := HJ13.out; have := HJ54.out; have := HJ58.out; first | omega | exact Nat.le_refl _⟩, ⟨by exact Rz HO_419001⟩, ⟨by exact Rz HO_424001⟩, ⟨by exact Rz HO_430001⟩, ⟨by exact Bz BK407⟩, ⟨by exact Bz BK418⟩, ⟨by exact Bz BK423⟩, ⟨by exact Bz BK429⟩, ⟨by first | exact Lz HB | repeat (first | (with_reducible first | exact HB.out | apply below_alloc | apply pw_below_drewN | apply below_drew1 | refine below_set ?_ GE407.out | refine below_set ?_ GE418.out | refine below_set ?_ GE423.out | refine below_set ?_ GE429.out) | exact HB.out)⟩⟩
          rw [if_neg c72] at H
          have c72b0 : decide (t436 < 0) = false := decide_eq_false c72
          clear c72
          (first | rw [c72b0] | (simp only [i64_w, i32_w]; rw [c72b0]) | skip)
          replace H := Option.bind_eq_some_iff.mp H
          obtain ⟨t438, A730, H⟩ := H
          replace H : (if t438 = true then (laws_FnExactAddEdge.j4 kj58 a1 a2 t417 (t428 != t417) a0_0 l0_1 t413 t414 t424 t425) else (laws_FnExactAddEdge.j4 kj58 a1 a2 t417 true a0_0 l0_1 t413 t414 t424 t425)) = some r := H
          have A73 := Aside0.mk A730
          clear A730
          by_cases c74 : t438 = true
          ·subst c74
           have H1 : (laws_FnExactAddEdge.j4 kj58 a1 a2 t417 (t428 != t417) a0_0 l0_1 t413 t414 t424 t425) = some r := by rw [if_pos rfl] at H; exact H
           clear H
           have H := H1
           clear H1
           have H' := Aside0.mk H
           clear H
           have hnb75 := NB429_407.out
           have hnc75 := NB407_429.out
           have hnb76 := NB429_418.out
           have hnc76 := NB418_429.out
           have hnb77 := NB429_423.out
           have hnc77 := NB423_429.out
           have hcz78_0 : w71.cell? ⟨gb429, 0, none⟩ = some (.int .i64 t424) := (blk_cell BK429.out 0).trans rfl
           have hcz78_1 : w71.cell? ⟨gb429, 1, none⟩ = some (.slice Ao36 t425.length co36) := (blk_cell BK429.out 1).trans rfl
           have hfz78_0 := blk_frozen BK429.out 0
           have hfz78_1 := blk_frozen BK429.out 1
           have hnb79 := NB418_407.out
           have hnc79 := NB407_418.out
           have hnb80 := NB418_423.out
           have hnc80 := NB423_418.out
           have hcz81_0 : w71.cell? ⟨gb418, 0, none⟩ = some (.int .i64 t413) := (blk_cell BK418.out 0).trans rfl
           have hcz81_1 : w71.cell? ⟨gb418, 1, none⟩ = some (.slice Ao22 t414.length co22) := (blk_cell BK418.out 1).trans rfl
           have hfz81_0 := blk_frozen BK418.out 0
           have hfz81_1 := blk_frozen BK418.out 1
           go_wp2_with (first | (go_at_call 35; (with_reducible refine (laws_eqGraph.calls kj58 t424 _ _ t425 t413 _ _ t414 true _ ?side1 ?side2 ?side3 ?side4 A73.out).mono ?_); (case side1 => exact Cz ((Kd.R_reads' HO_430001.out).2.2)); (case side2 => exact (Kd.R_reads' HO_430001.out).2.1); (case side3 => exact Cz ((Kd.R_reads' HO_419001.out).2.2)); (case side4 => exact (Kd.R_reads' HO_419001.out).2.1); rintro e w82 ⟨rfl, hb⟩; replace HO_419001 := Aside0.mk (Kd.R_below (Rz HO_419001) hb); replace HO_424001 := Aside0.mk (Kd.R_below (Rz HO_424001) hb); replace HO_430001 := Aside0.mk (Kd.R_below (Rz HO_430001) hb); replace BK407 := Aside0.mk (blk_below (g := gb407) (o := .cells #[.int .i64 a0_0, .slice A0_1 l0_1.length c0_1] 37 (0, 0)) (Bz BK407) hb); replace BK418 := Aside0.mk (blk_below (g := gb418) (o := .cells #[.int .i64 t413, .slice Ao22 t414.length co22] 42 (0, 0)) (Bz BK418) hb); replace BK423 := Aside0.mk (blk_below (g := gb423) (o := .cells #[.int .i64 t419, .slice Ao29 t420.length co29] 42 (0, 0)) (Bz BK423) hb); replace BK429 := Aside0.mk (blk_below (g := gb429) (o := .cells #[.int .i64 t424, .slice Ao36 t425.length co36] 42 (0, 0)) (Bz BK429) hb); replace HB := Aside0.mk (below_step (by first | exact Lz HB | repeat (first | (with_reducible first | exact HB.out | apply below_alloc | apply pw_below_drewN | apply below_drew1 | refine below_set ?_ GE407.out | refine below_set ?_ GE418.out | refine below_set ?_ GE423.out | refine below_set ?_ GE429.out) | exact HB.out)) hb); (try clear hb); (try clear hb2); (try clear hk); (try clear hi)))
           go_meet
           case rel => exact ⟨_, ((t428 != t417)), eqA, H', ⟨by have := HJ4.out; have := HJ13.out; have := HJ54.out; have := HJ58.out; first | omega | exact Nat.le_refl _⟩, ⟨by exact Rz HO_419001⟩, ⟨by exact Rz HO_424001⟩, ⟨by exact Rz HO_430001⟩, ⟨by exact Bz BK407⟩, ⟨by exact Bz BK418⟩, ⟨by exact Bz BK423⟩, ⟨by exact Bz BK429⟩, ⟨by first | exact Lz HB | repeat (first | (with_reducible first | exact HB.out | apply below_alloc | apply pw_below_drewN | apply below_drew1 | refine below_set ?_ GE407.out | refine below_set ?_ GE418.out | refine below_set ?_ GE423.out | refine below_set ?_ GE429.out) | exact HB.out)⟩⟩
          replace c74 := Bool.eq_false_iff.mpr c74
          subst c74
          have H1 : (laws_FnExactAddEdge.j4 kj58 a1 a2 t417 true a0_0 l0_1 t413 t414 t424 t425) = some r := by rw [if_neg (show ¬ (false = true) by decide)] at H; exact H
          clear H
          have H := H1
          clear H1
          have H' := Aside0.mk H
          clear H
          have hnb83 := NB429_407.out
          have hnc83 := NB407_429.out
          have hnb84 := NB429_418.out
          have hnc84 := NB418_429.out
          have hnb85 := NB429_423.out
          have hnc85 := NB423_429.out
          have hcz86_0 : w71.cell? ⟨gb429, 0, none⟩ = some (.int .i64 t424) := (blk_cell BK429.out 0).trans rfl
          have hcz86_1 : w71.cell? ⟨gb429, 1, none⟩ = some (.slice Ao36 t425.length co36) := (blk_cell BK429.out 1).trans rfl
          have hfz86_0 := blk_frozen BK429.out 0
          have hfz86_1 := blk_frozen BK429.out 1
          have hnb87 := NB418_407.out
          have hnc87 := NB407_418.out
          have hnb88 := NB418_423.out
          have hnc88 := NB423_418.out
          have hcz89_0 : w71.cell? ⟨gb418, 0, none⟩ = some (.int .i64 t413) := (blk_cell BK418.out 0).trans rfl
          have hcz89_1 : w71.cell? ⟨gb418, 1, none⟩ = some (.slice Ao22 t414.length co22) := (blk_cell BK418.out 1).trans rfl
          have hfz89_0 := blk_frozen BK418.out 0
          have hfz89_1 := blk_frozen BK418.out 1
          go_wp2_with (first | (go_at_call 35; (with_reducible refine (laws_eqGraph.calls kj58 t424 _ _ t425 t413 _ _ t414 false _ ?side1 ?side2 ?side3 ?side4 A73.out).mono ?_); (case side1 => exact Cz ((Kd.R_reads' HO_430001.out).2.2)); (case side2 => exact (Kd.R_reads' HO_430001.out).2.1); (case side3 => exact Cz ((Kd.R_reads' HO_419001.out).2.2)); (case side4 => exact (Kd.R_reads' HO_419001.out).2.1); rintro e w90 ⟨rfl, hb⟩; replace HO_419001 := Aside0.mk (Kd.R_below (Rz HO_419001) hb); replace HO_424001 := Aside0.mk (Kd.R_below (Rz HO_424001) hb); replace HO_430001 := Aside0.mk (Kd.R_below (Rz HO_430001) hb); replace BK407 := Aside0.mk (blk_below (g := gb407) (o := .cells #[.int .i64 a0_0, .slice A0_1 l0_1.length c0_1] 37 (0, 0)) (Bz BK407) hb); replace BK418 := Aside0.mk (blk_below (g := gb418) (o := .cells #[.int .i64 t413, .slice Ao22 t414.length co22] 42 (0, 0)) (Bz BK418) hb); replace BK423 := Aside0.mk (blk_below (g := gb423) (o := .cells #[.int .i64 t419, .slice Ao29 t420.length co29] 42 (0, 0)) (Bz BK423) hb); replace BK429 := Aside0.mk (blk_below (g := gb429) (o := .cells #[.int .i64 t424, .slice Ao36 t425.length co36] 42 (0, 0)) (Bz BK429) hb); replace HB := Aside0.mk (below_step (by first | exact Lz HB | repeat (first | (with_reducible first | exact HB.out | apply below_alloc | apply pw_below_drewN | apply below_drew1 | refine below_set ?_ GE407.out | refine below_set ?_ GE418.out | refine below_set ?_ GE423.out | refine below_set ?_ GE429.out) | exact HB.out)) hb); (try clear hb); (try clear hb2); (try clear hk); (try clear hi)))
          go_meet
          case rel => exact ⟨_, (true), eqA, H', ⟨by have := HJ4.out; have := HJ13.out; have := HJ54.out; have := HJ58.out; first | omega | exact Nat.le_refl _⟩, ⟨by exact Rz HO_419001⟩, ⟨by exact Rz HO_424001⟩, ⟨by exact Rz HO_430001⟩, ⟨by exact Bz BK407⟩, ⟨by exact Bz BK418⟩, ⟨by exact Bz BK423⟩, ⟨by exact Bz BK429⟩, ⟨by first | exact Lz HB | repeat (first | (with_reducible first | exact HB.out | apply below_alloc | apply pw_below_drewN | apply below_drew1 | refine below_set ?_ GE407.out | refine below_set ?_ GE418.out | refine below_set ?_ GE423.out | refine below_set ?_ GE429.out) | exact HB.out)⟩⟩
         case rest =>
          clear HC66
          try clear c9
          try clear c9b0
          try clear c38
          try clear c56
          try clear c64
          try clear c72
          try clear c72b0
          try clear c74
          obtain ⟨kq, x69_65, rfl, HA, HJ65, HO_419001, HO_424001, HO_430001, BK407, BK418, BK423, BK429, HB⟩ := hcut
          have hl424001_65 := (Kd.R_reads' HO_424001.out).1
          rw [hl424001_65] at HO_424001
          (try simp only [hl424001_65])
          (try simp only [hl424001_65] at BK407)
          (try simp only [hl424001_65] at BK418)
          (try simp only [hl424001_65] at BK423)
          (try simp only [hl424001_65] at BK429)
          (try simp only [hl424001_65] at HO_419001)
          (try simp only [hl424001_65] at HO_430001)
          cases kq with
          | zero => exact absurd HA.out (by simp [laws_FnExactAddEdge.j4])
          | succ kj65 =>
           have H := HA.out
           clear HA
           simp only [laws_FnExactAddEdge.j4] at H
           have HC91 := Aside0.mk H
           clear H
           go_upto_if 69 with (fail)
           go_cut [] (fun wc => ∃ (kq : Nat), Aside0 (laws_FnExactAddEdge.j5 kq a1 a2 t417 a0_0 l0_1 t413 t414 t424 t425 = some r) ∧ Aside0 (kq ≤ kj65) ∧ Aside0 (Kd.R k75 75 wc w.heap.size (fun k_ => some k_ ≠ ((.slice Ao29 t437.length co29) : Value).ownBlock ∧ some k_ ≠ ((.slice Ao36 t425.length co36) : Value).ownBlock) (.slice Ao22 t414.length co22) t414) ∧ Aside0 (Kd.R k75 75 wc w.heap.size (fun k_ => some k_ ≠ ((.slice Ao22 t414.length co22) : Value).ownBlock ∧ some k_ ≠ ((.slice Ao36 t425.length co36) : Value).ownBlock) (.slice Ao29 t437.length co29) t437) ∧ Aside0 (Kd.R k75 75 wc w.heap.size (fun k_ => some k_ ≠ ((.slice Ao22 t414.length co22) : Value).ownBlock ∧ some k_ ≠ ((.slice Ao29 t437.length co29) : Value).ownBlock) (.slice Ao36 t425.length co36) t425) ∧ Aside0 (wc.heap[gb407]? = some (.cells #[.int .i64 a0_0, (.slice A0_1 l0_1.length c0_1)] 37 (0, 0))) ∧ Aside0 (wc.heap[gb418]? = some (.cells #[.int .i64 t413, (.slice Ao22 t414.length co22)] 42 (0, 0))) ∧ Aside0 (wc.heap[gb423]? = some (.cells #[.int .i64 t419, (.slice Ao29 t437.length co29)] 42 (0, 0))) ∧ Aside0 (wc.heap[gb429]? = some (.cells #[.int .i64 t424, (.slice Ao36 t425.length co36)] 42 (0, 0))) ∧ Aside0 (Below w.heap.size w wc))
           case first =>
            have H := HC91.out
            clear HC91
            by_cases c92 : x69_65 = true
            ·subst c92
             have H1 : (some false) = some r := by rw [if_pos rfl] at H; exact H
             clear H
             have H := H1
             clear H1
             exact absurd (Option.some.inj H) (by rw [HR_.out]; decide)
            replace c92 := Bool.eq_false_iff.mpr c92
            subst c92
            have H1 : (laws_FnExactAddEdge.j5 kj65 a1 a2 t417 a0_0 l0_1 t413 t414 t424 t425) = some r := by rw [if_neg (show ¬ (false = true) by decide)] at H; exact H
            clear H
            have H := H1
            clear H1
            have H' := Aside0.mk H
            clear H
            go_wp2
            go_meet
            case rel => exact ⟨_, H', ⟨by have := HJ4.out; have := HJ13.out; have := HJ54.out; have := HJ58.out; have := HJ65.out; first | omega | exact Nat.le_refl _⟩, ⟨by (try simp only [hl424001_65]); exact Rz HO_419001⟩, ⟨by (try simp only [hl424001_65]); exact Rz HO_424001⟩, ⟨by (try simp only [hl424001_65]); exact Rz HO_430001⟩, ⟨by (try simp only [hl424001_65]); exact Bz BK407⟩, ⟨by (try simp only [hl424001_65]); exact Bz BK418⟩, ⟨by (try simp only [hl424001_65]); exact Bz BK423⟩, ⟨by (try simp only [hl424001_65]); exact Bz BK429⟩, ⟨by first | exact Lz HB | repeat (first | (with_reducible first | exact HB.out | apply below_alloc | apply pw_below_drewN | apply below_drew1 | refine below_set ?_ GE407.out | refine below_set ?_ GE418.out | refine below_set ?_ GE423.out | refine below_set ?_ GE429.out) | exact HB.out)⟩⟩
           case rest =>
            clear HC91
            try clear c9
            try clear c9b0
            try clear c38
            try clear c56
            try clear c64
            try clear c72
            try clear c72b0
            try clear c74
            try clear c92
            obtain ⟨kq, HA, HJ90, HO_419001, HO_424001, HO_430001, BK407, BK418, BK423, BK429, HB⟩ := hcut
            cases kq with
            | zero => exact absurd HA.out (by simp [laws_FnExactAddEdge.j5])
            | succ kj90 =>
             have H := HA.out
             clear HA
             simp only [laws_FnExactAddEdge.j5] at H
             replace H := Option.bind_eq_some_iff.mp H
             obtain ⟨⟨t439, t440⟩, A930, H⟩ := H
             replace H : ((laws_heldGraph.f kj90 t424 t440 1).bind fun t441 => (if t441 < 0 then (some false) else (laws_FnExactAddEdge.j6 kj90 a1 a2 t417 t439 t441 a0_0 l0_1 t413 t414 t424 t440))) = some r := H
             have A93 := Aside0.mk A930
             clear A930
             replace H := Option.bind_eq_some_iff.mp H
             obtain ⟨t441, A940, H⟩ := H
             replace H : (if t441 < 0 then (some false) else (laws_FnExactAddEdge.j6 kj90 a1 a2 t417 t439 t441 a0_0 l0_1 t413 t414 t424 t440)) = some r := H
             have A94 := Aside0.mk A940
             clear A940
             have HC95 := Aside0.mk H
             clear H
             have hnb96 := NB429_407.out
             have hnc96 := NB407_429.out
             have hnb97 := NB429_418.out
             have hnc97 := NB418_429.out
             have hnb98 := NB429_423.out
             have hnc98 := NB423_429.out
             have hcz99_0 : wc.cell? ⟨gb429, 0, none⟩ = some (.int .i64 t424) := (blk_cell BK429.out 0).trans rfl
             have hcz99_1 : wc.cell? ⟨gb429, 1, none⟩ = some (.slice Ao36 t425.length co36) := (blk_cell BK429.out 1).trans rfl
             have hfz99_0 := blk_frozen BK429.out 0
             have hfz99_1 := blk_frozen BK429.out 1
             go_upto_if 77 with (first | ((with_reducible refine gate_callee (f := 36) rfl ?_); refine goesM_ (some 72) rfl rfl Try.func36 (by kernel_rfl) rfl #[.agg #[.int .i64 t424, .slice Ao36 t425.length co36], .int .i64 1] rfl ?_; (with_reducible refine (laws_markGraph.calls kj90 t424 (fun k_ => some k_ = (.slice Ao36 t425.length co36 : Value).ownBlock) (.slice Ao36 t425.length co36) t425 1 t439 t440 w _ ?side1 ?side2 A93.out).mono ?_); (case side1 => first | exact Lz HB | repeat (first | (with_reducible first | exact HB.out | apply below_alloc | apply pw_below_drewN | apply below_drew1 | refine below_set ?_ GE407.out | refine below_set ?_ GE418.out | refine below_set ?_ GE423.out | refine below_set ?_ GE429.out) | exact HB.out)); (case side2 => exact Kd.R_tight rfl HO_430001.out); rintro e w100 ⟨rfl, hy0, hb, hkp⟩; refine ⟨_, rfl, ?_⟩; replace HO_419001 := Aside0.mk (Kd.R_mono (ok' := fun k_ => some k_ ≠ (.slice Ao29 t437.length co29 : Value).ownBlock ∧ some k_ ≠ (.slice Ao36 t425.length co36 : Value).ownBlock) (Kd.R_keptB (HO_419001.out) hkp (fun k_ hk_ hs_ => (hk_.2) hs_)) (fun k_ hk_ => ⟨hk_.1.1, hk_.1.2⟩)); replace HO_424001 := Aside0.mk (Kd.R_mono (ok' := fun k_ => some k_ ≠ (.slice Ao22 t414.length co22 : Value).ownBlock ∧ some k_ ≠ (.slice Ao36 t425.length co36 : Value).ownBlock) (Kd.R_keptB (HO_424001.out) hkp (fun k_ hk_ hs_ => (hk_.2) hs_)) (fun k_ hk_ => ⟨hk_.1.1, hk_.1.2⟩)); replace BK407 := Aside0.mk (blk_kept (Bz BK407) hkp (fun hs_ => (fun e_ => (Kd.R_ne HO_430001.out BK407.out (by decide)) e_) hs_)); replace BK418 := Aside0.mk (blk_kept (Bz BK418) hkp (fun hs_ => (fun e_ => (Kd.R_ne HO_430001.out BK418.out (by decide)) e_) hs_)); replace BK423 := Aside0.mk (blk_kept (Bz BK423) hkp (fun hs_ => (fun e_ => (Kd.R_ne HO_430001.out BK423.out (by decide)) e_) hs_)); replace BK429 := Aside0.mk (blk_kept (Bz BK429) hkp (fun hs_ => (fun e_ => (Kd.R_ne HO_430001.out BK429.out (by decide)) e_) hs_)); replace HO_430001 := Aside0.mk (Kd.R_reok rfl hy0 (fun k_ e_ => HO_430001.out.1 k_ e_)); replace HB := Aside0.mk (hb); (try clear hb); (try clear hkp); (try clear hy0); have hcz101_0 : w100.cell? ⟨gb429, 0, none⟩ = some (.int .i64 t424) := (blk_cell BK429.out 0).trans rfl; have hcz101_1 : w100.cell? ⟨gb429, 1, none⟩ = some (.slice Ao36 t425.length co36) := (blk_cell BK429.out 1).trans rfl; have hfz101_0 := blk_frozen BK429.out 0; have hfz101_1 := blk_frozen BK429.out 1) | ((with_reducible refine gate_callee (f := 46) rfl ?_); refine goesL_ (some 75) rfl rfl Try.func46 (by kernel_rfl) rfl #[.agg #[.int .i64 t424, .slice Ao36 t440.length co36], .int .i64 1] rfl (by (try simp only [List.map_toArray, List.map_cons, List.map_nil]); first | done | (rw [show t440.length = t425.length from (Kd.R_reads' HO_430001.out).1.symm] <;> rfl) | rfl | (simp only [List.length_drop, List.length_take]; rfl)) ?_; (with_reducible refine (laws_heldGraph.calls kj90 t424 _ _ t440 1 t441 _ ?side1 ?side2 A94.out).mono ?_); (case side1 => exact Cz ((Kd.R_reads' HO_430001.out).2.2)); (case side2 => rw [show t440.length = t425.length from (Kd.R_reads' HO_430001.out).1.symm]; exact (Kd.R_reads' HO_430001.out).2.1); rintro e w102 ⟨rfl, hb⟩; refine ⟨_, rfl, ?_⟩; replace HO_419001 := Aside0.mk (Kd.R_below (Rz HO_419001) hb); replace HO_424001 := Aside0.mk (Kd.R_below (Rz HO_424001) hb); replace HO_430001 := Aside0.mk (Kd.R_below (Rz HO_430001) hb); replace BK407 := Aside0.mk (blk_below (g := gb407) (o := .cells #[.int .i64 a0_0, .slice A0_1 l0_1.length c0_1] 37 (0, 0)) (Bz BK407) hb); replace BK418 := Aside0.mk (blk_below (g := gb418) (o := .cells #[.int .i64 t413, .slice Ao22 t414.length co22] 42 (0, 0)) (Bz BK418) hb); replace BK423 := Aside0.mk (blk_below (g := gb423) (o := .cells #[.int .i64 t419, .slice Ao29 t437.length co29] 42 (0, 0)) (Bz BK423) hb); replace BK429 := Aside0.mk (blk_below (g := gb429) (o := .cells #[.int .i64 t424, .slice Ao36 t425.length co36] 42 (0, 0)) (Bz BK429) hb); replace HB := Aside0.mk (below_step (by first | exact Lz HB | repeat (first | (with_reducible first | exact HB.out | apply below_alloc | apply pw_below_drewN | apply below_drew1 | refine below_set ?_ GE407.out | refine below_set ?_ GE418.out | refine below_set ?_ GE423.out | refine below_set ?_ GE429.out) | exact HB.out)) hb); (try clear hb); (try clear hb2); (try clear hk); (try clear hi)))
             (try simp only [Act.put, List.setIfInBounds_toArray, List.set_cons_zero, List.set_cons_succ])
             go_cut [] (fun wc => ∃ (kq : Nat), Aside0 (laws_FnExactAddEdge.j6 kq a1 a2 t417 t439 t441 a0_0 l0_1 t413 t414 t424 t440 = some r) ∧ Aside0 (kq ≤ kj90) ∧ Aside0 (Kd.R k75 75 wc w.heap.size (fun k_ => some k_ ≠ ((.slice Ao29 t437.length co29) : Value).ownBlock ∧ some k_ ≠ ((.slice Ao36 t425.length co36) : Value).ownBlock) (.slice Ao22 t414.length co22) t414) ∧ Aside0 (Kd.R k75 75 wc w.heap.size (fun k_ => some k_ ≠ ((.slice Ao22 t414.length co22) : Value).ownBlock ∧ some k_ ≠ ((.slice Ao36 t425.length co36) : Value).ownBlock) (.slice Ao29 t437.length co29) t437) ∧ Aside0 (Kd.R k75 75 wc w.heap.size (fun k_ => some k_ ≠ ((.slice Ao22 t414.length co22) : Value).ownBlock ∧ some k_ ≠ ((.slice Ao29 t437.length co29) : Value).ownBlock) (.slice Ao36 t425.length co36) t440) ∧ Aside0 (wc.heap[gb407]? = some (.cells #[.int .i64 a0_0, (.slice A0_1 l0_1.length c0_1)] 37 (0, 0))) ∧ Aside0 (wc.heap[gb418]? = some (.cells #[.int .i64 t413, (.slice Ao22 t414.length co22)] 42 (0, 0))) ∧ Aside0 (wc.heap[gb423]? = some (.cells #[.int .i64 t419, (.slice Ao29 t437.length co29)] 42 (0, 0))) ∧ Aside0 (wc.heap[gb429]? = some (.cells #[.int .i64 t424, (.slice Ao36 t425.length co36)] 42 (0, 0))) ∧ Aside0 (Below w.heap.size w wc))
             case first =>
              have H := HC95.out
              clear HC95
              by_cases c103 : t441 < 0
              ·rw [if_pos c103] at H
               have c103b0 : decide (t441 < 0) = true := decide_eq_true c103
               clear c103
               (first | rw [c103b0] | (simp only [i64_w, i32_w]; rw [c103b0]) | skip)
               obtain rfl := Option.some.inj H
               go_wp2
               go_ret
               exact ⟨by first | rfl | (simp [errW_none, errW_some] <;> rfl) | (simp [*, errW_none, errW_some] <;> rfl), by first | exact Lz HB | repeat (first | (with_reducible first | exact HB.out | apply below_alloc | apply pw_below_drewN | apply below_drew1 | refine below_set ?_ GE407.out | refine below_set ?_ GE418.out | refine below_set ?_ GE423.out | refine below_set ?_ GE429.out) | exact HB.out)⟩
              rw [if_neg c103] at H
              have c103b0 : decide (t441 < 0) = false := decide_eq_false c103
              clear c103
              (first | rw [c103b0] | (simp only [i64_w, i32_w]; rw [c103b0]) | skip)
              have H' := Aside0.mk H
              clear H
              go_wp2
              go_meet
              case rel => exact ⟨_, H', ⟨by have := HJ4.out; have := HJ13.out; have := HJ54.out; have := HJ58.out; have := HJ65.out; have := HJ90.out; first | omega | exact Nat.le_refl _⟩, ⟨by (try simp only [hl424001_65]); exact Rz HO_419001⟩, ⟨by (try simp only [hl424001_65]); exact Rz HO_424001⟩, ⟨by (try simp only [hl424001_65]); exact Rz HO_430001⟩, ⟨by (try simp only [hl424001_65]); exact Bz BK407⟩, ⟨by (try simp only [hl424001_65]); exact Bz BK418⟩, ⟨by (try simp only [hl424001_65]); exact Bz BK423⟩, ⟨by (try simp only [hl424001_65]); exact Bz BK429⟩, ⟨by first | exact Lz HB | repeat (first | (with_reducible first | exact HB.out | apply below_alloc | apply pw_below_drewN | apply below_drew1 | refine below_set ?_ GE407.out | refine below_set ?_ GE418.out | refine below_set ?_ GE423.out | refine below_set ?_ GE429.out) | exact HB.out)⟩⟩
             case rest =>
              clear HC95
              try clear c9
              try clear c9b0
              try clear c38
              try clear c56
              try clear c64
              try clear c72
              try clear c72b0
              try clear c74
              try clear c92
              try clear c103
              try clear c103b0
              obtain ⟨kq, HA, HJ94, HO_419001, HO_424001, HO_430001, BK407, BK418, BK423, BK429, HB⟩ := hcut
              have hl430001_94 := (Kd.R_reads' HO_430001.out).1
              rw [hl430001_94] at HO_430001
              (try simp only [hl430001_94])
              (try simp only [hl430001_94] at BK407)
              (try simp only [hl430001_94] at BK418)
              (try simp only [hl430001_94] at BK423)
              (try simp only [hl430001_94] at BK429)
              (try simp only [hl430001_94] at HO_419001)
              (try simp only [hl430001_94] at HO_424001)
              cases kq with
              | zero => exact absurd HA.out (by simp [laws_FnExactAddEdge.j6])
              | succ kj94 =>
               have H := HA.out
               clear HA
               simp only [laws_FnExactAddEdge.j6] at H
               have HC104 := Aside0.mk H
               clear H
               go_upto_if 80 with (fail)
               go_cut [] (fun wc => ∃ (kq : Nat), Aside0 (laws_FnExactAddEdge.j7 kq a1 a2 t417 t439 a0_0 l0_1 t413 t414 t424 t440 = some r) ∧ Aside0 (kq ≤ kj94) ∧ Aside0 (Kd.R k75 75 wc w.heap.size (fun k_ => some k_ ≠ ((.slice Ao29 t437.length co29) : Value).ownBlock ∧ some k_ ≠ ((.slice Ao36 t440.length co36) : Value).ownBlock) (.slice Ao22 t414.length co22) t414) ∧ Aside0 (Kd.R k75 75 wc w.heap.size (fun k_ => some k_ ≠ ((.slice Ao22 t414.length co22) : Value).ownBlock ∧ some k_ ≠ ((.slice Ao36 t440.length co36) : Value).ownBlock) (.slice Ao29 t437.length co29) t437) ∧ Aside0 (Kd.R k75 75 wc w.heap.size (fun k_ => some k_ ≠ ((.slice Ao22 t414.length co22) : Value).ownBlock ∧ some k_ ≠ ((.slice Ao29 t437.length co29) : Value).ownBlock) (.slice Ao36 t440.length co36) t440) ∧ Aside0 (wc.heap[gb407]? = some (.cells #[.int .i64 a0_0, (.slice A0_1 l0_1.length c0_1)] 37 (0, 0))) ∧ Aside0 (wc.heap[gb418]? = some (.cells #[.int .i64 t413, (.slice Ao22 t414.length co22)] 42 (0, 0))) ∧ Aside0 (wc.heap[gb423]? = some (.cells #[.int .i64 t419, (.slice Ao29 t437.length co29)] 42 (0, 0))) ∧ Aside0 (wc.heap[gb429]? = some (.cells #[.int .i64 t424, (.slice Ao36 t440.length co36)] 42 (0, 0))) ∧ Aside0 (Below w.heap.size w wc))
               case first =>
                have H := HC104.out
                clear HC104
                by_cases c105 : t441 = t439
                ·rw [if_pos c105] at H
                 have c105b0 : (t441 == t439) = true := beq_iff_eq.mpr c105
                 have c105b1 : (t441 != t439) = false := bne_eq_false_iff_eq.mpr c105
                 clear c105
                 (first | rw [c105b0] | (simp only [i64_w, i32_w]; rw [c105b0]) | skip)
                 have H' := Aside0.mk H
                 clear H
                 go_wp2
                 go_meet
                 case rel => exact ⟨_, H', ⟨by have := HJ4.out; have := HJ13.out; have := HJ54.out; have := HJ58.out; have := HJ65.out; have := HJ90.out; have := HJ94.out; first | omega | exact Nat.le_refl _⟩, ⟨by (try simp only [hl424001_65]); (try simp only [hl430001_94]); exact Rz HO_419001⟩, ⟨by (try simp only [hl424001_65]); (try simp only [hl430001_94]); exact Rz HO_424001⟩, ⟨by (try simp only [hl424001_65]); (try simp only [hl430001_94]); exact Rz HO_430001⟩, ⟨by (try simp only [hl424001_65]); (try simp only [hl430001_94]); exact Bz BK407⟩, ⟨by (try simp only [hl424001_65]); (try simp only [hl430001_94]); exact Bz BK418⟩, ⟨by (try simp only [hl424001_65]); (try simp only [hl430001_94]); exact Bz BK423⟩, ⟨by (try simp only [hl424001_65]); (try simp only [hl430001_94]); exact Bz BK429⟩, ⟨by first | exact Lz HB | repeat (first | (with_reducible first | exact HB.out | apply below_alloc | apply pw_below_drewN | apply below_drew1 | refine below_set ?_ GE407.out | refine below_set ?_ GE418.out | refine below_set ?_ GE423.out | refine below_set ?_ GE429.out) | exact HB.out)⟩⟩
                rw [if_neg c105] at H
                have c105b0 : (t441 == t439) = false := beq_eq_false_iff_ne.mpr c105
                have c105b1 : (t441 != t439) = true := bne_iff_ne.mpr c105
                (first | rw [c105b0] | (simp only [i64_w, i32_w]; rw [c105b0]) | skip)
                obtain rfl := Option.some.inj H
                go_wp2
                go_ret
                exact ⟨by first | rfl | (simp [errW_none, errW_some] <;> rfl) | (simp [*, errW_none, errW_some] <;> rfl), by first | exact Lz HB | repeat (first | (with_reducible first | exact HB.out | apply below_alloc | apply pw_below_drewN | apply below_drew1 | refine below_set ?_ GE407.out | refine below_set ?_ GE418.out | refine below_set ?_ GE423.out | refine below_set ?_ GE429.out) | exact HB.out)⟩
               case rest =>
                clear HC104
                try clear c9
                try clear c9b0
                try clear c38
                try clear c56
                try clear c64
                try clear c72
                try clear c72b0
                try clear c74
                try clear c92
                try clear c103
                try clear c103b0
                try clear c105
                try clear c105b0
                try clear c105b1
                obtain ⟨kq, HA, HJ103, HO_419001, HO_424001, HO_430001, BK407, BK418, BK423, BK429, HB⟩ := hcut
                cases kq with
                | zero => exact absurd HA.out (by simp [laws_FnExactAddEdge.j7])
                | succ kj103 =>
                 have H := HA.out
                 clear HA
                 simp only [laws_FnExactAddEdge.j7] at H
                 replace H := Option.bind_eq_some_iff.mp H
                 obtain ⟨⟨t442, t443⟩, A1060, H⟩ := H
                 replace H : ((impl_AddEdge.f kj103 t442 t443 a1 a2).bind fun bt446 => ((laws_eqGraph.f kj103 bt446.1 bt446.2.1 t413 t414).bind fun t452 => (if t452 = true then (laws_FnExactAddEdge.j8 kj103 t439 (bt446.2.2 != t417) t424 t440) else (laws_FnExactAddEdge.j8 kj103 t439 true t424 t440)))) = some r := H
                 have A106 := Aside0.mk A1060
                 clear A1060
                 replace H := Option.bind_eq_some_iff.mp H
                 obtain ⟨⟨t446, t447, t450⟩, A1070, H⟩ := H
                 replace H : ((laws_eqGraph.f kj103 t446 t447 t413 t414).bind fun t452 => (if t452 = true then (laws_FnExactAddEdge.j8 kj103 t439 (t450 != t417) t424 t440) else (laws_FnExactAddEdge.j8 kj103 t439 true t424 t440))) = some r := H
                 have A107 := Aside0.mk A1070
                 clear A1070
                 have HC108 := Aside0.mk H
                 clear H
                 have hnb109 := NB407_418.out
                 have hnc109 := NB418_407.out
                 have hnb110 := NB407_423.out
                 have hnc110 := NB423_407.out
                 have hnb111 := NB407_429.out
                 have hnc111 := NB429_407.out
                 have hcz112_0 : wc.cell? ⟨gb407, 0, none⟩ = some (.int .i64 a0_0) := (blk_cell BK407.out 0).trans rfl
                 have hcz112_1 : wc.cell? ⟨gb407, 1, none⟩ = some (.slice A0_1 l0_1.length c0_1) := (blk_cell BK407.out 1).trans rfl
                 have hfz112_0 := blk_frozen BK407.out 0
                 have hfz112_1 := blk_frozen BK407.out 1
                 go_upto_region 25 with (first | ((with_reducible refine gate_callee (f := 33) rfl ?_); refine goesM_ (some 83) rfl rfl Try.func33 (by kernel_rfl) rfl #[.agg #[.int .i64 a0_0, .slice A0_1 l0_1.length c0_1]] rfl ?_; (with_reducible refine (laws_toGraph.calls kj103 a0_0 _ _ l0_1 t442 t443 _ ?side1 ?side2 A106.out).mono ?_); (case side1 => exact Cz ((Kd.C_below HR0_1.out HB.out))); (case side2 => exact HC0_1.out); rintro e w113 ⟨v444, rfl, ho0, hb⟩; refine ⟨_, rfl, ?_⟩; have HO445 := Aside0.mk (Kd.R_lower (Kd.R_new' (Kd.R_new' (Kd.R_new' ho0 (Kd.R_lt (Rz HO_419001))) (Kd.R_lt (Rz HO_424001))) (Kd.R_lt (Rz HO_430001))) (below_size (by first | exact Lz HB | repeat (first | (with_reducible first | exact HB.out | apply below_alloc | apply pw_below_drewN | apply below_drew1 | refine below_set ?_ GE407.out | refine below_set ?_ GE418.out | refine below_set ?_ GE423.out | refine below_set ?_ GE429.out) | exact HB.out)))); replace HO_419001 := Aside0.mk (Kd.R_elder' (Rz HO_419001) (Kd.R_base ho0) hb); replace HO_424001 := Aside0.mk (Kd.R_elder' (Rz HO_424001) (Kd.R_base ho0) hb); replace HO_430001 := Aside0.mk (Kd.R_elder' (Rz HO_430001) (Kd.R_base ho0) hb); replace BK407 := Aside0.mk (blk_below (g := gb407) (o := .cells #[.int .i64 a0_0, .slice A0_1 l0_1.length c0_1] 37 (0, 0)) (Bz BK407) hb); replace BK418 := Aside0.mk (blk_below (g := gb418) (o := .cells #[.int .i64 t413, .slice Ao22 t414.length co22] 42 (0, 0)) (Bz BK418) hb); replace BK423 := Aside0.mk (blk_below (g := gb423) (o := .cells #[.int .i64 t419, .slice Ao29 t437.length co29] 42 (0, 0)) (Bz BK423) hb); replace BK429 := Aside0.mk (blk_below (g := gb429) (o := .cells #[.int .i64 t424, .slice Ao36 t440.length co36] 42 (0, 0)) (Bz BK429) hb); replace HB := Aside0.mk (below_step (by first | exact Lz HB | repeat (first | (with_reducible first | exact HB.out | apply below_alloc | apply pw_below_drewN | apply below_drew1 | refine below_set ?_ GE407.out | refine below_set ?_ GE418.out | refine below_set ?_ GE423.out | refine below_set ?_ GE429.out) | exact HB.out)) hb); (try clear hb); (try clear ho0); obtain ⟨Ao114, co114, eo114⟩ := Kd.R_slice HO445.out; subst eo114) | ((with_reducible refine gate_callee (f := 50) rfl ?_); refine goesM_ (some 86) rfl rfl Try.func50 (by kernel_rfl) rfl #[.agg #[.int .i64 t442, .slice Ao114 t443.length co114], .int .i64 a1, .int .i64 a2] rfl ?_; (with_reducible refine (impl_AddEdge.calls kj103 t442 _ _ t443 a1 a2 t446 t447 t450 _ ?side1 ?side2 A107.out).mono ?_); (case side1 => exact Cz ((Kd.R_reads' HO445.out).2.2)); (case side2 => exact (Kd.R_reads' HO445.out).2.1); rintro e w115 ⟨v448, rfl, ho0, hb⟩; refine ⟨_, rfl, ?_⟩; have HO449 := Aside0.mk (Kd.R_lower (Kd.R_new' (Kd.R_new' (Kd.R_new' (Kd.R_new' ho0 (Kd.R_lt (Rz HO_419001))) (Kd.R_lt (Rz HO_424001))) (Kd.R_lt (Rz HO_430001))) (Kd.R_lt (Rz HO445))) (below_size (by first | exact Lz HB | repeat (first | (with_reducible first | exact HB.out | apply below_alloc | apply pw_below_drewN | apply below_drew1 | refine below_set ?_ GE407.out | refine below_set ?_ GE418.out | refine below_set ?_ GE423.out | refine below_set ?_ GE429.out) | exact HB.out)))); replace HO_419001 := Aside0.mk (Kd.R_elder' (Rz HO_419001) (Kd.R_base ho0) hb); replace HO_424001 := Aside0.mk (Kd.R_elder' (Rz HO_424001) (Kd.R_base ho0) hb); replace HO_430001 := Aside0.mk (Kd.R_elder' (Rz HO_430001) (Kd.R_base ho0) hb); replace HO445 := Aside0.mk (Kd.R_elder' (Rz HO445) (Kd.R_base ho0) hb); replace BK407 := Aside0.mk (blk_below (g := gb407) (o := .cells #[.int .i64 a0_0, .slice A0_1 l0_1.length c0_1] 37 (0, 0)) (Bz BK407) hb); replace BK418 := Aside0.mk (blk_below (g := gb418) (o := .cells #[.int .i64 t413, .slice Ao22 t414.length co22] 42 (0, 0)) (Bz BK418) hb); replace BK423 := Aside0.mk (blk_below (g := gb423) (o := .cells #[.int .i64 t419, .slice Ao29 t437.length co29] 42 (0, 0)) (Bz BK423) hb); replace BK429 := Aside0.mk (blk_below (g := gb429) (o := .cells #[.int .i64 t424, .slice Ao36 t440.length co36] 42 (0, 0)) (Bz BK429) hb); replace HB := Aside0.mk (below_step (by first | exact Lz HB | repeat (first | (with_reducible first | exact HB.out | apply below_alloc | apply pw_below_drewN | apply below_drew1 | refine below_set ?_ GE407.out | refine below_set ?_ GE418.out | refine below_set ?_ GE423.out | refine below_set ?_ GE429.out) | exact HB.out)) hb); (try clear hb); (try clear ho0)) | ((with_reducible refine gate_dst (N := 16) rfl ?_); refine box_event ?hg (N := 16) ?hd (cs := #[.int .i64 0, .slice none 0 0]) (t := 42) ?hr ?_; (case hd => rfl); (case hg => rfl); (case hr => first | (go_simp; done) | (go_simp; rfl)); intro gb451 hg w116 hbox hb; replace HO_419001 := Aside0.mk (Kd.R_below (Rz HO_419001) hb); replace HO_424001 := Aside0.mk (Kd.R_below (Rz HO_424001) hb); replace HO_430001 := Aside0.mk (Kd.R_below (Rz HO_430001) hb); replace HO445 := Aside0.mk (Kd.R_below (Rz HO445) hb); replace HO449 := Aside0.mk (Kd.R_below (Rz HO449) hb); have BK451 := Aside0.mk (hbox); have GW451 := Aside0.mk ((by rw [hg]; exact (below_size (by first | exact Lz HB | repeat (first | (with_reducible first | exact HB.out | apply below_alloc | apply pw_below_drewN | apply below_drew1 | refine below_set ?_ GE407.out | refine below_set ?_ GE418.out | refine below_set ?_ GE423.out | refine below_set ?_ GE429.out) | exact HB.out))) : w.heap.size ≤ gb451)); have GE451 := Aside0.mk ((by rw [hg]; exact (below_size (by first | exact Lz HB | repeat (first | (with_reducible first | exact HB.out | apply below_alloc | apply pw_below_drewN | apply below_drew1 | refine below_set ?_ GE407.out | refine below_set ?_ GE418.out | refine below_set ?_ GE423.out | refine below_set ?_ GE429.out) | exact HB.out))) : w.heap.size ≤ gb451)); replace HB := Aside0.mk (below_step (by first | exact Lz HB | repeat (first | (with_reducible first | exact HB.out | apply below_alloc | apply pw_below_drewN | apply below_drew1 | refine below_set ?_ GE407.out | refine below_set ?_ GE418.out | refine below_set ?_ GE423.out | refine below_set ?_ GE429.out) | exact HB.out)) hb); have NB407_451 := Aside0.mk ((by rw [hg]; exact Nat.ne_of_lt (blk_lt (g := gb407) (o := .cells #[.int .i64 a0_0, .slice A0_1 l0_1.length c0_1] 37 (0, 0)) (Bz BK407)) : gb407 ≠ gb451)); have NB451_407 := Aside0.mk ((by rw [hg]; exact Nat.ne_of_gt (blk_lt (g := gb407) (o := .cells #[.int .i64 a0_0, .slice A0_1 l0_1.length c0_1] 37 (0, 0)) (Bz BK407)) : gb451 ≠ gb407)); replace BK407 := Aside0.mk (blk_below (g := gb407) (o := .cells #[.int .i64 a0_0, .slice A0_1 l0_1.length c0_1] 37 (0, 0)) (Bz BK407) hb); have NB418_451 := Aside0.mk ((by rw [hg]; exact Nat.ne_of_lt (blk_lt (g := gb418) (o := .cells #[.int .i64 t413, .slice Ao22 t414.length co22] 42 (0, 0)) (Bz BK418)) : gb418 ≠ gb451)); have NB451_418 := Aside0.mk ((by rw [hg]; exact Nat.ne_of_gt (blk_lt (g := gb418) (o := .cells #[.int .i64 t413, .slice Ao22 t414.length co22] 42 (0, 0)) (Bz BK418)) : gb451 ≠ gb418)); replace BK418 := Aside0.mk (blk_below (g := gb418) (o := .cells #[.int .i64 t413, .slice Ao22 t414.length co22] 42 (0, 0)) (Bz BK418) hb); have NB423_451 := Aside0.mk ((by rw [hg]; exact Nat.ne_of_lt (blk_lt (g := gb423) (o := .cells #[.int .i64 t419, .slice Ao29 t437.length co29] 42 (0, 0)) (Bz BK423)) : gb423 ≠ gb451)); have NB451_423 := Aside0.mk ((by rw [hg]; exact Nat.ne_of_gt (blk_lt (g := gb423) (o := .cells #[.int .i64 t419, .slice Ao29 t437.length co29] 42 (0, 0)) (Bz BK423)) : gb451 ≠ gb423)); replace BK423 := Aside0.mk (blk_below (g := gb423) (o := .cells #[.int .i64 t419, .slice Ao29 t437.length co29] 42 (0, 0)) (Bz BK423) hb); have NB429_451 := Aside0.mk ((by rw [hg]; exact Nat.ne_of_lt (blk_lt (g := gb429) (o := .cells #[.int .i64 t424, .slice Ao36 t440.length co36] 42 (0, 0)) (Bz BK429)) : gb429 ≠ gb451)); have NB451_429 := Aside0.mk ((by rw [hg]; exact Nat.ne_of_gt (blk_lt (g := gb429) (o := .cells #[.int .i64 t424, .slice Ao36 t440.length co36] 42 (0, 0)) (Bz BK429)) : gb451 ≠ gb429)); replace BK429 := Aside0.mk (blk_below (g := gb429) (o := .cells #[.int .i64 t424, .slice Ao36 t440.length co36] 42 (0, 0)) (Bz BK429) hb); clear hb hbox hg; have hnb117 := NB451_407.out; have hnc117 := NB407_451.out; have hnb118 := NB451_418.out; have hnc118 := NB418_451.out; have hnb119 := NB451_423.out; have hnc119 := NB423_451.out; have hnb120 := NB451_429.out; have hnc120 := NB429_451.out; have hcz121_0 : w116.cell? ⟨gb451, 0, none⟩ = some (.int .i64 0) := (blk_cell BK451.out 0).trans rfl; have hcz121_1 : w116.cell? ⟨gb451, 1, none⟩ = some (.slice none 0 0) := (blk_cell BK451.out 1).trans rfl; have hfz121_0 := blk_frozen BK451.out 0; have hfz121_1 := blk_frozen BK451.out 1; obtain ⟨Ao122, co122, eo122⟩ := Kd.R_slice HO449.out; subst eo122))
                 (try simp only [Act.put, List.setIfInBounds_toArray, List.set_cons_zero, List.set_cons_succ])
                 go_cut [97] (fun v97 wc => ∃ (kq : Nat) (x97_107 : Bool), v97 = .bool x97_107 ∧ Aside0 (laws_FnExactAddEdge.j8 kq t439 x97_107 t424 t440 = some r) ∧ Aside0 (kq ≤ kj103) ∧ Aside0 (Kd.R k75 75 wc w.heap.size (fun k_ => some k_ ≠ ((.slice Ao29 t437.length co29) : Value).ownBlock ∧ some k_ ≠ ((.slice Ao36 t440.length co36) : Value).ownBlock ∧ some k_ ≠ ((.slice Ao122 t447.length co122) : Value).ownBlock) (.slice Ao22 t414.length co22) t414) ∧ Aside0 (Kd.R k75 75 wc w.heap.size (fun k_ => some k_ ≠ ((.slice Ao22 t414.length co22) : Value).ownBlock ∧ some k_ ≠ ((.slice Ao36 t440.length co36) : Value).ownBlock ∧ some k_ ≠ ((.slice Ao122 t447.length co122) : Value).ownBlock) (.slice Ao29 t437.length co29) t437) ∧ Aside0 (Kd.R k75 75 wc w.heap.size (fun k_ => some k_ ≠ ((.slice Ao22 t414.length co22) : Value).ownBlock ∧ some k_ ≠ ((.slice Ao29 t437.length co29) : Value).ownBlock ∧ some k_ ≠ ((.slice Ao122 t447.length co122) : Value).ownBlock) (.slice Ao36 t440.length co36) t440) ∧ Aside0 (Kd.R k75 75 wc w.heap.size (fun k_ => some k_ ≠ ((.slice Ao22 t414.length co22) : Value).ownBlock ∧ some k_ ≠ ((.slice Ao29 t437.length co29) : Value).ownBlock ∧ some k_ ≠ ((.slice Ao36 t440.length co36) : Value).ownBlock) (.slice Ao122 t447.length co122) t447) ∧ Aside0 (wc.heap[gb407]? = some (.cells #[.int .i64 a0_0, (.slice A0_1 l0_1.length c0_1)] 37 (0, 0))) ∧ Aside0 (wc.heap[gb418]? = some (.cells #[.int .i64 t413, (.slice Ao22 t414.length co22)] 42 (0, 0))) ∧ Aside0 (wc.heap[gb423]? = some (.cells #[.int .i64 t419, (.slice Ao29 t437.length co29)] 42 (0, 0))) ∧ Aside0 (wc.heap[gb429]? = some (.cells #[.int .i64 t424, (.slice Ao36 t440.length co36)] 42 (0, 0))) ∧ Aside0 (wc.heap[gb451]? = some (.cells #[.int .i64 t446, (.slice Ao122 t447.length co122)] 42 (0, 0))) ∧ Aside0 (Below w.heap.size w wc))
                 case first =>
                  have H := HC108.out
                  clear HC108
                  replace H := Option.bind_eq_some_iff.mp H
                  obtain ⟨t452, A1230, H⟩ := H
                  replace H : (if t452 = true then (laws_FnExactAddEdge.j8 kj103 t439 (t450 != t417) t424 t440) else (laws_FnExactAddEdge.j8 kj103 t439 true t424 t440)) = some r := H
                  have A123 := Aside0.mk A1230
                  clear A1230
                  by_cases c124 : t452 = true
                  ·subst c124
                   have H1 : (laws_FnExactAddEdge.j8 kj103 t439 (t450 != t417) t424 t440) = some r := by rw [if_pos rfl] at H; exact H
                   clear H
                   have H := H1
                   clear H1
                   have H' := Aside0.mk H
                   clear H
                   have hnb125 := NB451_407.out
                   have hnc125 := NB407_451.out
                   have hnb126 := NB451_418.out
                   have hnc126 := NB418_451.out
                   have hnb127 := NB451_423.out
                   have hnc127 := NB423_451.out
                   have hnb128 := NB451_429.out
                   have hnc128 := NB429_451.out
                   have hcz129_0 : w116.cell? ⟨gb451, 0, none⟩ = some (.int .i64 0) := (blk_cell BK451.out 0).trans rfl
                   have hcz129_1 : w116.cell? ⟨gb451, 1, none⟩ = some (.slice none 0 0) := (blk_cell BK451.out 1).trans rfl
                   have hfz129_0 := blk_frozen BK451.out 0
                   have hfz129_1 := blk_frozen BK451.out 1
                   have hnb130 := NB418_407.out
                   have hnc130 := NB407_418.out
                   have hnb131 := NB418_423.out
                   have hnc131 := NB423_418.out
                   have hnb132 := NB418_429.out
                   have hnc132 := NB429_418.out
                   have hcz133_0 : w116.cell? ⟨gb418, 0, none⟩ = some (.int .i64 t413) := (blk_cell BK418.out 0).trans rfl
                   have hcz133_1 : w116.cell? ⟨gb418, 1, none⟩ = some (.slice Ao22 t414.length co22) := (blk_cell BK418.out 1).trans rfl
                   have hfz133_0 := blk_frozen BK418.out 0
                   have hfz133_1 := blk_frozen BK418.out 1
                   go_wp2_with (first | ((with_reducible refine gate_callee (f := 35) rfl ?_); refine goesM_ (some 91) rfl rfl Try.func35 (by kernel_rfl) rfl #[.agg #[.int .i64 t446, .slice Ao122 t447.length co122], .agg #[.int .i64 t413, .slice Ao22 t414.length co22]] rfl ?_; (with_reducible refine (laws_eqGraph.calls kj103 t446 _ _ t447 t413 _ _ t414 true _ ?side1 ?side2 ?side3 ?side4 A123.out).mono ?_); (case side1 => refine (Kd.R_reads' (e := 75) (base := w.heap.size) (ok := fun k_ => ((((True ∧ some k_ ≠ (.slice Ao22 t414.length co22 : Value).ownBlock) ∧ some k_ ≠ (.slice Ao29 t437.length co29 : Value).ownBlock) ∧ some k_ ≠ (.slice Ao36 t440.length co36 : Value).ownBlock) ∧ some k_ ≠ (.slice Ao114 t443.length co114 : Value).ownBlock)) (n := t447.length) (c := co122) ?_).2.2; exact (by (with_reducible repeat (first | apply Kd.R_alloc | apply Kd.R_drewN | apply Kd.R_drew)); exact (Kd.R_mono (Kd.R_far (p := ⟨gb451, 1, none⟩) (Kd.R_far (p := ⟨gb451, 0, none⟩) (Kd.R_types HO449.out BK451.out (by decide)) (fun _ hk => hk.2) (.int .i64 t446)) (fun _ hk => hk.2) (.slice Ao122 t447.length co122)) (fun _ h_ => h_.1)))); (case side2 => exact (Kd.R_reads' HO449.out).2.1); (case side3 => refine (Kd.R_reads' (e := 75) (base := w.heap.size) (ok := fun k_ => (((some k_ ≠ (.slice Ao29 t437.length co29 : Value).ownBlock ∧ some k_ ≠ (.slice Ao36 t440.length co36 : Value).ownBlock) ∧ some k_ ≠ (.slice Ao114 t443.length co114 : Value).ownBlock) ∧ some k_ ≠ (.slice Ao122 t447.length co122 : Value).ownBlock)) (n := t414.length) (c := co22) ?_).2.2; exact (by (with_reducible repeat (first | apply Kd.R_alloc | apply Kd.R_drewN | apply Kd.R_drew)); exact (Kd.R_mono (Kd.R_far (p := ⟨gb451, 1, none⟩) (Kd.R_far (p := ⟨gb451, 0, none⟩) (Kd.R_types HO_419001.out BK451.out (by decide)) (fun _ hk => hk.2) (.int .i64 t446)) (fun _ hk => hk.2) (.slice Ao122 t447.length co122)) (fun _ h_ => h_.1)))); (case side4 => exact (Kd.R_reads' HO_419001.out).2.1); rintro e w134 ⟨rfl, hb⟩; refine ⟨_, rfl, ?_⟩; replace HO_419001 := Aside0.mk (Kd.R_below (by (with_reducible repeat (first | apply Kd.R_alloc | apply Kd.R_drewN | apply Kd.R_drew)); exact (Kd.R_mono (Kd.R_far (p := ⟨gb451, 1, none⟩) (Kd.R_far (p := ⟨gb451, 0, none⟩) (Kd.R_types HO_419001.out BK451.out (by decide)) (fun _ hk => hk.2) (.int .i64 t446)) (fun _ hk => hk.2) (.slice Ao122 t447.length co122)) (fun _ h_ => h_.1))) hb); replace HO_424001 := Aside0.mk (Kd.R_below (by (with_reducible repeat (first | apply Kd.R_alloc | apply Kd.R_drewN | apply Kd.R_drew)); exact (Kd.R_mono (Kd.R_far (p := ⟨gb451, 1, none⟩) (Kd.R_far (p := ⟨gb451, 0, none⟩) (Kd.R_types HO_424001.out BK451.out (by decide)) (fun _ hk => hk.2) (.int .i64 t446)) (fun _ hk => hk.2) (.slice Ao122 t447.length co122)) (fun _ h_ => h_.1))) hb); replace HO_430001 := Aside0.mk (Kd.R_below (by (with_reducible repeat (first | apply Kd.R_alloc | apply Kd.R_drewN | apply Kd.R_drew)); exact (Kd.R_mono (Kd.R_far (p := ⟨gb451, 1, none⟩) (Kd.R_far (p := ⟨gb451, 0, none⟩) (Kd.R_types HO_430001.out BK451.out (by decide)) (fun _ hk => hk.2) (.int .i64 t446)) (fun _ hk => hk.2) (.slice Ao122 t447.length co122)) (fun _ h_ => h_.1))) hb); replace HO445 := Aside0.mk (Kd.R_below (by (with_reducible repeat (first | apply Kd.R_alloc | apply Kd.R_drewN | apply Kd.R_drew)); exact (Kd.R_mono (Kd.R_far (p := ⟨gb451, 1, none⟩) (Kd.R_far (p := ⟨gb451, 0, none⟩) (Kd.R_types HO445.out BK451.out (by decide)) (fun _ hk => hk.2) (.int .i64 t446)) (fun _ hk => hk.2) (.slice Ao122 t447.length co122)) (fun _ h_ => h_.1))) hb); replace HO449 := Aside0.mk (Kd.R_below (by (with_reducible repeat (first | apply Kd.R_alloc | apply Kd.R_drewN | apply Kd.R_drew)); exact (Kd.R_mono (Kd.R_far (p := ⟨gb451, 1, none⟩) (Kd.R_far (p := ⟨gb451, 0, none⟩) (Kd.R_types HO449.out BK451.out (by decide)) (fun _ hk => hk.2) (.int .i64 t446)) (fun _ hk => hk.2) (.slice Ao122 t447.length co122)) (fun _ h_ => h_.1))) hb); replace BK407 := Aside0.mk (blk_below (g := gb407) (o := .cells #[.int .i64 a0_0, .slice A0_1 l0_1.length c0_1] 37 (0, 0)) (by (with_reducible repeat (first | refine blk_drewN ?_ _ | refine blk_drew ?_ | refine blk_alloc ?_ _)); refine blk_far ?_ NB407_451.out _; (with_reducible repeat (first | refine blk_drewN ?_ _ | refine blk_drew ?_ | refine blk_alloc ?_ _)); refine blk_far ?_ NB407_451.out _; exact Bz BK407) hb); replace BK418 := Aside0.mk (blk_below (g := gb418) (o := .cells #[.int .i64 t413, .slice Ao22 t414.length co22] 42 (0, 0)) (by (with_reducible repeat (first | refine blk_drewN ?_ _ | refine blk_drew ?_ | refine blk_alloc ?_ _)); refine blk_far ?_ NB418_451.out _; (with_reducible repeat (first | refine blk_drewN ?_ _ | refine blk_drew ?_ | refine blk_alloc ?_ _)); refine blk_far ?_ NB418_451.out _; exact Bz BK418) hb); replace BK423 := Aside0.mk (blk_below (g := gb423) (o := .cells #[.int .i64 t419, .slice Ao29 t437.length co29] 42 (0, 0)) (by (with_reducible repeat (first | refine blk_drewN ?_ _ | refine blk_drew ?_ | refine blk_alloc ?_ _)); refine blk_far ?_ NB423_451.out _; (with_reducible repeat (first | refine blk_drewN ?_ _ | refine blk_drew ?_ | refine blk_alloc ?_ _)); refine blk_far ?_ NB423_451.out _; exact Bz BK423) hb); replace BK429 := Aside0.mk (blk_below (g := gb429) (o := .cells #[.int .i64 t424, .slice Ao36 t440.length co36] 42 (0, 0)) (by (with_reducible repeat (first | refine blk_drewN ?_ _ | refine blk_drew ?_ | refine blk_alloc ?_ _)); refine blk_far ?_ NB429_451.out _; (with_reducible repeat (first | refine blk_drewN ?_ _ | refine blk_drew ?_ | refine blk_alloc ?_ _)); refine blk_far ?_ NB429_451.out _; exact Bz BK429) hb); replace BK451 := Aside0.mk (blk_below (g := gb451) (o := .cells #[.int .i64 t446, .slice Ao122 t447.length co122] 42 (0, 0)) (by (with_reducible repeat (first | refine blk_drewN ?_ _ | refine blk_drew ?_ | refine blk_alloc ?_ _)); refine blk_put (cs := #[.int .i64 t446, .slice none 0 0]) ?_ 1 _ rfl; (with_reducible repeat (first | refine blk_drewN ?_ _ | refine blk_drew ?_ | refine blk_alloc ?_ _)); refine blk_put (cs := #[.int .i64 0, .slice none 0 0]) ?_ 0 _ rfl; exact Bz BK451) hb); replace HB := Aside0.mk (below_step (by first | exact Lz HB | repeat (first | (with_reducible first | exact HB.out | apply below_alloc | apply pw_below_drewN | apply below_drew1 | refine below_set ?_ GE407.out | refine below_set ?_ GE418.out | refine below_set ?_ GE423.out | refine below_set ?_ GE429.out | refine below_set ?_ GE451.out) | exact HB.out)) hb); (try clear hb); (try clear hb2); (try clear hk); (try clear hi)))
                   go_meet
                   case rel => exact ⟨_, ((t450 != t417)), eqA, H', ⟨by have := HJ4.out; have := HJ13.out; have := HJ54.out; have := HJ58.out; have := HJ65.out; have := HJ90.out; have := HJ94.out; have := HJ103.out; first | omega | exact Nat.le_refl _⟩, ⟨by (try simp only [hl424001_65]); (try simp only [hl430001_94]); (with_reducible repeat (first | apply Kd.R_alloc | apply Kd.R_drewN | apply Kd.R_drew)); exact Kd.R_mono HO_419001.out (fun _ hk => ⟨hk.1.1.1, ⟨hk.1.1.2, hk.2⟩⟩)⟩, ⟨by (try simp only [hl424001_65]); (try simp only [hl430001_94]); (with_reducible repeat (first | apply Kd.R_alloc | apply Kd.R_drewN | apply Kd.R_drew)); exact Kd.R_mono HO_424001.out (fun _ hk => ⟨hk.1.1.1, ⟨hk.1.1.2, hk.2⟩⟩)⟩, ⟨by (try simp only [hl424001_65]); (try simp only [hl430001_94]); (with_reducible repeat (first | apply Kd.R_alloc | apply Kd.R_drewN | apply Kd.R_drew)); exact Kd.R_mono HO_430001.out (fun _ hk => ⟨hk.1.1.1, ⟨hk.1.1.2, hk.2⟩⟩)⟩, ⟨by (try simp only [hl424001_65]); (try simp only [hl430001_94]); (with_reducible repeat (first | apply Kd.R_alloc | apply Kd.R_drewN | apply Kd.R_drew)); exact Kd.R_mono HO449.out (fun _ hk => ⟨hk.1.1.1.2, ⟨hk.1.1.2, hk.1.2⟩⟩)⟩, ⟨by (try simp only [hl424001_65]); (try simp only [hl430001_94]); exact Bz BK407⟩, ⟨by (try simp only [hl424001_65]); (try simp only [hl430001_94]); exact Bz BK418⟩, ⟨by (try simp only [hl424001_65]); (try simp only [hl430001_94]); exact Bz BK423⟩, ⟨by (try simp only [hl424001_65]); (try simp only [hl430001_94]); exact Bz BK429⟩, ⟨by (try simp only [hl424001_65]); (try simp only [hl430001_94]); exact Bz BK451⟩, ⟨by first | exact Lz HB | repeat (first | (with_reducible first | exact HB.out | apply below_alloc | apply pw_below_drewN | apply below_drew1 | refine below_set ?_ GE407.out | refine below_set ?_ GE418.out | refine below_set ?_ GE423.out | refine below_set ?_ GE429.out | refine below_set ?_ GE451.out) | exact HB.out)⟩⟩
                  replace c124 := Bool.eq_false_iff.mpr c124
                  subst c124
                  have H1 : (laws_FnExactAddEdge.j8 kj103 t439 true t424 t440) = some r := by rw [if_neg (show ¬ (false = true) by decide)] at H; exact H
                  clear H
                  have H := H1
                  clear H1
                  have H' := Aside0.mk H
                  clear H
                  have hnb135 := NB451_407.out
                  have hnc135 := NB407_451.out
                  have hnb136 := NB451_418.out
                  have hnc136 := NB418_451.out
                  have hnb137 := NB451_423.out
                  have hnc137 := NB423_451.out
                  have hnb138 := NB451_429.out
                  have hnc138 := NB429_451.out
                  have hcz139_0 : w116.cell? ⟨gb451, 0, none⟩ = some (.int .i64 0) := (blk_cell BK451.out 0).trans rfl
                  have hcz139_1 : w116.cell? ⟨gb451, 1, none⟩ = some (.slice none 0 0) := (blk_cell BK451.out 1).trans rfl
                  have hfz139_0 := blk_frozen BK451.out 0
                  have hfz139_1 := blk_frozen BK451.out 1
                  have hnb140 := NB418_407.out
                  have hnc140 := NB407_418.out
                  have hnb141 := NB418_423.out
                  have hnc141 := NB423_418.out
                  have hnb142 := NB418_429.out
                  have hnc142 := NB429_418.out
                  have hcz143_0 : w116.cell? ⟨gb418, 0, none⟩ = some (.int .i64 t413) := (blk_cell BK418.out 0).trans rfl
                  have hcz143_1 : w116.cell? ⟨gb418, 1, none⟩ = some (.slice Ao22 t414.length co22) := (blk_cell BK418.out 1).trans rfl
                  have hfz143_0 := blk_frozen BK418.out 0
                  have hfz143_1 := blk_frozen BK418.out 1
                  go_wp2_with (first | ((with_reducible refine gate_callee (f := 35) rfl ?_); refine goesM_ (some 91) rfl rfl Try.func35 (by kernel_rfl) rfl #[.agg #[.int .i64 t446, .slice Ao122 t447.length co122], .agg #[.int .i64 t413, .slice Ao22 t414.length co22]] rfl ?_; (with_reducible refine (laws_eqGraph.calls kj103 t446 _ _ t447 t413 _ _ t414 false _ ?side1 ?side2 ?side3 ?side4 A123.out).mono ?_); (case side1 => refine (Kd.R_reads' (e := 75) (base := w.heap.size) (ok := fun k_ => ((((True ∧ some k_ ≠ (.slice Ao22 t414.length co22 : Value).ownBlock) ∧ some k_ ≠ (.slice Ao29 t437.length co29 : Value).ownBlock) ∧ some k_ ≠ (.slice Ao36 t440.length co36 : Value).ownBlock) ∧ some k_ ≠ (.slice Ao114 t443.length co114 : Value).ownBlock)) (n := t447.length) (c := co122) ?_).2.2; exact (by (with_reducible repeat (first | apply Kd.R_alloc | apply Kd.R_drewN | apply Kd.R_drew)); exact (Kd.R_mono (Kd.R_far (p := ⟨gb451, 1, none⟩) (Kd.R_far (p := ⟨gb451, 0, none⟩) (Kd.R_types HO449.out BK451.out (by decide)) (fun _ hk => hk.2) (.int .i64 t446)) (fun _ hk => hk.2) (.slice Ao122 t447.length co122)) (fun _ h_ => h_.1)))); (case side2 => exact (Kd.R_reads' HO449.out).2.1); (case side3 => refine (Kd.R_reads' (e := 75) (base := w.heap.size) (ok := fun k_ => (((some k_ ≠ (.slice Ao29 t437.length co29 : Value).ownBlock ∧ some k_ ≠ (.slice Ao36 t440.length co36 : Value).ownBlock) ∧ some k_ ≠ (.slice Ao114 t443.length co114 : Value).ownBlock) ∧ some k_ ≠ (.slice Ao122 t447.length co122 : Value).ownBlock)) (n := t414.length) (c := co22) ?_).2.2; exact (by (with_reducible repeat (first | apply Kd.R_alloc | apply Kd.R_drewN | apply Kd.R_drew)); exact (Kd.R_mono (Kd.R_far (p := ⟨gb451, 1, none⟩) (Kd.R_far (p := ⟨gb451, 0, none⟩) (Kd.R_types HO_419001.out BK451.out (by decide)) (fun _ hk => hk.2) (.int .i64 t446)) (fun _ hk => hk.2) (.slice Ao122 t447.length co122)) (fun _ h_ => h_.1)))); (case side4 => exact (Kd.R_reads' HO_419001.out).2.1); rintro e w144 ⟨rfl, hb⟩; refine ⟨_, rfl, ?_⟩; replace HO_419001 := Aside0.mk (Kd.R_below (by (with_reducible repeat (first | apply Kd.R_alloc | apply Kd.R_drewN | apply Kd.R_drew)); exact (Kd.R_mono (Kd.R_far (p := ⟨gb451, 1, none⟩) (Kd.R_far (p := ⟨gb451, 0, none⟩) (Kd.R_types HO_419001.out BK451.out (by decide)) (fun _ hk => hk.2) (.int .i64 t446)) (fun _ hk => hk.2) (.slice Ao122 t447.length co122)) (fun _ h_ => h_.1))) hb); replace HO_424001 := Aside0.mk (Kd.R_below (by (with_reducible repeat (first | apply Kd.R_alloc | apply Kd.R_drewN | apply Kd.R_drew)); exact (Kd.R_mono (Kd.R_far (p := ⟨gb451, 1, none⟩) (Kd.R_far (p := ⟨gb451, 0, none⟩) (Kd.R_types HO_424001.out BK451.out (by decide)) (fun _ hk => hk.2) (.int .i64 t446)) (fun _ hk => hk.2) (.slice Ao122 t447.length co122)) (fun _ h_ => h_.1))) hb); replace HO_430001 := Aside0.mk (Kd.R_below (by (with_reducible repeat (first | apply Kd.R_alloc | apply Kd.R_drewN | apply Kd.R_drew)); exact (Kd.R_mono (Kd.R_far (p := ⟨gb451, 1, none⟩) (Kd.R_far (p := ⟨gb451, 0, none⟩) (Kd.R_types HO_430001.out BK451.out (by decide)) (fun _ hk => hk.2) (.int .i64 t446)) (fun _ hk => hk.2) (.slice Ao122 t447.length co122)) (fun _ h_ => h_.1))) hb); replace HO445 := Aside0.mk (Kd.R_below (by (with_reducible repeat (first | apply Kd.R_alloc | apply Kd.R_drewN | apply Kd.R_drew)); exact (Kd.R_mono (Kd.R_far (p := ⟨gb451, 1, none⟩) (Kd.R_far (p := ⟨gb451, 0, none⟩) (Kd.R_types HO445.out BK451.out (by decide)) (fun _ hk => hk.2) (.int .i64 t446)) (fun _ hk => hk.2) (.slice Ao122 t447.length co122)) (fun _ h_ => h_.1))) hb); replace HO449 := Aside0.mk (Kd.R_below (by (with_reducible repeat (first | apply Kd.R_alloc | apply Kd.R_drewN | apply Kd.R_drew)); exact (Kd.R_mono (Kd.R_far (p := ⟨gb451, 1, none⟩) (Kd.R_far (p := ⟨gb451, 0, none⟩) (Kd.R_types HO449.out BK451.out (by decide)) (fun _ hk => hk.2) (.int .i64 t446)) (fun _ hk => hk.2) (.slice Ao122 t447.length co122)) (fun _ h_ => h_.1))) hb); replace BK407 := Aside0.mk (blk_below (g := gb407) (o := .cells #[.int .i64 a0_0, .slice A0_1 l0_1.length c0_1] 37 (0, 0)) (by (with_reducible repeat (first | refine blk_drewN ?_ _ | refine blk_drew ?_ | refine blk_alloc ?_ _)); refine blk_far ?_ NB407_451.out _; (with_reducible repeat (first | refine blk_drewN ?_ _ | refine blk_drew ?_ | refine blk_alloc ?_ _)); refine blk_far ?_ NB407_451.out _; exact Bz BK407) hb); replace BK418 := Aside0.mk (blk_below (g := gb418) (o := .cells #[.int .i64 t413, .slice Ao22 t414.length co22] 42 (0, 0)) (by (with_reducible repeat (first | refine blk_drewN ?_ _ | refine blk_drew ?_ | refine blk_alloc ?_ _)); refine blk_far ?_ NB418_451.out _; (with_reducible repeat (first | refine blk_drewN ?_ _ | refine blk_drew ?_ | refine blk_alloc ?_ _)); refine blk_far ?_ NB418_451.out _; exact Bz BK418) hb); replace BK423 := Aside0.mk (blk_below (g := gb423) (o := .cells #[.int .i64 t419, .slice Ao29 t437.length co29] 42 (0, 0)) (by (with_reducible repeat (first | refine blk_drewN ?_ _ | refine blk_drew ?_ | refine blk_alloc ?_ _)); refine blk_far ?_ NB423_451.out _; (with_reducible repeat (first | refine blk_drewN ?_ _ | refine blk_drew ?_ | refine blk_alloc ?_ _)); refine blk_far ?_ NB423_451.out _; exact Bz BK423) hb); replace BK429 := Aside0.mk (blk_below (g := gb429) (o := .cells #[.int .i64 t424, .slice Ao36 t440.length co36] 42 (0, 0)) (by (with_reducible repeat (first | refine blk_drewN ?_ _ | refine blk_drew ?_ | refine blk_alloc ?_ _)); refine blk_far ?_ NB429_451.out _; (with_reducible repeat (first | refine blk_drewN ?_ _ | refine blk_drew ?_ | refine blk_alloc ?_ _)); refine blk_far ?_ NB429_451.out _; exact Bz BK429) hb); replace BK451 := Aside0.mk (blk_below (g := gb451) (o := .cells #[.int .i64 t446, .slice Ao122 t447.length co122] 42 (0, 0)) (by (with_reducible repeat (first | refine blk_drewN ?_ _ | refine blk_drew ?_ | refine blk_alloc ?_ _)); refine blk_put (cs := #[.int .i64 t446, .slice none 0 0]) ?_ 1 _ rfl; (with_reducible repeat (first | refine blk_drewN ?_ _ | refine blk_drew ?_ | refine blk_alloc ?_ _)); refine blk_put (cs := #[.int .i64 0, .slice none 0 0]) ?_ 0 _ rfl; exact Bz BK451) hb); replace HB := Aside0.mk (below_step (by first | exact Lz HB | repeat (first | (with_reducible first | exact HB.out | apply below_alloc | apply pw_below_drewN | apply below_drew1 | refine below_set ?_ GE407.out | refine below_set ?_ GE418.out | refine below_set ?_ GE423.out | refine below_set ?_ GE429.out | refine below_set ?_ GE451.out) | exact HB.out)) hb); (try clear hb); (try clear hb2); (try clear hk); (try clear hi)))
                  go_meet
                  case rel => exact ⟨_, (true), eqA, H', ⟨by have := HJ4.out; have := HJ13.out; have := HJ54.out; have := HJ58.out; have := HJ65.out; have := HJ90.out; have := HJ94.out; have := HJ103.out; first | omega | exact Nat.le_refl _⟩, ⟨by (try simp only [hl424001_65]); (try simp only [hl430001_94]); (with_reducible repeat (first | apply Kd.R_alloc | apply Kd.R_drewN | apply Kd.R_drew)); exact Kd.R_mono HO_419001.out (fun _ hk => ⟨hk.1.1.1, ⟨hk.1.1.2, hk.2⟩⟩)⟩, ⟨by (try simp only [hl424001_65]); (try simp only [hl430001_94]); (with_reducible repeat (first | apply Kd.R_alloc | apply Kd.R_drewN | apply Kd.R_drew)); exact Kd.R_mono HO_424001.out (fun _ hk => ⟨hk.1.1.1, ⟨hk.1.1.2, hk.2⟩⟩)⟩, ⟨by (try simp only [hl424001_65]); (try simp only [hl430001_94]); (with_reducible repeat (first | apply Kd.R_alloc | apply Kd.R_drewN | apply Kd.R_drew)); exact Kd.R_mono HO_430001.out (fun _ hk => ⟨hk.1.1.1, ⟨hk.1.1.2, hk.2⟩⟩)⟩, ⟨by (try simp only [hl424001_65]); (try simp only [hl430001_94]); (with_reducible repeat (first | apply Kd.R_alloc | apply Kd.R_drewN | apply Kd.R_drew)); exact Kd.R_mono HO449.out (fun _ hk => ⟨hk.1.1.1.2, ⟨hk.1.1.2, hk.1.2⟩⟩)⟩, ⟨by (try simp only [hl424001_65]); (try simp only [hl430001_94]); exact Bz BK407⟩, ⟨by (try simp only [hl424001_65]); (try simp only [hl430001_94]); exact Bz BK418⟩, ⟨by (try simp only [hl424001_65]); (try simp only [hl430001_94]); exact Bz BK423⟩, ⟨by (try simp only [hl424001_65]); (try simp only [hl430001_94]); exact Bz BK429⟩, ⟨by (try simp only [hl424001_65]); (try simp only [hl430001_94]); exact Bz BK451⟩, ⟨by first | exact Lz HB | repeat (first | (with_reducible first | exact HB.out | apply below_alloc | apply pw_below_drewN | apply below_drew1 | refine below_set ?_ GE407.out | refine below_set ?_ GE418.out | refine below_set ?_ GE423.out | refine below_set ?_ GE429.out | refine below_set ?_ GE451.out) | exact HB.out)⟩⟩
                 case rest =>
                  clear HC108
                  try clear c9
                  try clear c9b0
                  try clear c38
                  try clear c56
                  try clear c64
                  try clear c72
                  try clear c72b0
                  try clear c74
                  try clear c92
                  try clear c103
                  try clear c103b0
                  try clear c105
                  try clear c105b0
                  try clear c105b1
                  try clear c124
                  obtain ⟨kq, x97_107, rfl, HA, HJ107, HO_419001, HO_424001, HO_430001, HO_452001, BK407, BK418, BK423, BK429, BK451, HB⟩ := hcut
                  cases kq with
                  | zero => exact absurd HA.out (by simp [laws_FnExactAddEdge.j8])
                  | succ kj107 =>
                   have H := HA.out
                   clear HA
                   simp only [laws_FnExactAddEdge.j8] at H
                   have HC145 := Aside0.mk H
                   clear H
                   go_upto_if 97 with (fail)
                   go_cut [] (fun wc => ∃ (kq : Nat), Aside0 (laws_FnExactAddEdge.j9 kq t439 t424 t440 = some r) ∧ Aside0 (kq ≤ kj107) ∧ Aside0 (Kd.R k75 75 wc w.heap.size (fun k_ => some k_ ≠ ((.slice Ao29 t437.length co29) : Value).ownBlock ∧ some k_ ≠ ((.slice Ao36 t440.length co36) : Value).ownBlock ∧ some k_ ≠ ((.slice Ao122 t447.length co122) : Value).ownBlock) (.slice Ao22 t414.length co22) t414) ∧ Aside0 (Kd.R k75 75 wc w.heap.size (fun k_ => some k_ ≠ ((.slice Ao22 t414.length co22) : Value).ownBlock ∧ some k_ ≠ ((.slice Ao36 t440.length co36) : Value).ownBlock ∧ some k_ ≠ ((.slice Ao122 t447.length co122) : Value).ownBlock) (.slice Ao29 t437.length co29) t437) ∧ Aside0 (Kd.R k75 75 wc w.heap.size (fun k_ => some k_ ≠ ((.slice Ao22 t414.length co22) : Value).ownBlock ∧ some k_ ≠ ((.slice Ao29 t437.length co29) : Value).ownBlock ∧ some k_ ≠ ((.slice Ao122 t447.length co122) : Value).ownBlock) (.slice Ao36 t440.length co36) t440) ∧ Aside0 (Kd.R k75 75 wc w.heap.size (fun k_ => some k_ ≠ ((.slice Ao22 t414.length co22) : Value).ownBlock ∧ some k_ ≠ ((.slice Ao29 t437.length co29) : Value).ownBlock ∧ some k_ ≠ ((.slice Ao36 t440.length co36) : Value).ownBlock) (.slice Ao122 t447.length co122) t447) ∧ Aside0 (wc.heap[gb407]? = some (.cells #[.int .i64 a0_0, (.slice A0_1 l0_1.length c0_1)] 37 (0, 0))) ∧ Aside0 (wc.heap[gb418]? = some (.cells #[.int .i64 t413, (.slice Ao22 t414.length co22)] 42 (0, 0))) ∧ Aside0 (wc.heap[gb423]? = some (.cells #[.int .i64 t419, (.slice Ao29 t437.length co29)] 42 (0, 0))) ∧ Aside0 (wc.heap[gb429]? = some (.cells #[.int .i64 t424, (.slice Ao36 t440.length co36)] 42 (0, 0))) ∧ Aside0 (wc.heap[gb451]? = some (.cells #[.int .i64 t446, (.slice Ao122 t447.length co122)] 42 (0, 0))) ∧ Aside0 (Below w.heap.size w wc))
                   case first =>
                    have H := HC145.out
                    clear HC145
                    by_cases c146 : x97_107 = true
                    ·subst c146
                     have H1 : (some false) = some r := by rw [if_pos rfl] at H; exact H
                     clear H
                     have H := H1
                     clear H1
                     exact absurd (Option.some.inj H) (by rw [HR_.out]; decide)
                    replace c146 := Bool.eq_false_iff.mpr c146
                    subst c146
                    have H1 : (laws_FnExactAddEdge.j9 kj107 t439 t424 t440) = some r := by rw [if_neg (show ¬ (false = true) by decide)] at H; exact H
                    clear H
                    have H := H1
                    clear H1
                    have H' := Aside0.mk H
                    clear H
                    go_wp2
                    go_meet
                    case rel => exact ⟨_, H', ⟨by have := HJ4.out; have := HJ13.out; have := HJ54.out; have := HJ58.out; have := HJ65.out; have := HJ90.out; have := HJ94.out; have := HJ103.out; have := HJ107.out; first | omega | exact Nat.le_refl _⟩, ⟨by (try simp only [hl424001_65]); (try simp only [hl430001_94]); exact Rz HO_419001⟩, ⟨by (try simp only [hl424001_65]); (try simp only [hl430001_94]); exact Rz HO_424001⟩, ⟨by (try simp only [hl424001_65]); (try simp only [hl430001_94]); exact Rz HO_430001⟩, ⟨by (try simp only [hl424001_65]); (try simp only [hl430001_94]); exact Rz HO_452001⟩, ⟨by (try simp only [hl424001_65]); (try simp only [hl430001_94]); exact Bz BK407⟩, ⟨by (try simp only [hl424001_65]); (try simp only [hl430001_94]); exact Bz BK418⟩, ⟨by (try simp only [hl424001_65]); (try simp only [hl430001_94]); exact Bz BK423⟩, ⟨by (try simp only [hl424001_65]); (try simp only [hl430001_94]); exact Bz BK429⟩, ⟨by (try simp only [hl424001_65]); (try simp only [hl430001_94]); exact Bz BK451⟩, ⟨by first | exact Lz HB | repeat (first | (with_reducible first | exact HB.out | apply below_alloc | apply pw_below_drewN | apply below_drew1 | refine below_set ?_ GE407.out | refine below_set ?_ GE418.out | refine below_set ?_ GE423.out | refine below_set ?_ GE429.out | refine below_set ?_ GE451.out) | exact HB.out)⟩⟩
                   case rest =>
                    clear HC145
                    try clear c9
                    try clear c9b0
                    try clear c38
                    try clear c56
                    try clear c64
                    try clear c72
                    try clear c72b0
                    try clear c74
                    try clear c92
                    try clear c103
                    try clear c103b0
                    try clear c105
                    try clear c105b0
                    try clear c105b1
                    try clear c124
                    try clear c146
                    obtain ⟨kq, HA, HJ144, HO_419001, HO_424001, HO_430001, HO_452001, BK407, BK418, BK423, BK429, BK451, HB⟩ := hcut
                    cases kq with
                    | zero => exact absurd HA.out (by simp [laws_FnExactAddEdge.j9])
                    | succ kj144 =>
                     have H := HA.out
                     clear HA
                     simp only [laws_FnExactAddEdge.j9] at H
                     replace H := Option.bind_eq_some_iff.mp H
                     obtain ⟨t453, A1470, H⟩ := H
                     replace H : (if t453 < 0 then (some false) else (laws_FnExactAddEdge.j10 kj144 t439 t453)) = some r := H
                     have A147 := Aside0.mk A1470
                     clear A1470
                     have HC148 := Aside0.mk H
                     clear H
                     have hnb149 := NB429_407.out
                     have hnc149 := NB407_429.out
                     have hnb150 := NB429_418.out
                     have hnc150 := NB418_429.out
                     have hnb151 := NB429_423.out
                     have hnc151 := NB423_429.out
                     have hnb152 := NB429_451.out
                     have hnc152 := NB451_429.out
                     have hcz153_0 : wc.cell? ⟨gb429, 0, none⟩ = some (.int .i64 t424) := (blk_cell BK429.out 0).trans rfl
                     have hcz153_1 : wc.cell? ⟨gb429, 1, none⟩ = some (.slice Ao36 t440.length co36) := (blk_cell BK429.out 1).trans rfl
                     have hfz153_0 := blk_frozen BK429.out 0
                     have hfz153_1 := blk_frozen BK429.out 1
                     go_upto_if 102 with (first | ((with_reducible refine gate_callee (f := 46) rfl ?_); refine goesM_ (some 100) rfl rfl Try.func46 (by kernel_rfl) rfl #[.agg #[.int .i64 t424, .slice Ao36 t440.length co36], .int .i64 1] rfl ?_; (with_reducible refine (laws_heldGraph.calls kj144 t424 _ _ t440 1 t453 _ ?side1 ?side2 A147.out).mono ?_); (case side1 => exact Cz ((Kd.R_reads' HO_430001.out).2.2)); (case side2 => exact (Kd.R_reads' HO_430001.out).2.1); rintro e w154 ⟨rfl, hb⟩; refine ⟨_, rfl, ?_⟩; replace HO_419001 := Aside0.mk (Kd.R_below (Rz HO_419001) hb); replace HO_424001 := Aside0.mk (Kd.R_below (Rz HO_424001) hb); replace HO_430001 := Aside0.mk (Kd.R_below (Rz HO_430001) hb); replace HO_452001 := Aside0.mk (Kd.R_below (Rz HO_452001) hb); replace BK407 := Aside0.mk (blk_below (g := gb407) (o := .cells #[.int .i64 a0_0, .slice A0_1 l0_1.length c0_1] 37 (0, 0)) (Bz BK407) hb); replace BK418 := Aside0.mk (blk_below (g := gb418) (o := .cells #[.int .i64 t413, .slice Ao22 t414.length co22] 42 (0, 0)) (Bz BK418) hb); replace BK423 := Aside0.mk (blk_below (g := gb423) (o := .cells #[.int .i64 t419, .slice Ao29 t437.length co29] 42 (0, 0)) (Bz BK423) hb); replace BK429 := Aside0.mk (blk_below (g := gb429) (o := .cells #[.int .i64 t424, .slice Ao36 t440.length co36] 42 (0, 0)) (Bz BK429) hb); replace BK451 := Aside0.mk (blk_below (g := gb451) (o := .cells #[.int .i64 t446, .slice Ao122 t447.length co122] 42 (0, 0)) (Bz BK451) hb); replace HB := Aside0.mk (below_step (by first | exact Lz HB | repeat (first | (with_reducible first | exact HB.out | apply below_alloc | apply pw_below_drewN | apply below_drew1 | refine below_set ?_ GE407.out | refine below_set ?_ GE418.out | refine below_set ?_ GE423.out | refine below_set ?_ GE429.out | refine below_set ?_ GE451.out) | exact HB.out)) hb); (try clear hb); (try clear hb2); (try clear hk); (try clear hi)))
                     (try simp only [Act.put, List.setIfInBounds_toArray, List.set_cons_zero, List.set_cons_succ])
                     go_cut [] (fun wc => ∃ (kq : Nat), Aside0 (laws_FnExactAddEdge.j10 kq t439 t453 = some r) ∧ Aside0 (kq ≤ kj144) ∧ Aside0 (Kd.R k75 75 wc w.heap.size (fun k_ => some k_ ≠ ((.slice Ao29 t437.length co29) : Value).ownBlock ∧ some k_ ≠ ((.slice Ao36 t440.length co36) : Value).ownBlock ∧ some k_ ≠ ((.slice Ao122 t447.length co122) : Value).ownBlock) (.slice Ao22 t414.length co22) t414) ∧ Aside0 (Kd.R k75 75 wc w.heap.size (fun k_ => some k_ ≠ ((.slice Ao22 t414.length co22) : Value).ownBlock ∧ some k_ ≠ ((.slice Ao36 t440.length co36) : Value).ownBlock ∧ some k_ ≠ ((.slice Ao122 t447.length co122) : Value).ownBlock) (.slice Ao29 t437.length co29) t437) ∧ Aside0 (Kd.R k75 75 wc w.heap.size (fun k_ => some k_ ≠ ((.slice Ao22 t414.length co22) : Value).ownBlock ∧ some k_ ≠ ((.slice Ao29 t437.length co29) : Value).ownBlock ∧ some k_ ≠ ((.slice Ao122 t447.length co122) : Value).ownBlock) (.slice Ao36 t440.length co36) t440) ∧ Aside0 (Kd.R k75 75 wc w.heap.size (fun k_ => some k_ ≠ ((.slice Ao22 t414.length co22) : Value).ownBlock ∧ some k_ ≠ ((.slice Ao29 t437.length co29) : Value).ownBlock ∧ some k_ ≠ ((.slice Ao36 t440.length co36) : Value).ownBlock) (.slice Ao122 t447.length co122) t447) ∧ Aside0 (wc.heap[gb407]? = some (.cells #[.int .i64 a0_0, (.slice A0_1 l0_1.length c0_1)] 37 (0, 0))) ∧ Aside0 (wc.heap[gb418]? = some (.cells #[.int .i64 t413, (.slice Ao22 t414.length co22)] 42 (0, 0))) ∧ Aside0 (wc.heap[gb423]? = some (.cells #[.int .i64 t419, (.slice Ao29 t437.length co29)] 42 (0, 0))) ∧ Aside0 (wc.heap[gb429]? = some (.cells #[.int .i64 t424, (.slice Ao36 t440.length co36)] 42 (0, 0))) ∧ Aside0 (wc.heap[gb451]? = some (.cells #[.int .i64 t446, (.slice Ao122 t447.length co122)] 42 (0, 0))) ∧ Aside0 (Below w.heap.size w wc))
                     case first =>
                      have H := HC148.out
                      clear HC148
                      by_cases c155 : t453 < 0
                      ·rw [if_pos c155] at H
                       have c155b0 : decide (t453 < 0) = true := decide_eq_true c155
                       clear c155
                       (first | rw [c155b0] | (simp only [i64_w, i32_w]; rw [c155b0]) | skip)
                       obtain rfl := Option.some.inj H
                       go_wp2
                       go_ret
                       exact ⟨by first | rfl | (simp [errW_none, errW_some] <;> rfl) | (simp [*, errW_none, errW_some] <;> rfl), by first | exact Lz HB | repeat (first | (with_reducible first | exact HB.out | apply below_alloc | apply pw_below_drewN | apply below_drew1 | refine below_set ?_ GE407.out | refine below_set ?_ GE418.out | refine below_set ?_ GE423.out | refine below_set ?_ GE429.out | refine below_set ?_ GE451.out) | exact HB.out)⟩
                      rw [if_neg c155] at H
                      have c155b0 : decide (t453 < 0) = false := decide_eq_false c155
                      clear c155
                      (first | rw [c155b0] | (simp only [i64_w, i32_w]; rw [c155b0]) | skip)
                      have H' := Aside0.mk H
                      clear H
                      go_wp2
                      go_meet
                      case rel => exact ⟨_, H', ⟨by have := HJ4.out; have := HJ13.out; have := HJ54.out; have := HJ58.out; have := HJ65.out; have := HJ90.out; have := HJ94.out; have := HJ103.out; have := HJ107.out; have := HJ144.out; first | omega | exact Nat.le_refl _⟩, ⟨by (try simp only [hl424001_65]); (try simp only [hl430001_94]); exact Rz HO_419001⟩, ⟨by (try simp only [hl424001_65]); (try simp only [hl430001_94]); exact Rz HO_424001⟩, ⟨by (try simp only [hl424001_65]); (try simp only [hl430001_94]); exact Rz HO_430001⟩, ⟨by (try simp only [hl424001_65]); (try simp only [hl430001_94]); exact Rz HO_452001⟩, ⟨by (try simp only [hl424001_65]); (try simp only [hl430001_94]); exact Bz BK407⟩, ⟨by (try simp only [hl424001_65]); (try simp only [hl430001_94]); exact Bz BK418⟩, ⟨by (try simp only [hl424001_65]); (try simp only [hl430001_94]); exact Bz BK423⟩, ⟨by (try simp only [hl424001_65]); (try simp only [hl430001_94]); exact Bz BK429⟩, ⟨by (try simp only [hl424001_65]); (try simp only [hl430001_94]); exact Bz BK451⟩, ⟨by first | exact Lz HB | repeat (first | (with_reducible first | exact HB.out | apply below_alloc | apply pw_below_drewN | apply below_drew1 | refine below_set ?_ GE407.out | refine below_set ?_ GE418.out | refine below_set ?_ GE423.out | refine below_set ?_ GE429.out | refine below_set ?_ GE451.out) | exact HB.out)⟩⟩
                     case rest =>
                      clear HC148
                      try clear c9
                      try clear c9b0
                      try clear c38
                      try clear c56
                      try clear c64
                      try clear c72
                      try clear c72b0
                      try clear c74
                      try clear c92
                      try clear c103
                      try clear c103b0
                      try clear c105
                      try clear c105b0
                      try clear c105b1
                      try clear c124
                      try clear c146
                      try clear c155
                      try clear c155b0
                      obtain ⟨kq, HA, HJ147, HO_419001, HO_424001, HO_430001, HO_452001, BK407, BK418, BK423, BK429, BK451, HB⟩ := hcut
                      cases kq with
                      | zero => exact absurd HA.out (by simp [laws_FnExactAddEdge.j10])
                      | succ kj147 =>
                       have H := HA.out
                       clear HA
                       simp only [laws_FnExactAddEdge.j10] at H
                       by_cases c156 : t453 = t439
                       ·rw [if_pos c156] at H
                        have c156b0 : (t453 == t439) = true := beq_iff_eq.mpr c156
                        have c156b1 : (t453 != t439) = false := bne_eq_false_iff_eq.mpr c156
                        clear c156
                        obtain rfl := Option.some.inj H
                        go_wp2
                        go_ret
                        exact ⟨by first | rfl | (simp [errW_none, errW_some] <;> rfl) | (simp [*, errW_none, errW_some] <;> rfl), by first | exact Lz HB | repeat (first | (with_reducible first | exact HB.out | apply below_alloc | apply pw_below_drewN | apply below_drew1 | refine below_set ?_ GE407.out | refine below_set ?_ GE418.out | refine below_set ?_ GE423.out | refine below_set ?_ GE429.out | refine below_set ?_ GE451.out) | exact HB.out)⟩
                       rw [if_neg c156] at H
                       have c156b0 : (t453 == t439) = false := beq_eq_false_iff_ne.mpr c156
                       have c156b1 : (t453 != t439) = true := bne_iff_ne.mpr c156
                       obtain rfl := Option.some.inj H
                       go_wp2
                       go_ret
                       exact ⟨by first | rfl | (simp [errW_none, errW_some] <;> rfl) | (simp [*, errW_none, errW_some] <;> rfl), by first | exact Lz HB | repeat (first | (with_reducible first | exact HB.out | apply below_alloc | apply pw_below_drewN | apply below_drew1 | refine below_set ?_ GE407.out | refine below_set ?_ GE418.out | refine below_set ?_ GE423.out | refine below_set ?_ GE429.out | refine below_set ?_ GE451.out) | exact HB.out)⟩
end Go.Proofs.Ytchkndeeaoohpaa.P
end
section
namespace Go.Proofs.Ytchkndeeaoohpaa.Pure
open Go.RowKit Go.Proofs.Ytchkndeeaoohpaa.P Go.Proofs.YtchkndeeaoohpaaW.PrintWords Go.Proofs.YtchkndeeaoohpaaW.PrintLast Go.Proofs.YtchkndeeaoohpaaW.PrintMore
def StatFnExactAddEdge : Prop := ∀ (a0_0 : Int) (l0_1 : List (S88)) (a1 : Int) (a2 : Int), ((Lit.int .i64 a0_0).wf = true ∧ (l0_1.length ≤ maxLen ∧ ∀ x4 ∈ l0_1, (Lit.int .i64 x4.f0).wf = true ∧ (Lit.int .i64 x4.f1).wf = true)) → (Lit.int .i64 a1).wf = true → (Lit.int .i64 a2).wf = true → ∃ k, laws_FnExactAddEdge.f k a0_0 l0_1 a1 a2 = some true
end Go.Proofs.Ytchkndeeaoohpaa.Pure
end
section
set_option linter.unusedVariables false
set_option linter.unusedSimpArgs false
namespace Go.Proofs.Ytchkndeeaoohpaa.Pure
open Go.RowKit Go.Proofs.Ytchkndeeaoohpaa.P Go.Proofs.YtchkndeeaoohpaaW.PrintWords Go.Proofs.YtchkndeeaoohpaaW.PrintLast Go.Proofs.YtchkndeeaoohpaaW.PrintMore Go.Proofs.Ytchkndeeaoohpaa.Base Go.Proofs.Ytchkndeeaoohpaa.Loops
def cvE (e : S88) : S75 := ⟨e.f0, e.f1⟩
theorem rd_IE {l : List S75} {i : Nat} {a : S75} {r : List S75} (h : l.drop i = a :: r) : rd_T75 l (i : Int) = a := by
  unfold rd_T75
  rw [Int.toNat_natCast]
  exact get_drop h _
theorem rd_LE {l : List S88} {i : Nat} {a : S88} {r : List S88} (h : l.drop i = a :: r) : rd_T88 l (i : Int) = a := by
  unfold rd_T88
  rw [Int.toNat_natCast]
  exact get_drop h _
theorem szGraph_eq (a : Int) (l : List S88) (hl : l.length ≤ maxLen) (n : Int) (h0 : 0 ≤ n) (h1 : n ≤ 1048576) : laws_szGraph.f a l n = some (if (l.length : Int) ≤ n then n - l.length else -1) := by
  unfold maxLen at hl
  unfold laws_szGraph.f laws_szEdgeS.f
  have e : wrap64 (n - (l.length : Int)) = n - l.length := by unfold wrap64; omega
  rw [e]
  by_cases h : (l.length : Int) ≤ n
  · rw [if_neg (by omega), if_pos h]
    simp only [Option.bind_some]
    rw [if_neg (by omega)]
  · rw [if_pos (by omega), if_neg h]
    rfl
theorem toEdgeS_l0 (l : List S88) (hl : l.length < 4611686018427387904) : ∀ (d k i : Nat) (x : List S75), i + d = l.length → x.length = l.length → x.take i = (l.map cvE).take i → d < k → laws_toEdgeS.l0 k l x (i : Int) = some (l.map cvE) := by
  intro d
  induction d with
  | zero =>
    intro k i x hi hx ht hk
    obtain ⟨k, rfl⟩ := succ_of_lt hk
    simp only [laws_toEdgeS.l0]
    rw [if_neg (by omega), fill_end (x := x) (y := l.map cvE) (by simpa using hx) (by rw [List.length_map, show l.length = i by omega]; exact ht)]
  | succ d ih =>
    intro k i x hi hx ht hk
    obtain ⟨k, rfl⟩ := succ_of_lt hk
    have hlt : i < l.length := by omega
    have hd := List.drop_eq_getElem_cons hlt
    simp only [laws_toEdgeS.l0, laws_toEdge.f, Option.bind_some]
    rw [if_pos (by omega), if_pos (by omega), if_pos (by omega), wrap_succ (by omega), rd_LE hd, Int.toNat_natCast]
    refine ih k (i + 1) _ (by omega) (by simpa using hx) ?_ (by omega)
    refine fill_step (rest := (l.map cvE).drop (i + 1)) (by simpa using hx) ht ?_
    rw [List.drop_eq_getElem_cons (by simpa using hlt)]
    simp [cvE]
theorem toGraph_ev (a : Int) (l : List S88) (hl : l.length ≤ 1048576) : Ev (fun k => laws_toGraph.f k a l) (a, l.map cvE) := by
  refine ev_k l.length fun k hk => ?_
  unfold laws_toGraph.f laws_toEdgeS.f
  rw [if_pos (by omega), if_pos (by omega), show (0 : Int) = ((0 : Nat) : Int) from rfl, toEdgeS_l0 l (by omega) l.length k 0 _ (by omega) (by simp) (by simp) hk]
  rfl
theorem eqEdgeS_ev (l : List S75) (hl : l.length < 4611686018427387904) : Ev (fun k => laws_eqEdgeS.f k l l) true := by
  simp only [laws_eqEdgeS.f, if_true]
  refine ev_list0 l (fun k (_ : Unit) i => laws_eqEdgeS.l0 k l l i) (fun _ _ => true) (fun _ _ => True) (fun s _ => ev1 fun k => ?_) (fun s a rest i hlt hd _ => Or.inr ⟨(), trivial, rfl, 0, fun k _ => ?_⟩) () trivial
  · simp only [laws_eqEdgeS.l0]
    rw [if_neg (by omega)]
  · simp only [laws_eqEdgeS.l0, laws_eqEdge.f, if_true, Option.bind_some]
    rw [if_pos (by omega), if_pos (by omega), if_pos (by omega), wrap_succ (by omega)]
theorem eqGraph_ev (a : Int) (l : List S75) (hl : l.length < 4611686018427387904) : Ev (fun k => laws_eqGraph.f k a l a l) true := by
  simp only [laws_eqGraph.f, if_true]
  refine Ev.bind (eqEdgeS_ev l hl) ?_
  simp only [if_true]
  exact Ev.now _
theorem map_cv_length (l : List S88) : (l.map cvE).length = l.length := List.length_map ..
def edgesB (n : Int) (es : List S75) : Bool := decide (1 ≤ n) && decide (n ≤ 6) && decide (es.length ≤ 12) && es.all fun e => decide (0 ≤ e.f0) && decide (e.f0 < e.f1) && decide (e.f1 < n)
theorem impl_edgesOk_ev (n : Int) (es : List S75) (hl : es.length < 4611686018427387904) : Ev (fun k => impl_EdgesOk.f k n es) (edgesB n es) := by
  have hw : impl_within.f n 1 6 = some (decide (1 ≤ n) && decide (n ≤ 6)) := by
    unfold impl_within.f
    by_cases h : n ≥ 1
    · rw [if_pos h]; simp [h]
    · rw [if_neg h]; simp [h]
  simp only [impl_EdgesOk.f, hw, Option.bind_some]
  by_cases hn : 1 ≤ n ∧ n ≤ 6
  · by_cases h12 : es.length ≤ 12
    · have loop : Ev (fun k => impl_EdgesOk.l0 k es (es.length : Int) 0 n es) (es.all fun e => decide (0 ≤ e.f0) && decide (e.f0 < e.f1) && decide (e.f1 < n)) := by
        refine ev_listE es (fun k (_ : Unit) i => impl_EdgesOk.l0 k es (es.length : Int) i n es) (fun _ r => r.all fun e => decide (0 ≤ e.f0) && decide (e.f0 < e.f1) && decide (e.f1 < n)) (fun _ _ => True)
          (fun s _ => ev1 fun k => ?_) (fun s a rest i hlt hd _ => ?_) () trivial
        · simp only [impl_EdgesOk.l0]
          rw [if_neg (by omega)]; rfl
        · have bad : a.f0 < 0 ∨ a.f0 ≥ a.f1 ∨ a.f1 ≥ n → ((a :: rest).all fun e => decide (0 ≤ e.f0) && decide (e.f0 < e.f1) && decide (e.f1 < n)) = false := by
            intro h; simp only [List.all_cons, Bool.and_eq_false_iff, decide_eq_false_iff_not]; omega
          have stop : Ev (fun k => impl_EdgesOk.j2 k es (es.length : Int) (i : Int) true n es) false := ev1 fun k => by simp only [impl_EdgesOk.j2, if_true]
          by_cases h1 : a.f0 < 0
          · refine Or.inl (ev_succ ?_)
            simp only [impl_EdgesOk.l0, rd_IE hd]
            rw [bad (by omega)]
            exact ev_ift (by omega) (ev_ift (by omega) (ev_ift (by omega) (ev_ift h1 stop)))
          by_cases h2 : a.f0 ≥ a.f1
          · refine Or.inl (ev_succ ?_)
            simp only [impl_EdgesOk.l0, rd_IE hd]
            rw [bad (by omega)]
            exact ev_ift (by omega) (ev_ift (by omega) (ev_ift (by omega) (ev_ifn h1 (ev_ift h2 stop))))
          by_cases h3 : a.f1 ≥ n
          · refine Or.inl (ev_succ ?_)
            simp only [impl_EdgesOk.l0, rd_IE hd]
            rw [bad (by omega), decide_eq_true h3]
            exact ev_ift (by omega) (ev_ift (by omega) (ev_ift (by omega) (ev_ifn h1 (ev_ifn h2 stop))))
          refine Or.inr ⟨(), trivial, ?_, fun r hr => ev_succ ?_⟩
          · simp; omega
          · simp only [impl_EdgesOk.l0, rd_IE hd, decide_eq_false h3]
            refine ev_ift (by omega) (ev_ift (by omega) (ev_ift (by omega) (ev_ifn h1 (ev_ifn h2 (ev_succ ?_)))))
            simp only [impl_EdgesOk.j2, Bool.false_eq_true, if_false, wrap_succ (show i < 4611686018427387904 by omega)]
            exact hr
      obtain ⟨K, hK⟩ := loop
      dsimp only at hK
      refine ⟨K + 1, fun k hk => ?_⟩
      obtain ⟨m, rfl⟩ : ∃ m, k = m + 1 := ⟨k - 1, by omega⟩
      have := hK m (by omega)
      simp only [hn.1, hn.2, decide_true, Bool.and_self, if_true, impl_EdgesOk.j0]
      rw [if_neg (by simp; omega), this]
      simp [edgesB, hn, h12]
    · refine ev1 fun k => ?_
      simp only [hn.1, hn.2, decide_true, Bool.and_self, if_true, impl_EdgesOk.j0]
      rw [if_pos (by simp; omega)]
      simp [edgesB, h12]
  · refine ev1 fun k => ?_
    rw [if_neg (by simp; omega)]
    simp only [impl_EdgesOk.j0, if_true]
    simp [edgesB]
    intro a b
    exact absurd ⟨a, b⟩ hn
theorem spec_edgesOk_ev (n : Int) (es : List S75) (hl : es.length < 4611686018427387904) : Ev (fun k => spec_EdgesOk.f k n es) (edgesB n es) := by
  have hw : ∀ a b c : Int, spec_l01In.f a b c = some (decide (b ≤ a) && decide (a ≤ c)) := by
    intro a b c
    unfold spec_l01In.f
    by_cases h : a ≥ b
    · rw [if_pos h]; simp [h]
    · rw [if_neg h]; simp [h]
  simp only [spec_EdgesOk.f, hw, Option.bind_some]
  by_cases hn : 1 ≤ n ∧ n ≤ 6
  · have hn1 : wrap64 (n - 1) = n - 1 := by unfold wrap64; omega
    by_cases h12 : es.length ≤ 12
    · have loop : Ev (fun k => spec_EdgesOk.l0 k es (es.length : Int) 0 n es) (es.all fun e => decide (0 ≤ e.f0) && decide (e.f0 < e.f1) && decide (e.f1 < n)) := by
        refine ev_list0 es (fun k (_ : Unit) i => spec_EdgesOk.l0 k es (es.length : Int) i n es) (fun _ r => r.all fun e => decide (0 ≤ e.f0) && decide (e.f0 < e.f1) && decide (e.f1 < n)) (fun _ _ => True)
          (fun s _ => ev1 fun k => ?_) (fun s a rest i hlt hd _ => ?_) () trivial
        · simp only [spec_EdgesOk.l0]
          rw [if_neg (by omega)]; rfl
        · by_cases h1 : 0 ≤ a.f0 ∧ a.f0 ≤ n - 1
          · have e1 : wrap64 (a.f0 + 1) = a.f0 + 1 := by unfold wrap64; omega
            by_cases h2 : a.f0 + 1 ≤ a.f1 ∧ a.f1 ≤ n - 1
            · refine Or.inr ⟨(), trivial, ?_, 0, fun k _ => ?_⟩
              · simp; omega
              · simp only [spec_EdgesOk.l0, rd_IE hd, hw, hn1, e1, Option.bind_some]
                rw [if_pos (by omega), if_pos (by omega), if_pos (by omega), if_pos (by simp; omega), if_pos (by simp; omega), wrap_succ (by omega)]
            · refine Or.inl (ev1 fun k => ?_)
              simp only [spec_EdgesOk.l0, rd_IE hd, hw, hn1, e1, Option.bind_some]
              rw [if_pos (by omega), if_pos (by omega), if_pos (by omega), if_pos (by simp; omega), if_neg (by simp; omega)]
              simp; omega
          · refine Or.inl (ev1 fun k => ?_)
            simp only [spec_EdgesOk.l0, rd_IE hd, hw, hn1, Option.bind_some]
            rw [if_pos (by omega), if_pos (by omega), if_pos (by omega), if_neg (by simp; omega)]
            simp; omega
      obtain ⟨K, hK⟩ := loop
      dsimp only at hK
      refine ⟨K + 1, fun k hk => ?_⟩
      obtain ⟨m, rfl⟩ : ∃ m, k = m + 1 := ⟨k - 1, by omega⟩
      have := hK m (by omega)
      simp only [hn.1, hn.2, decide_true, Bool.and_self, if_true, spec_EdgesOk.j0]
      rw [if_neg (by simp; omega), this]
      simp [edgesB, hn, h12]
    · refine ev1 fun k => ?_
      simp only [hn.1, hn.2, decide_true, Bool.and_self, if_true, spec_EdgesOk.j0]
      rw [if_pos (by simp; omega)]
      simp [edgesB, h12]
  · refine ev1 fun k => ?_
    rw [if_neg (by simp; omega)]
    simp only [spec_EdgesOk.j0, if_true]
    simp [edgesB]
    intro a b
    exact absurd ⟨a, b⟩ hn
end Go.Proofs.Ytchkndeeaoohpaa.Pure
end
section
set_option linter.unusedVariables false
set_option linter.unusedSimpArgs false
namespace Go.Proofs.Ytchkndeeaoohpaa.Pure
open Go.RowKit Go.Proofs.Ytchkndeeaoohpaa.P Go.Proofs.YtchkndeeaoohpaaW.PrintWords Go.Proofs.YtchkndeeaoohpaaW.PrintLast Go.Proofs.YtchkndeeaoohpaaW.PrintMore Go.Proofs.Ytchkndeeaoohpaa.Base Go.Proofs.Ytchkndeeaoohpaa.Bits Go.Proofs.Ytchkndeeaoohpaa.Loops
def SortedE (es : List S75) : Prop := ∀ i, i + 1 < es.length → ¬ ((es.getD (i + 1) z75).f0 < (es.getD i z75).f0 ∨ ((es.getD (i + 1) z75).f0 = (es.getD i z75).f0 ∧ (es.getD (i + 1) z75).f1 < (es.getD i z75).f1))
def ConnE (n : Int) (es : List S75) : Prop := ∀ P : Int → Prop, P 0 → (∀ e ∈ es, P e.f0 ↔ P e.f1) → ∀ v, 0 ≤ v → v < n → P v
def GraphP (n : Int) (es : List S75) : Prop := edgesB n es = true ∧ SortedE es ∧ ConnE n es
theorem rdE_nat (es : List S75) (i : Nat) : rd_T75 es (i : Int) = es.getD i z75 := by unfold rd_T75; rw [Int.toNat_natCast]
theorem edgesB_facts {n : Int} {es : List S75} (h : edgesB n es = true) : 1 ≤ n ∧ n ≤ 6 ∧ es.length ≤ 12 ∧ ∀ e ∈ es, 0 ≤ e.f0 ∧ e.f0 < e.f1 ∧ e.f1 < n := by
  simp only [edgesB, Bool.and_eq_true, decide_eq_true_eq, List.all_eq_true] at h
  exact ⟨h.1.1.1, h.1.1.2, h.1.2, fun e he => ⟨(h.2 e he).1.1, (h.2 e he).1.2, (h.2 e he).2⟩⟩
theorem compare_eq (a0 a1 b0 b1 : Int) : ∃ c, impl_compareEdges.f a0 a1 b0 b1 = some c ∧ (c < 0 ↔ a0 < b0 ∨ (a0 = b0 ∧ a1 < b1)) := by
  have hc : ∀ x y : Int, cmp_Compare_int.f x y = some (if x < y then -1 else if x > y then 1 else 0) := by
    intro x y
    unfold cmp_Compare_int.f cmp_isNaN_int.f
    simp only [Option.bind_some, bne_self_eq_false, Bool.false_eq_true, if_false]
    by_cases h1 : x < y
    · rw [if_pos h1, if_pos h1]
    · rw [if_neg h1, if_neg h1]
      by_cases h2 : x > y
      · rw [if_pos h2, if_pos h2]
      · rw [if_neg h2, if_neg h2]
  unfold impl_compareEdges.f
  simp only [hc, Option.bind_some]
  by_cases h1 : a0 < b0
  · rw [if_pos h1, if_neg (by decide)]
    exact ⟨_, rfl, by omega⟩
  · by_cases h2 : a0 > b0
    · rw [if_neg h1, if_pos h2, if_neg (by decide)]
      exact ⟨_, rfl, by omega⟩
    · rw [if_neg h1, if_neg h2, if_pos rfl]
      refine ⟨_, rfl, ?_⟩
      by_cases h3 : a1 < b1
      · rw [if_pos h3]; omega
      · rw [if_neg h3]
        split <;> omega
theorem impl_sorted_ev (es : List S75) (hl : es.length < 4611686018427387904) : ∃ b : Bool, Ev (fun k => slices_IsSortedFunc_Edge.f k es) b ∧ (b = true ↔ SortedE es) := by
  have main : ∀ i : Nat, i < es.length → ∃ b : Bool, Ev (fun k => slices_IsSortedFunc_Edge.l0 k es (i : Int)) b ∧ (b = true ↔ ∀ j, j < i → ¬ ((es.getD (j + 1) z75).f0 < (es.getD j z75).f0 ∨ ((es.getD (j + 1) z75).f0 = (es.getD j z75).f0 ∧ (es.getD (j + 1) z75).f1 < (es.getD j z75).f1))) := by
    intro i
    induction i with
    | zero =>
      intro _
      refine ⟨true, ev1 fun k => ?_, by simp⟩
      simp only [slices_IsSortedFunc_Edge.l0]
      rw [if_neg (by omega)]
    | succ i ih =>
      intro hi
      obtain ⟨b, ⟨K, hb⟩, hiff⟩ := ih (by omega)
      have ew : wrap64 (((i + 1 : Nat) : Int) - 1) = (i : Int) := by unfold wrap64; omega
      obtain ⟨c, hc, hneg⟩ := compare_eq (es.getD (i + 1) z75).f0 (es.getD (i + 1) z75).f1 (es.getD i z75).f0 (es.getD i z75).f1
      by_cases h : c < 0
      · refine ⟨false, ev1 fun k => ?_, ?_⟩
        · simp only [slices_IsSortedFunc_Edge.l0, ew, rdE_nat, hc, Option.bind_some]
          rw [if_pos (by omega), if_pos (by omega), if_pos (by omega), if_pos (by omega), if_pos (by omega), if_pos h]
        · simp only [Bool.false_eq_true, false_iff]
          intro hall
          exact hall i (by omega) (hneg.1 h)
      · refine ⟨b, ⟨K + 1, fun k hk => ?_⟩, ?_⟩
        · obtain ⟨m, rfl⟩ : ∃ m, k = m + 1 := ⟨k - 1, by omega⟩
          have h2 := hb m (by omega)
          dsimp only at h2 ⊢
          simp only [slices_IsSortedFunc_Edge.l0, ew, rdE_nat, hc, Option.bind_some]
          rw [if_pos (by omega), if_pos (by omega), if_pos (by omega), if_pos (by omega), if_pos (by omega), if_neg h, h2]
        · rw [hiff]
          constructor
          · intro hall j hj
            by_cases e : j = i
            · subst e; exact fun hh => h (hneg.2 hh)
            · exact hall j (by omega)
          · exact fun hall j hj => hall j (by omega)
  simp only [slices_IsSortedFunc_Edge.f]
  by_cases h0 : es.length = 0
  · refine ⟨true, ev1 fun k => ?_, ?_⟩
    · simp only [slices_IsSortedFunc_Edge.l0]
      rw [if_neg (by unfold wrap64; omega)]
    · simp only [true_iff]
      intro i hi
      omega
  · obtain ⟨b, hb, hiff⟩ := main (es.length - 1) (by omega)
    have ew : wrap64 ((es.length : Int) - 1) = ((es.length - 1 : Nat) : Int) := by unfold wrap64; omega
    rw [ew]
    refine ⟨b, hb, ?_⟩
    rw [hiff]
    exact ⟨fun h i hi => h i (by omega), fun h i hi => h i (by omega)⟩
def toN (e : S75) : Nat × Nat := (e.f0.toNat, e.f1.toNat)
theorem conn_l1 (n : Nat) (es : List S75) (hn : n ≤ 6) (he : ∀ e ∈ es, 0 ≤ e.f0 ∧ e.f0 < e.f1 ∧ e.f1 < n) (x8 x9 : Int) (r : Bool) (hl : es.length < 4611686018427387904) :
    ∀ (rest : List S75) (i : Nat) (M : Nat), i ≤ es.length → es.drop i = rest → M < 2 ^ n → Ev (fun k => impl_connected.l0 k n es ((rnd (rest.map toN) M : Nat) : Int) x8 (wrap64 (x9 + 1))) r →
      Ev (fun k => impl_connected.l1 k n es (M : Int) x8 x9 es (es.length : Int) (i : Int)) r := by
  intro rest
  induction rest with
  | nil =>
    intro i M hi hd hM h
    have := drop_nil hd
    obtain ⟨K, hK⟩ := h
    refine ⟨K + 1, fun k hk => ?_⟩
    obtain ⟨m, rfl⟩ : ∃ m, k = m + 1 := ⟨k - 1, by omega⟩
    simp only [impl_connected.l1]
    rw [if_neg (by omega)]
    exact hK m (by omega)
  | cons e rest ih =>
    intro i M hi hd hM h
    have hlt := drop_lt hd
    have hmem : e ∈ es := by
      have : e ∈ es.drop i := by rw [hd]; simp
      exact List.mem_of_mem_drop this
    obtain ⟨h0, h1, h2⟩ := he e hmem
    obtain ⟨a, ha⟩ : ∃ a : Nat, e.f0 = a := ⟨e.f0.toNat, by omega⟩
    obtain ⟨b, hb⟩ : ∃ b : Nat, e.f1 = b := ⟨e.f1.toNat, by omega⟩
    have hte : toN e = (a, b) := by simp [toN, ha, hb]
    have hM62 : M < 2 ^ 62 := Nat.lt_of_lt_of_le hM (Nat.pow_le_pow_right (by decide) (by omega))
    have hlt' := upd_lt M (a, b) n hM (by show a < n; omega) (by show b < n; omega)
    rw [List.map_cons, hte] at h
    obtain ⟨K, hK⟩ := ih (i + 1) (upd M (a, b)) (by omega) (drop_next hd) hlt' h
    refine ⟨K + 1, fun k hk => ?_⟩
    obtain ⟨m, rfl⟩ : ∃ m, k = m + 1 := ⟨k - 1, by omega⟩
    have h3 := hK m (by omega)
    dsimp only at h3 ⊢
    simp only [impl_connected.l1, rd_IE hd, ha, hb, bit_of M a hM62 (by omega), bit_of M b hM62 (by omega), or_two M a b hM62 (by omega) (by omega)]
    rw [if_pos (by omega), if_pos (by omega), if_pos (by omega), if_pos (by omega), wrap_succ (by omega)]
    unfold upd at h3
    by_cases ta : M.testBit a = true
    · rw [if_pos (by simp [ta]), if_pos (by omega)]
      rw [if_pos (by simp [ta])] at h3
      exact h3
    · by_cases tb : M.testBit b = true
      · rw [if_neg (by simp [ta]), if_pos (by omega), if_pos (by simp [tb])]
        rw [if_pos (by simp [tb])] at h3
        exact h3
      · rw [if_neg (by simp [ta]), if_pos (by omega), if_neg (by simp [tb])]
        rw [if_neg (by simp [ta, tb])] at h3
        exact h3
theorem toN_lt {n : Nat} {es : List S75} (he : ∀ e ∈ es, 0 ≤ e.f0 ∧ e.f0 < e.f1 ∧ e.f1 < n) : ∀ x ∈ es.map toN, x.1 < n ∧ x.2 < n := by
  intro x hx
  obtain ⟨e, hm, rfl⟩ := List.mem_map.1 hx
  have := he e hm
  simp only [toN]
  omega
theorem impl_connected_ev (n : Nat) (es : List S75) (hn0 : 0 < n) (hn : n ≤ 6) (he : ∀ e ∈ es, 0 ≤ e.f0 ∧ e.f0 < e.f1 ∧ e.f1 < n) (hl : es.length < 4611686018427387904) :
    Ev (fun k => impl_connected.f k n es) (decide (iter (es.map toN) n 1 = 2 ^ n - 1)) := by
  have main : ∀ (d : Nat) (x9 M : Nat), x9 + d = n → M < 2 ^ n → Ev (fun k => impl_connected.l0 k n es (M : Int) n (x9 : Int)) (decide (iter (es.map toN) d M = 2 ^ n - 1)) := by
    intro d
    induction d with
    | zero =>
      intro x9 M hx hM
      refine ev1 fun k => ?_
      simp only [impl_connected.l0, iter]
      rw [if_neg (by omega), if_pos (by omega), shl_nat n (by omega)]
      have : wrap64 (((2 ^ n : Nat) : Int) - 1) = ((2 ^ n - 1 : Nat) : Int) := by
        have h1 : 2 ^ n ≤ 2 ^ 6 := Nat.pow_le_pow_right (by decide) hn
        have h2 : 0 < 2 ^ n := Nat.pow_pos (by decide)
        unfold wrap64
        omega
      rw [this]
      have e : ((M : Int) == ((2 ^ n - 1 : Nat) : Int)) = decide (M = 2 ^ n - 1) := by
        generalize 2 ^ n - 1 = q
        rw [Bool.eq_iff_iff, beq_iff_eq, decide_eq_true_eq]
        omega
      rw [e]
      rfl
    | succ d ih =>
      intro x9 M hx hM
      have h1 := ih (x9 + 1) (rnd (es.map toN) M) (by omega) (rnd_lt _ n M hM (toN_lt he))
      have h2 := conn_l1 n es hn he n x9 _ hl es 0 M (by omega) rfl hM (by rw [wrap_succ (by omega)]; exact h1)
      obtain ⟨K, hK⟩ := h2
      refine ⟨K + 1, fun k hk => ?_⟩
      obtain ⟨m, rfl⟩ : ∃ m, k = m + 1 := ⟨k - 1, by omega⟩
      have h3 := hK m (by omega)
      dsimp only [iter] at h3 ⊢
      simp only [impl_connected.l0]
      rw [if_pos (by omega)]
      exact h3
  exact main n 0 1 (by omega) (Nat.one_lt_two_pow (by omega))
theorem full_iff (n : Nat) (es : List S75) (hn0 : 0 < n) (he : ∀ e ∈ es, 0 ≤ e.f0 ∧ e.f0 < e.f1 ∧ e.f1 < n) : iter (es.map toN) n 1 = 2 ^ n - 1 ↔ ConnE n es := by
  rw [iter_full (es.map toN) n hn0 (toN_lt he)]
  constructor
  · intro h P h0 hP v hv0 hv
    obtain ⟨u, rfl⟩ : ∃ u : Nat, v = u := ⟨v.toNat, by omega⟩
    refine h (fun u => P u) h0 (fun x hx => ?_) u (by omega)
    obtain ⟨e, hm, rfl⟩ := List.mem_map.1 hx
    have hb := he e hm
    simp only [toN]
    rw [show ((e.f0.toNat : Nat) : Int) = e.f0 by omega, show ((e.f1.toNat : Nat) : Int) = e.f1 by omega]
    exact hP e hm
  · intro h P h0 hP v hv
    have := h (fun u => P u.toNat) h0 (fun e hm => hP (toN e) (List.mem_map.2 ⟨e, hm, rfl⟩)) v (by omega) (by omega)
    simpa using this
theorem impl_graphOk_iff (n : Int) (es : List S75) (hl : es.length < 4611686018427387904) : ∃ b : Bool, Ev (fun k => impl_GraphOk.f k n es) b ∧ (b = true ↔ GraphP n es) := by
  have h1 := impl_edgesOk_ev n es hl
  simp only [impl_GraphOk.f]
  by_cases hb : edgesB n es = true
  · obtain ⟨f1, f2, f3, f4⟩ := edgesB_facts hb
    obtain ⟨m, rfl⟩ : ∃ m : Nat, n = m := ⟨n.toNat, by omega⟩
    obtain ⟨b, h2, hs⟩ := impl_sorted_ev es hl
    rw [hb] at h1
    cases b with
    | false =>
      refine ⟨false, Ev.bind h1 ?_, ?_⟩
      · simp only [if_true]
        refine Ev.bind h2 ?_
        simp only [Bool.false_eq_true, if_false]
        exact Ev.now _
      · simp only [Bool.false_eq_true, false_iff] at hs ⊢
        exact fun h => hs h.2.1
    | true =>
      refine ⟨decide (iter (es.map toN) m 1 = 2 ^ m - 1), Ev.bind h1 ?_, ?_⟩
      · simp only [if_true]
        refine Ev.bind h2 ?_
        simp only [if_true]
        refine Ev.bind (impl_connected_ev m es (by omega) (by omega) f4 hl) ?_
        exact Ev.now _
      · rw [decide_eq_true_eq, full_iff m es (by omega) f4]
        simp only [true_iff] at hs
        exact ⟨fun h => ⟨hb, hs, h⟩, fun h => h.2.2⟩
  · refine ⟨false, Ev.bind h1 ?_, ?_⟩
    · simp only [hb]
      exact Ev.now _
    · simp only [Bool.false_eq_true, false_iff]
      exact fun h => hb h.1
theorem has_ev (l : List Int) (v : Int) (hl : l.length < 4611686018427387904) : Ev (fun k => spec_l02Has.f k l v) (decide (v ∈ l)) := by
  simp only [spec_l02Has.f]
  refine ev_list0 l (fun k (_ : Unit) i => spec_l02Has.l0 k v l (l.length : Int) i) (fun _ r => decide (v ∈ r)) (fun _ _ => True) (fun s _ => ev1 fun k => ?_) (fun s a rest i hlt hd _ => ?_) () trivial
  · simp only [spec_l02Has.l0]
    rw [if_neg (by omega)]; simp
  · by_cases h : a = v
    · refine Or.inl (ev1 fun k => ?_)
      simp only [spec_l02Has.l0, rd_drop hd]
      rw [if_pos (by omega), if_pos (by omega), if_pos (by omega), if_pos h]
      simp [h]
    · refine Or.inr ⟨(), trivial, ?_, 0, fun k _ => ?_⟩
      · simp [Ne.symm h]
      · simp only [spec_l02Has.l0, rd_drop hd]
        rw [if_pos (by omega), if_pos (by omega), if_pos (by omega), if_neg h, wrap_succ (by omega)]
def RInv (n : Nat) (es : List S75) (q : List Int) : Prop :=
  q.Nodup ∧ (∀ v ∈ q, 0 ≤ v ∧ v < n) ∧ (0 : Int) ∈ q ∧ ∀ P : Int → Prop, P 0 → (∀ e ∈ es, P e.f0 ↔ P e.f1) → ∀ v ∈ q, P v
theorem rinv_len {n : Nat} {es : List S75} {q : List Int} (h : RInv n es q) : q.length ≤ n := by
  have := List.Nodup.length_le_of_subset h.1 (l₂ := (List.range n).map fun i : Nat => (i : Int)) (fun v hv => by
    have hb := h.2.1 v hv
    exact List.mem_map.2 ⟨v.toNat, by simp; omega, by omega⟩)
  simpa using this
theorem rinv_add {n : Nat} {es : List S75} {q : List Int} (h : RInv n es q) {u v : Int} {e : S75} (he : e ∈ es) (hb : 0 ≤ e.f0 ∧ e.f0 < e.f1 ∧ e.f1 < n) (hu : u ∈ q) (huv : (u = e.f0 ∧ v = e.f1) ∨ (u = e.f1 ∧ v = e.f0)) (hv : v ∉ q) : RInv n es (q ++ [v]) := by
  refine ⟨?_, fun x hx => ?_, by simp [h.2.2.1], fun P h0 hP x hx => ?_⟩
  · rw [List.nodup_append]
    refine ⟨h.1, by simp, fun a ha b hb' => ?_⟩
    simp at hb'
    subst hb'
    intro e'
    subst e'
    exact hv ha
  · rcases List.mem_append.1 hx with hx | hx
    · exact h.2.1 x hx
    · simp at hx
      omega
  · rcases List.mem_append.1 hx with hx | hx
    · exact h.2.2.2 P h0 hP x hx
    · simp at hx
      subst hx
      have := h.2.2.2 P h0 hP u hu
      rcases huv with ⟨h1, h2⟩ | ⟨h1, h2⟩
      · rw [h2]; exact (hP e he).1 (h1 ▸ this)
      · rw [h2]; exact (hP e he).2 (h1 ▸ this)
theorem get_mem_append {q : List Int} {i : Nat} (h : i < q.length) (v : Int) : rd (q ++ [v]) (i : Int) = rd q (i : Int) := by
  rw [rd_nat q i h, rd_nat (q ++ [v]) i (by simp; omega), List.getElem_append_left h]
theorem reach_step (n : Nat) (es : List S75) (q : List Int) (pos i : Nat) (e : S75) (rest : List S75) (hd : es.drop i = e :: rest) (hne : e.f0 ≠ e.f1) (hpos : pos < q.length) (hq : q.length ≤ 6) (hl : es.length < 4611686018427387904) (r : List Int)
    (h : Ev (fun k => spec_l02Reach.l1 k (if e.f0 = rd q pos ∧ e.f1 ∉ q then q ++ [e.f1] else if e.f1 = rd q pos ∧ e.f0 ∉ q then q ++ [e.f0] else q) (pos : Int) es (es.length : Int) ((i + 1 : Nat) : Int) n es) r) :
    Ev (fun k => spec_l02Reach.l1 k q (pos : Int) es (es.length : Int) (i : Int) n es) r := by
  have hlt := drop_lt hd
  have b1 := has_ev q e.f1 (by omega)
  have tail : ∀ q' : List Int, pos < q'.length → q'.length ≤ 7 →
      Ev (fun k => spec_l02Reach.l1 k (if e.f1 = rd q' pos ∧ e.f0 ∉ q' then q' ++ [e.f0] else q') (pos : Int) es (es.length : Int) ((i + 1 : Nat) : Int) n es) r →
      Ev (fun k => spec_l02Reach.j3 k q' (pos : Int) es (es.length : Int) (i : Int) n es e.f0 e.f1) r := by
    intro q' hp' hq' h'
    have b2 := has_ev q' e.f0 (by omega)
    refine ev_succ ?_
    simp only [spec_l02Reach.j3, wrap_succ (show i < 4611686018427387904 by omega)]
    refine ev_ift (by omega) (ev_ift (by omega) ?_)
    by_cases c1 : e.f1 = rd q' pos
    · refine ev_ift c1 (Ev.bind b2 ?_)
      by_cases m0 : e.f0 ∈ q'
      · rw [if_neg (fun hh => hh.2 m0)] at h'
        exact ev_ift (by simp [m0]) h'
      · rw [if_pos ⟨c1, m0⟩] at h'
        exact ev_ifn (by simp [m0]) (ev_ift (by omega) h')
    · rw [if_neg (fun hh => c1 hh.1)] at h'
      exact ev_ifn c1 h'
  refine ev_succ ?_
  simp only [spec_l02Reach.l1, rd_IE hd]
  refine ev_ift (by omega) (ev_ift (by omega) (ev_ift (by omega) (ev_ift (by omega) (ev_ift (by omega) ?_))))
  by_cases c0 : e.f0 = rd q pos
  · have c1 : ¬ e.f1 = rd q pos := fun hh => hne (c0.trans hh.symm)
    refine ev_ift c0 (Ev.bind b1 (ev_succ ?_))
    simp only [spec_l02Reach.j2]
    by_cases m1 : e.f1 ∈ q
    · rw [if_neg (fun hh => hh.2 m1), if_neg (fun hh => c1 hh.1)] at h
      refine ev_ifn (by simp [m1]) (tail q hpos (by omega) ?_)
      rw [if_neg (fun hh => c1 hh.1)]
      exact h
    · rw [if_pos ⟨c0, m1⟩] at h
      refine ev_ift (by simp [m1]) (ev_ift (by omega) (tail (q ++ [e.f1]) (by simp; omega) (by simp; omega) ?_))
      rw [get_mem_append hpos, if_neg (fun hh => c1 hh.1)]
      exact h
  · refine ev_ifn c0 (ev_succ ?_)
    simp only [spec_l02Reach.j2]
    rw [if_neg (fun hh => c0 hh.1)] at h
    exact ev_ifn (by simp) (tail q hpos (by omega) h)
def Done (es : List S75) (q : List Int) (pos : Nat) : Prop := ∀ j, j < pos → ∀ e ∈ es, (e.f0 = rd q j → e.f1 ∈ q) ∧ (e.f1 = rd q j → e.f0 ∈ q)
theorem done_add {es : List S75} {q : List Int} {pos : Nat} (h : Done es q pos) (hp : pos ≤ q.length) (v : Int) : Done es (q ++ [v]) pos := by
  intro j hj e he
  rw [get_mem_append (by omega)]
  have := h j hj e he
  exact ⟨fun hh => List.mem_append_left _ (this.1 hh), fun hh => List.mem_append_left _ (this.2 hh)⟩
theorem reach_inner (n : Nat) (hn : n ≤ 6) (es : List S75) (he : ∀ e ∈ es, 0 ≤ e.f0 ∧ e.f0 < e.f1 ∧ e.f1 < n) (hl : es.length < 4611686018427387904) (pos : Nat)
    (next : ∀ q, RInv n es q → Done es q (pos + 1) → pos < q.length → ∃ r, Ev (fun k => spec_l02Reach.l0 k q ((pos + 1 : Nat) : Int) n es) r ∧ RInv n es r ∧ Done es r r.length) :
    ∀ (rest : List S75) (i : Nat) (q : List Int), i ≤ es.length → es.drop i = rest → RInv n es q → Done es q pos → pos < q.length →
      (∀ e ∈ es.take i, (e.f0 = rd q pos → e.f1 ∈ q) ∧ (e.f1 = rd q pos → e.f0 ∈ q)) →
      ∃ r, Ev (fun k => spec_l02Reach.l1 k q (pos : Int) es (es.length : Int) (i : Int) n es) r ∧ RInv n es r ∧ Done es r r.length := by
  intro rest
  induction rest with
  | nil =>
    intro i q hi hd hinv hdone hpos hpart
    have hge := drop_nil hd
    have hlen := rinv_len hinv
    rw [List.take_of_length_le hge] at hpart
    obtain ⟨r, ⟨K, hK⟩, h1, h2⟩ := next q hinv (fun j hj => by
      by_cases e : j = pos
      · subst e; exact hpart
      · exact hdone j (by omega)) hpos
    refine ⟨r, ⟨K + 1, fun k hk => ?_⟩, h1, h2⟩
    obtain ⟨m, rfl⟩ : ∃ m, k = m + 1 := ⟨k - 1, by omega⟩
    have h3 := hK m (by omega)
    dsimp only at h3 ⊢
    simp only [spec_l02Reach.l1]
    rw [if_neg (by omega), wrap_succ (by omega), h3]
  | cons e rest ih =>
    intro i q hi hd hinv hdone hpos hpart
    have hlt := drop_lt hd
    have hmem : e ∈ es := by
      have : e ∈ es.drop i := by rw [hd]; simp
      exact List.mem_of_mem_drop this
    have hb := he e hmem
    have hlen := rinv_len hinv
    have hx : rd q pos ∈ q := by rw [rd_nat q pos hpos]; exact List.getElem_mem _
    have htake : es.take (i + 1) = es.take i ++ [e] := take_drop hd
    have step := reach_step n es q pos i e rest hd (by omega) hpos (by omega) hl
    by_cases c0 : e.f0 = rd q pos ∧ e.f1 ∉ q
    · obtain ⟨r, hr, h1, h2⟩ := ih (i + 1) (q ++ [e.f1]) (by omega) (drop_next hd) (rinv_add hinv hmem hb hx (Or.inl ⟨c0.1.symm, rfl⟩) c0.2) (done_add hdone (by omega) _) (by simp; omega) (fun x hx' => by
        rw [get_mem_append hpos]
        rw [htake] at hx'
        rcases List.mem_append.1 hx' with hx' | hx'
        · have := hpart x hx'
          exact ⟨fun hh => List.mem_append_left _ (this.1 hh), fun hh => List.mem_append_left _ (this.2 hh)⟩
        · simp at hx'
          subst hx'
          exact ⟨fun _ => by simp, fun hh => absurd (c0.1.trans hh.symm) (by omega)⟩)
      refine ⟨r, step r ?_, h1, h2⟩
      simp only [if_pos c0]
      exact hr
    · by_cases c1 : e.f1 = rd q pos ∧ e.f0 ∉ q
      · obtain ⟨r, hr, h1, h2⟩ := ih (i + 1) (q ++ [e.f0]) (by omega) (drop_next hd) (rinv_add hinv hmem hb hx (Or.inr ⟨c1.1.symm, rfl⟩) c1.2) (done_add hdone (by omega) _) (by simp; omega) (fun x hx' => by
          rw [get_mem_append hpos]
          rw [htake] at hx'
          rcases List.mem_append.1 hx' with hx' | hx'
          · have := hpart x hx'
            exact ⟨fun hh => List.mem_append_left _ (this.1 hh), fun hh => List.mem_append_left _ (this.2 hh)⟩
          · simp at hx'
            subst hx'
            exact ⟨fun hh => absurd (hh.trans c1.1.symm) (by omega), fun _ => by simp⟩)
        refine ⟨r, step r ?_, h1, h2⟩
        simp only [if_neg c0, if_pos c1]
        exact hr
      · obtain ⟨r, hr, h1, h2⟩ := ih (i + 1) q (by omega) (drop_next hd) hinv hdone hpos (fun x hx' => by
          rw [htake] at hx'
          rcases List.mem_append.1 hx' with hx' | hx'
          · exact hpart x hx'
          · simp at hx'
            subst hx'
            exact ⟨fun hh => Classical.byContradiction fun hn => c0 ⟨hh, hn⟩, fun hh => Classical.byContradiction fun hn => c1 ⟨hh, hn⟩⟩)
        refine ⟨r, step r ?_, h1, h2⟩
        simp only [if_neg c0, if_neg c1]
        exact hr
theorem reach_ev (n : Nat) (hn0 : 0 < n) (hn : n ≤ 6) (es : List S75) (he : ∀ e ∈ es, 0 ≤ e.f0 ∧ e.f0 < e.f1 ∧ e.f1 < n) (hl : es.length < 4611686018427387904) :
    ∃ r, Ev (fun k => spec_l02Reach.f k n es) r ∧ RInv n es r ∧ Done es r r.length := by
  have main : ∀ (d pos : Nat) (q : List Int), RInv n es q → Done es q pos → pos ≤ q.length → n < pos + d → ∃ r, Ev (fun k => spec_l02Reach.l0 k q (pos : Int) n es) r ∧ RInv n es r ∧ Done es r r.length := by
    intro d
    induction d with
    | zero =>
      intro pos q hinv _ hp hd
      have := rinv_len hinv
      omega
    | succ d ih =>
      intro pos q hinv hdone hp hd
      by_cases hlt : pos < q.length
      · obtain ⟨r, ⟨K, hK⟩, h1, h2⟩ := reach_inner n hn es he hl pos (fun q' h1 h2 h3 => ih (pos + 1) q' h1 h2 (by omega) (by omega)) es 0 q (by omega) rfl hinv hdone hlt (fun e he' => by simp at he')
        refine ⟨r, ⟨K + 1, fun k hk => ?_⟩, h1, h2⟩
        obtain ⟨m, rfl⟩ : ∃ m, k = m + 1 := ⟨k - 1, by omega⟩
        have h3 := hK m (by omega)
        dsimp only at h3 ⊢
        simp only [spec_l02Reach.l0]
        rw [if_pos (by omega)]
        exact h3
      · refine ⟨q, ev1 fun k => ?_, hinv, ?_⟩
        · simp only [spec_l02Reach.l0]
          rw [if_neg (by omega)]
        · have : pos = q.length := by omega
          rw [this] at hdone
          exact hdone
  refine main (n + 1) 0 [0] ⟨by simp, fun v hv => by simp at hv; omega, by simp, fun P h0 _ v hv => by simp at hv; rw [hv]; exact h0⟩ (fun j hj => by omega) (by simp) (by omega)
theorem reach_all (n : Nat) (es : List S75) (r : List Int) (h1 : RInv n es r) (h2 : Done es r r.length) : ((r.length : Int) == n) = true ↔ ConnE n es := by
  have hlen := rinv_len h1
  constructor
  · intro h P h0 hP v hv0 hv
    simp at h
    refine h1.2.2.2 P h0 hP v (Classical.byContradiction fun hno => ?_)
    have := List.Nodup.length_le_of_subset (l₁ := v :: r) (by rw [List.nodup_cons]; exact ⟨hno, h1.1⟩) (l₂ := (List.range n).map fun i : Nat => (i : Int)) (fun u hu => by
      have hb : 0 ≤ u ∧ u < n := by
        rcases List.mem_cons.1 hu with rfl | hu
        · omega
        · exact h1.2.1 u hu
      exact List.mem_map.2 ⟨u.toNat, by simp; omega, by omega⟩)
    simp at this
    omega
  · intro h
    have hall := h (fun v => v ∈ r) h1.2.2.1 (fun e he => by
      constructor
      · intro hm
        obtain ⟨j, hj, hjv⟩ := List.mem_iff_getElem.1 hm
        exact (h2 j hj e he).1 (by rw [rd_nat r j hj]; exact hjv.symm)
      · intro hm
        obtain ⟨j, hj, hjv⟩ := List.mem_iff_getElem.1 hm
        exact (h2 j hj e he).2 (by rw [rd_nat r j hj]; exact hjv.symm))
    have := List.Nodup.length_le_of_subset (l₁ := (List.range n).map fun i : Nat => (i : Int)) (l₂ := r) (by
      refine List.Pairwise.map _ (fun a b hab => ?_) List.nodup_range
      show (a : Int) ≠ b
      omega) (fun v hv => by
      obtain ⟨i, hi, rfl⟩ := List.mem_map.1 hv
      simp at hi
      exact hall _ (by omega) (by omega))
    simp at this ⊢
    omega
theorem spec_graphOk_iff (n : Int) (es : List S75) (hl : es.length < 4611686018427387904) : ∃ b : Bool, Ev (fun k => spec_GraphOk.f k n es) b ∧ (b = true ↔ GraphP n es) := by
  have h1 := spec_edgesOk_ev n es hl
  simp only [spec_GraphOk.f]
  by_cases hb : edgesB n es = true
  · obtain ⟨f1, f2, f3, f4⟩ := edgesB_facts hb
    obtain ⟨m, rfl⟩ : ∃ m : Nat, n = m := ⟨n.toNat, by omega⟩
    obtain ⟨r, hr, r1, r2⟩ := reach_ev m (by omega) (by omega) es f4 hl
    rw [hb] at h1
    have main : ∀ (d i : Nat), i + d = es.length → ∃ b : Bool, Ev (fun k => spec_GraphOk.l0 k es (es.length : Int) (i : Int) m es) b ∧
        (b = true ↔ (∀ j, i ≤ j + 1 → j + 1 < es.length → ¬ ((es.getD (j + 1) z75).f0 < (es.getD j z75).f0 ∨ ((es.getD (j + 1) z75).f0 = (es.getD j z75).f0 ∧ (es.getD (j + 1) z75).f1 < (es.getD j z75).f1))) ∧ ConnE m es) := by
      intro d
      induction d with
      | zero =>
        intro i hi
        obtain ⟨K, hK⟩ := hr
        refine ⟨((r.length : Int) == m), ⟨K + 1, fun k hk => ?_⟩, ?_⟩
        · obtain ⟨p, rfl⟩ : ∃ p, k = p + 1 := ⟨k - 1, by omega⟩
          have h3 := hK p (by omega)
          dsimp only at h3 ⊢
          simp only [spec_GraphOk.l0]
          rw [if_neg (by omega), h3]
          rfl
        · rw [reach_all m es r r1 r2]
          exact ⟨fun h => ⟨fun j h1 h2 => by omega, h⟩, fun h => h.2⟩
      | succ d ih =>
        intro i hi
        obtain ⟨b, hK, hiff⟩ := ih (i + 1) (by omega)
        have stop : Ev (fun k => spec_GraphOk.j1 k es (es.length : Int) (i : Int) true m es) false := ev1 fun k => by simp only [spec_GraphOk.j1, if_true]
        have go : Ev (fun k => spec_GraphOk.j1 k es (es.length : Int) (i : Int) false m es) b := by
          refine ev_succ ?_
          simp only [spec_GraphOk.j1, Bool.false_eq_true, if_false, wrap_succ (show i < 4611686018427387904 by omega)]
          exact hK
        by_cases i0 : i = 0
        · subst i0
          refine ⟨b, ev_succ ?_, ?_⟩
          · simp only [spec_GraphOk.l0]
            exact ev_ift (by omega) (ev_ift (by omega) (ev_ift (by omega) (ev_ifn (by omega) go)))
          · rw [hiff]
            exact ⟨fun h => ⟨fun j _ h2 => h.1 j (by omega) h2, h.2⟩, fun h => ⟨fun j _ h2 => h.1 j (by omega) h2, h.2⟩⟩
        · obtain ⟨p, rfl⟩ : ∃ p, i = p + 1 := ⟨i - 1, by omega⟩
          have ew : wrap64 (((p + 1 : Nat) : Int) - 1) = (p : Int) := by unfold wrap64; omega
          by_cases hc : (es.getD (p + 1) z75).f0 < (es.getD p z75).f0 ∨ ((es.getD (p + 1) z75).f0 = (es.getD p z75).f0 ∧ (es.getD (p + 1) z75).f1 < (es.getD p z75).f1)
          · refine ⟨false, ev_succ ?_, ?_⟩
            · simp only [spec_GraphOk.l0, ew, rdE_nat]
              refine ev_ift (by omega) (ev_ift (by omega) (ev_ift (by omega) (ev_ift (by omega) (ev_ift (by omega) (ev_ift (by omega) ?_)))))
              by_cases c0 : (es.getD (p + 1) z75).f0 < (es.getD p z75).f0
              · exact ev_ift c0 stop
              · have c1 : (es.getD (p + 1) z75).f1 < (es.getD p z75).f1 := by omega
                simp only [decide_eq_true c1]
                exact ev_ifn c0 (ev_ift (by omega) stop)
            · simp only [Bool.false_eq_true, false_iff]
              exact fun h => h.1 p (by omega) (by omega) hc
          · refine ⟨b, ev_succ ?_, ?_⟩
            · simp only [spec_GraphOk.l0, ew, rdE_nat]
              refine ev_ift (by omega) (ev_ift (by omega) (ev_ift (by omega) (ev_ift (by omega) (ev_ift (by omega) (ev_ift (by omega) (ev_ifn (by omega) ?_))))))
              by_cases c0 : (es.getD (p + 1) z75).f0 = (es.getD p z75).f0
              · have c1 : ¬ (es.getD (p + 1) z75).f1 < (es.getD p z75).f1 := by omega
                simp only [decide_eq_false c1]
                exact ev_ift c0 go
              · exact ev_ifn c0 go
            · rw [hiff]
              refine ⟨fun h => ⟨fun j h1 h2 => ?_, h.2⟩, fun h => ⟨fun j _ h2 => h.1 j (by omega) h2, h.2⟩⟩
              by_cases e : j = p
              · subst e; exact hc
              · exact h.1 j (by omega) h2
    obtain ⟨b, hb2, hiff⟩ := main es.length 0 (by omega)
    refine ⟨b, Ev.bind h1 ?_, ?_⟩
    · simp only [if_true]
      exact hb2
    · rw [hiff]
      exact ⟨fun h => ⟨hb, fun i hi => h.1 i (by omega) hi, h.2⟩, fun h => ⟨fun j _ h2 => h.2.1 j h2, h.2.2⟩⟩
  · refine ⟨false, Ev.bind h1 ?_, ?_⟩
    · simp only [hb]
      exact Ev.now _
    · simp only [Bool.false_eq_true, false_iff]
      exact fun h => hb h.1
theorem graphOk_both (n : Int) (es : List S75) (hl : es.length < 4611686018427387904) : ∃ b : Bool, Ev (fun k => impl_GraphOk.f k n es) b ∧ Ev (fun k => spec_GraphOk.f k n es) b ∧ (b = true ↔ GraphP n es) := by
  obtain ⟨b, h1, i1⟩ := impl_graphOk_iff n es hl
  obtain ⟨b', h2, i2⟩ := spec_graphOk_iff n es hl
  have : b' = b := by rw [Bool.eq_iff_iff, i1, i2]
  subst this
  exact ⟨b', h1, h2, i1⟩
theorem within_eq (a b c : Int) : impl_within.f a b c = some (decide (b ≤ a ∧ a ≤ c)) := by
  unfold impl_within.f
  by_cases h : a ≥ b
  · rw [if_pos h]; simp; omega
  · rw [if_neg h]; simp; omega
theorem in_eq (a b c : Int) : spec_l01In.f a b c = some (decide (b ≤ a ∧ a ≤ c)) := by
  unfold spec_l01In.f
  by_cases h : a ≥ b
  · rw [if_pos h]; simp; omega
  · rw [if_neg h]; simp; omega
def ltE (y x : S75) : Prop := y.f0 < x.f0 ∨ (y.f0 = x.f0 ∧ y.f1 < x.f1)
instance (y x : S75) : Decidable (ltE y x) := by unfold ltE; infer_instance
def insE (e : S75) : List S75 → List S75
  | [] => [e]
  | x :: r => if ltE e x then e :: x :: r else x :: insE e r
theorem insE_mem (e x : S75) (es : List S75) : x ∈ insE e es ↔ x = e ∨ x ∈ es := by
  induction es with
  | nil => simp [insE]
  | cons y r ih =>
    simp only [insE]
    split
    · simp
    · simp only [List.mem_cons, ih]
      constructor
      · rintro (h | h | h)
        · exact Or.inr (Or.inl h)
        · exact Or.inl h
        · exact Or.inr (Or.inr h)
      · rintro (h | h | h)
        · exact Or.inr (Or.inl h)
        · exact Or.inl h
        · exact Or.inr (Or.inr h)
theorem insE_len (e : S75) (es : List S75) : (insE e es).length = es.length + 1 := by
  induction es with
  | nil => rfl
  | cons y r ih =>
    simp only [insE]
    split
    · simp
    · simp [ih]
theorem sorted_cons (x : S75) (r : List S75) : SortedE (x :: r) ↔ (∀ y, r.head? = some y → ¬ ltE y x) ∧ SortedE r := by
  constructor
  · intro h
    refine ⟨fun y hy => ?_, fun i hi => ?_⟩
    · cases r with
      | nil => cases hy
      | cons z t =>
        have := h 0 (by simp)
        simp only [List.head?_cons, Option.some.injEq] at hy
        subst hy
        exact this
    · exact h (i + 1) (by simp only [List.length_cons]; omega)
  · rintro ⟨h1, h2⟩ i hi
    cases i with
    | zero =>
      cases r with
      | nil => simp at hi
      | cons z t => exact h1 z rfl
    | succ i => exact h2 i (by simp only [List.length_cons] at hi; omega)
theorem insE_head (e : S75) (es : List S75) (y : S75) (h : (insE e es).head? = some y) : y = e ∨ es.head? = some y := by
  cases es with
  | nil => simp [insE] at h; exact Or.inl h.symm
  | cons x r =>
    simp only [insE] at h
    split at h
    · simp at h; exact Or.inl h.symm
    · simp at h; exact Or.inr (by simp [h])
theorem ltE_asymm {x y : S75} (h : ltE x y) : ¬ ltE y x := by unfold ltE at *; omega
theorem insE_sorted (e : S75) (es : List S75) (h : SortedE es) : SortedE (insE e es) := by
  induction es with
  | nil => intro i hi; simp [insE] at hi
  | cons x r ih =>
    have h' := (sorted_cons x r).1 h
    simp only [insE]
    split
    · rename_i c
      exact (sorted_cons e (x :: r)).2 ⟨fun y hy => by simp at hy; subst hy; exact ltE_asymm c, h⟩
    · rename_i c
      refine (sorted_cons x (insE e r)).2 ⟨fun y hy => ?_, ih h'.2⟩
      rcases insE_head e r y hy with rfl | hy
      · exact c
      · exact h'.1 y hy
theorem insE_graph {n : Int} {es : List S75} {e : S75} (h : GraphP n es) (hl : es.length ≠ 12) (he : 0 ≤ e.f0 ∧ e.f0 < e.f1 ∧ e.f1 < n) : GraphP n (insE e es) := by
  obtain ⟨f1, f2, f3, f4⟩ := edgesB_facts h.1
  refine ⟨?_, insE_sorted e es h.2.1, fun P h0 hP v hv hv' => h.2.2 P h0 (fun x hx => hP x ((insE_mem e x es).2 (Or.inr hx))) v hv hv'⟩
  simp only [edgesB, Bool.and_eq_true, decide_eq_true_eq, List.all_eq_true, insE_len]
  refine ⟨⟨⟨f1, f2⟩, by omega⟩, fun x hx => ?_⟩
  rcases (insE_mem e x es).1 hx with rfl | hx
  · exact ⟨⟨he.1, he.2.1⟩, he.2.2⟩
  · have := f4 x hx
    exact ⟨⟨this.1, this.2.1⟩, this.2.2⟩
theorem specIns_ev (n : Int) (es : List S75) (hl : es.length ≤ 100) (e0 e1 : Int) : Ev (fun k => spec_AddEdge.l0 k false es (es.length : Int) 0 e0 e1 n []) (n, insE ⟨e0, e1⟩ es, true) := by
  have done : ∀ (rest : List S75) (i : Nat) (acc : List S75), es.drop i = rest → i ≤ es.length → acc.length ≤ i + 1 → Ev (fun k => spec_AddEdge.l0 k true es (es.length : Int) (i : Int) e0 e1 n acc) (n, acc ++ rest, true) := by
    intro rest
    induction rest with
    | nil =>
      intro i acc hd hi ha
      have := drop_nil hd
      refine ev_succ ?_
      simp only [spec_AddEdge.l0, if_true, List.append_nil]
      exact ev_ifn (by omega) (Ev.now _)
    | cons x rest ih =>
      intro i acc hd hi ha
      have hlt := drop_lt hd
      have hx : rd_T75 es (i : Int) = x := by unfold rd_T75; rw [Int.toNat_natCast]; exact get_drop hd _
      have h1 := ih (i + 1) (acc ++ [x]) (drop_next hd) (by omega) (by simp; omega)
      rw [List.append_assoc, List.singleton_append] at h1
      refine ev_succ ?_
      simp only [spec_AddEdge.l0, if_true, hx]
      refine ev_ift (by omega) (ev_ift (by omega) (ev_ift (by omega) ?_))
      refine ev_succ ?_
      simp only [spec_AddEdge.j2, wrap_succ (show i < 4611686018427387904 by omega)]
      exact ev_iff (ev_ift (by omega) h1)
  have main : ∀ (rest : List S75) (i : Nat) (acc : List S75), es.drop i = rest → i ≤ es.length → acc.length ≤ i → Ev (fun k => spec_AddEdge.l0 k false es (es.length : Int) (i : Int) e0 e1 n acc) (n, acc ++ insE ⟨e0, e1⟩ rest, true) := by
    intro rest
    induction rest with
    | nil =>
      intro i acc hd hi ha
      have := drop_nil hd
      refine ev_succ ?_
      simp only [spec_AddEdge.l0, insE]
      exact ev_ifn (by omega) (ev_iff (ev_ift (by omega) (Ev.now _)))
    | cons x rest ih =>
      intro i acc hd hi ha
      have hlt := drop_lt hd
      have hx : rd_T75 es (i : Int) = x := by unfold rd_T75; rw [Int.toNat_natCast]; exact get_drop hd _
      refine ev_succ ?_
      simp only [spec_AddEdge.l0, hx]
      refine ev_ift (by omega) (ev_ift (by omega) (ev_ift (by omega) (ev_iff ?_)))
      have no : ¬ ltE ⟨e0, e1⟩ x → Ev (fun k => spec_AddEdge.j2 k false es (es.length : Int) (i : Int) false e0 e1 n acc x.f0 x.f1) (n, acc ++ insE ⟨e0, e1⟩ (x :: rest), true) := fun hc => by
        have h1 := ih (i + 1) (acc ++ [x]) (drop_next hd) (by omega) (by simp; omega)
        rw [List.append_assoc, List.singleton_append] at h1
        simp only [insE, if_neg hc]
        refine ev_succ ?_
        simp only [spec_AddEdge.j2, wrap_succ (show i < 4611686018427387904 by omega)]
        exact ev_iff (ev_ift (by omega) h1)
      have yes : ltE ⟨e0, e1⟩ x → Ev (fun k => spec_AddEdge.j2 k false es (es.length : Int) (i : Int) true e0 e1 n acc x.f0 x.f1) (n, acc ++ insE ⟨e0, e1⟩ (x :: rest), true) := fun hc => by
        have h1 := done rest (i + 1) (acc ++ [⟨e0, e1⟩] ++ [x]) (drop_next hd) (by omega) (by simp; omega)
        simp only [List.append_assoc, List.singleton_append] at h1
        simp only [insE, if_pos hc]
        refine ev_succ ?_
        simp only [spec_AddEdge.j2, wrap_succ (show i < 4611686018427387904 by omega), Option.bind_some, List.append_assoc, List.singleton_append]
        exact ev_ift trivial (ev_ift (by omega) (ev_ift (by simp; omega) h1))
      by_cases c1 : x.f0 > e0
      · exact ev_ift c1 (yes (Or.inl c1))
      · refine ev_ifn c1 ?_
        by_cases c2 : x.f0 = e0
        · refine ev_ift c2 ?_
          by_cases c3 : x.f1 > e1
          · rw [decide_eq_true c3]; exact yes (Or.inr ⟨c2.symm, c3⟩)
          · rw [decide_eq_false c3]; exact no (by rintro (h | h); exact c1 h; exact c3 h.2)
        · exact ev_ifn c2 (no (by rintro (h | h); exact c1 h; exact c2 h.1.symm))
  exact main es 0 [] (by simp) (by omega) (by simp)
theorem specAdd_ev (n : Int) (es : List S75) (a b : Int) (hl : es.length < 4611686018427387904) :
    (GraphP n es ∧ (0 ≤ a ∧ a < n) ∧ (0 ≤ b ∧ b < n) ∧ a ≠ b ∧ es.length ≠ 12 ∧ Ev (fun k => spec_AddEdge.f k n es a b) (n, insE ⟨mn a b, mx a b⟩ es, true) ∧ GraphP n (insE ⟨mn a b, mx a b⟩ es)) ∨
    (¬ (GraphP n es ∧ (0 ≤ a ∧ a < n) ∧ (0 ≤ b ∧ b < n) ∧ a ≠ b ∧ es.length ≠ 12) ∧ Ev (fun k => spec_AddEdge.f k n es a b) (0, [], false)) := by
  have hex : ∃ c : Bool, Ev (fun k => spec_GraphOk.f k n es) c ∧ (c = true ↔ GraphP n es) := by
    exact spec_graphOk_iff n es hl
  obtain ⟨g, h1, hg⟩ := hex
  have off : ∀ q : Bool, q = true → Ev (fun k => spec_AddEdge.j0 k a b q n es) (0, [], false) := fun q hq => ev_succ (by
    simp only [spec_AddEdge.j0]
    exact ev_ift hq (Ev.now _))
  simp only [spec_AddEdge.f, in_eq, Option.bind_some]
  cases g with
  | false => exact Or.inr ⟨(fun h => by have := hg.2 h.1; cases this), Ev.bind h1 (ev_iff (off _ rfl))⟩
  | true =>
    have hG := hg.1 rfl
    obtain ⟨f1, f2, f3, f4⟩ := edgesB_facts hG.1
    have ew : wrap64 (n - 1) = n - 1 := by unfold wrap64; omega
    rw [ew]
    by_cases ha : 0 ≤ a ∧ a ≤ n - 1
    · by_cases hb : 0 ≤ b ∧ b ≤ n - 1
      · rw [decide_eq_true ha, decide_eq_true hb]
        by_cases hab : a = b
        · exact Or.inr ⟨fun h => h.2.2.2.1 hab, Ev.bind h1 (ev_ift rfl (ev_ift rfl (ev_ift rfl (ev_ift hab (off _ rfl)))))⟩
        · by_cases h12 : es.length = 12
          · exact Or.inr ⟨fun h => h.2.2.2.2 h12, Ev.bind h1 (ev_ift rfl (ev_ift rfl (ev_ift rfl (ev_ifn hab (off _ (by simp [h12]))))))⟩
          · refine Or.inl ⟨hG, by omega, by omega, hab, h12, Ev.bind h1 (ev_ift rfl (ev_ift rfl (ev_ift rfl (ev_ifn hab (ev_succ ?_))))), insE_graph hG h12 ?_⟩
            · simp only [spec_AddEdge.j0]
              exact ev_ifn (by simp; omega) (specIns_ev n es (by omega) _ _)
            · show 0 ≤ mn a b ∧ mn a b < mx a b ∧ mx a b < n
              unfold mn mx
              omega
      · rw [decide_eq_true ha, decide_eq_false hb]
        exact Or.inr ⟨fun h => hb (by omega), Ev.bind h1 (ev_ift rfl (ev_ift rfl (ev_iff (off _ rfl))))⟩
    · rw [decide_eq_false ha]
      exact Or.inr ⟨fun h => ha (by omega), Ev.bind h1 (ev_ift rfl (ev_iff (off _ rfl)))⟩
end Go.Proofs.Ytchkndeeaoohpaa.Pure
end
