/- Functions of the program as plain Lean functions and that the machine's calls answer as they do, the words of the print that these use, lemmas and plain proofs of laws. Put together by a program of this work that leaves out what nothing uses; Lean checks it. -/
import Derived.Test.YtnebapnfkolflaaGba58acd38e
import Derived.Test.YtnebapnfkolflaaGe1d48e96ce
import Derived.Test.YtnebapnfkolflaaGb6028519ae
import Derived.Test.YtnebapnfkolflaaGc3b3b645ff
import Derived.Test.YtnebapnfkolflaaG39afe4bd0c
section
namespace Go.Proofs.Ytnebapnfkolflaa.P
open Go.RowKit Go.Proofs.YtnebapnfkolflaaW.PrintWords Go.Proofs.YtnebapnfkolflaaW.PrintLast Go.Proofs.YtnebapnfkolflaaW.PrintMore
attribute [local go_sem] max2_int min2_int max_two min_two max_three min_three max_four min_four
set_option linter.unusedVariables false
set_option linter.unusedSimpArgs false
mutual
def laws_FnExactReducedOf.j0 : Nat → List Int → Int → Int → List (S95) → Option (Bool)
 | 0, _, _, _, _ => none
 | k + 1, x1, x2, x520000, x520001 => (laws_szGraph.f x520000 x520001 1048576).bind fun t520 => (if t520 < 0 then (some true) else (laws_FnExactReducedOf.j1 k x1 x2 x520000 x520001))
def laws_FnExactReducedOf.j1 : Nat → List Int → Int → Int → List (S95) → Option (Bool)
 | 0, _, _, _, _ => none
 | k + 1, x1, x2, x520000, x520001 => (laws_toGraph.f k x520000 x520001).bind fun bt521 => ((laws_toIntS.f k x1).bind fun t525 => ((spec_ReducedOf.f k bt521.1 bt521.2 t525 x2).bind fun bt528 => ((laws_toGraph.f k x520000 x520001).bind fun bt532 => ((laws_toIntS.f k x1).bind fun t537 => ((impl_ReducedOf.f k bt532.1 bt532.2 t537 x2).bind fun bt540 => ((laws_eqIntS.f k bt540.1 bt528.1).bind fun t544 => (if t544 = true then (laws_FnExactReducedOf.j2 k x1 x2 bt528.1 bt528.2 t537 bt540.1 bt540.2 (bt540.2 != bt528.2) x520000 x520001 bt532.1 bt532.2) else (laws_FnExactReducedOf.j2 k x1 x2 bt528.1 bt528.2 t537 bt540.1 bt540.2 true x520000 x520001 bt532.1 bt532.2))))))))
def laws_FnExactReducedOf.j2 : Nat → List Int → Int → List Int → Bool → List Int → List Int → Bool → Bool → Int → List (S95) → Int → List (S70) → Option (Bool)
 | 0, _, _, _, _, _, _, _, _, _, _, _, _ => none
 | k + 1, x1, x2, x8, x9, x11, x12, x13, x55, x520000, x520001, x537000, x537001 => if x55 = true then (some false) else (laws_FnExactReducedOf.j3 k x1 x2 x8 x9 x11 x12 x13 x520000 x520001 x537000 x537001)
def laws_FnExactReducedOf.j3 : Nat → List Int → Int → List Int → Bool → List Int → List Int → Bool → Int → List (S95) → Int → List (S70) → Option (Bool)
 | 0, _, _, _, _, _, _, _, _, _, _, _ => none
 | k + 1, x1, x2, x8, x9, x11, x12, x13, x520000, x520001, x537000, x537001 => (laws_toGraph.f k x520000 x520001).bind fun bt545 => ((laws_eqGraph.f k x537000 x537001 bt545.1 bt545.2).bind fun t549 => (if t549 = true then (laws_FnExactReducedOf.j4 k x1 x2 x8 x9 x11 x12 x13 x520000 x520001 x537000 x537001) else (some false)))
def laws_FnExactReducedOf.j4 : Nat → List Int → Int → List Int → Bool → List Int → List Int → Bool → Int → List (S95) → Int → List (S70) → Option (Bool)
 | 0, _, _, _, _, _, _, _, _, _, _, _ => none
 | k + 1, x1, x2, x8, x9, x11, x12, x13, x520000, x520001, x537000, x537001 => (laws_toIntS.f k x1).bind fun t550 => ((laws_eqIntS.f k x11 t550).bind fun t553 => (if t553 = true then (laws_FnExactReducedOf.j5 k x1 x2 x8 x9 x11 x12 x13 x520000 x520001 x537000 x537001) else (some false)))
def laws_FnExactReducedOf.j5 : Nat → List Int → Int → List Int → Bool → List Int → List Int → Bool → Int → List (S95) → Int → List (S70) → Option (Bool)
 | 0, _, _, _, _, _, _, _, _, _, _, _ => none
 | k + 1, x1, x2, x8, x9, x11, x12, x13, x520000, x520001, x537000, x537001 => (laws_markGraph.f k x537000 x537001 1).bind fun bt554 => ((laws_markIntS.f k x11 bt554.1).bind fun bt556 => (if bt556.1 < 0 then (laws_FnExactReducedOf.j6 k x1 x2 x8 x9 x12 true x520000 x520001) else ((laws_eqIntS.f k x12 x8).bind fun t558 => (if t558 = true then (laws_FnExactReducedOf.j6 k x1 x2 x8 x9 x12 (x13 != x9) x520000 x520001) else (laws_FnExactReducedOf.j6 k x1 x2 x8 x9 x12 true x520000 x520001)))))
def laws_FnExactReducedOf.j6 : Nat → List Int → Int → List Int → Bool → List Int → Bool → Int → List (S95) → Option (Bool)
 | 0, _, _, _, _, _, _, _, _ => none
 | k + 1, x1, x2, x8, x9, x12, x84, x520000, x520001 => if x84 = true then (some false) else (laws_FnExactReducedOf.j7 k x1 x2 x8 x9 x12 x520000 x520001)
def laws_FnExactReducedOf.j7 : Nat → List Int → Int → List Int → Bool → List Int → Int → List (S95) → Option (Bool)
 | 0, _, _, _, _, _, _, _ => none
 | k + 1, x1, x2, x8, x9, x12, x520000, x520001 => (laws_markIntS.f k x12 1).bind fun bt559 => ((laws_heldIntS.f k bt559.2 1).bind fun t561 => (if t561 < 0 then (some false) else (laws_FnExactReducedOf.j8 k x1 x2 x8 x9 bt559.2 bt559.1 t561 x520000 x520001)))
def laws_FnExactReducedOf.j8 : Nat → List Int → Int → List Int → Bool → List Int → Int → Int → Int → List (S95) → Option (Bool)
 | 0, _, _, _, _, _, _, _, _, _ => none
 | k + 1, x1, x2, x8, x9, x12, x15, x16, x520000, x520001 => if x16 = x15 then (laws_FnExactReducedOf.j9 k x1 x2 x8 x9 x12 x15 x520000 x520001) else (some false)
def laws_FnExactReducedOf.j9 : Nat → List Int → Int → List Int → Bool → List Int → Int → Int → List (S95) → Option (Bool)
 | 0, _, _, _, _, _, _, _, _ => none
 | k + 1, x1, x2, x8, x9, x12, x15, x520000, x520001 => (laws_toGraph.f k x520000 x520001).bind fun bt562 => ((laws_toIntS.f k x1).bind fun t566 => ((impl_ReducedOf.f k bt562.1 bt562.2 t566 x2).bind fun bt569 => ((laws_eqIntS.f k bt569.1 x8).bind fun t573 => (if t573 = true then (laws_FnExactReducedOf.j10 k x12 x15 (bt569.2 != x9)) else (laws_FnExactReducedOf.j10 k x12 x15 true)))))
def laws_FnExactReducedOf.j10 : Nat → List Int → Int → Bool → Option (Bool)
 | 0, _, _, _ => none
 | k + 1, x12, x15, x113 => if x113 = true then (some false) else (laws_FnExactReducedOf.j11 k x12 x15)
def laws_FnExactReducedOf.j11 : Nat → List Int → Int → Option (Bool)
 | 0, _, _ => none
 | k + 1, x12, x15 => (laws_heldIntS.f k x12 1).bind fun t574 => (if t574 < 0 then (some false) else (laws_FnExactReducedOf.j12 k x15 t574))
def laws_FnExactReducedOf.j12 : Nat → Int → Int → Option (Bool)
 | 0, _, _ => none
 | k + 1, x15, x16 => if x16 = x15 then (some true) else (some false)
end
def laws_FnExactReducedOf.f (k : Nat) (a0_0 : Int) (l0_1 : List (S95)) (l1 : List Int) (a2 : Int) : Option (Bool) := if (l1.length : Int) > 1048576 then (some true) else (laws_FnExactReducedOf.j0 k l1 a2 a0_0 l0_1)
set_option maxHeartbeats 8000000 in
set_option maxRecDepth 100000 in
theorem laws_FnExactReducedOf.calls (k : Nat) (a0_0 : Int) (A0_1 : Option Addr) (c0_1 : Nat) (l0_1 : List (S95)) (A1 : Option Addr) (c1 : Nat) (l1 : List Int) (a2 : Int) (r : Bool) (w : World) (hr0_1 : Kd.C k95 w A0_1 l0_1.length l0_1) (hc0_1 : l0_1.length ≤ c0_1) (hr1 : Kd.C (Kd.int .i64) w A1 l1.length l1) (hc1 : l1.length ≤ c1) (h : laws_FnExactReducedOf.f k a0_0 l0_1 l1 a2 = some r) :
  Calls Try.prog 10 #[.agg #[.int .i64 a0_0, .slice A0_1 l0_1.length c0_1], .slice A1 l1.length c1, .int .i64 a2] w fun e w' => e = .returned (.bool r) ∧ Below w.heap.size w w' := by
 have hu37 := Try.underlying37
 have hu25 := Try.underlying25
 have HR0_1 := Aside0.mk hr0_1
 have HC0_1 := Aside0.mk hc0_1
 clear hr0_1 hc0_1
 have HR1 := Aside0.mk hr1
 have HC1 := Aside0.mk hc1
 clear hr1 hc1
 have HB := Aside0.mk (Below.refl w.heap.size w)
 have H : (if (l1.length : Int) > 1048576 then (some true) else (laws_FnExactReducedOf.j0 k l1 a2 a0_0 l0_1)) = some r := h
 clear h
 have HC4 := Aside0.mk H
 clear H
 go_enter Try.func10, Try.ntmps10
 go_upto_if 21 with (first | ((with_reducible refine gate_dst (N := 3) rfl ?_); refine box_event ?hg (N := 3) ?hd (cs := #[.int .i64 a0_0, .slice A0_1 l0_1.length c0_1]) (t := 37) ?hr ?_; (case hd => rfl); (case hg => rfl); (case hr => first | (go_simp; done) | (go_simp; rfl)); intro gb519 hg w5 hbox hb; have BK519 := Aside0.mk (hbox); have GW519 := Aside0.mk ((by rw [hg]; exact (below_size (Lz HB)) : w.heap.size ≤ gb519)); have GE519 := Aside0.mk ((by rw [hg]; exact (below_size (Lz HB)) : w.heap.size ≤ gb519)); replace HB := Aside0.mk (below_step (Lz HB) hb); clear hb hbox hg))
 (try simp only [Act.put, List.setIfInBounds_toArray, List.set_cons_zero, List.set_cons_succ])
 go_cut [] (fun wc => ∃ (kq : Nat), Aside0 (laws_FnExactReducedOf.j0 kq l1 a2 a0_0 l0_1 = some r) ∧ Aside0 (kq ≤ k) ∧ Aside0 (wc.heap[gb519]? = some (.cells #[.int .i64 a0_0, (.slice A0_1 l0_1.length c0_1)] 37 (0, 0))) ∧ Aside0 (Below w.heap.size w wc))
 case first =>
  have H := HC4.out
  clear HC4
  by_cases c6 : (l1.length : Int) > 1048576
  ·rw [if_pos c6] at H
   have c6b0 : decide (1048576 < (l1.length : Int)) = true := decide_eq_true c6
   (try simp only [hl537001_58, hl12_74] at c6b0)
   have c6b1 : decide (1048576 < l1.length) = true := decide_eq_true (by omega)
   (try simp only [hl537001_58, hl12_74] at c6b1)
   clear c6
   (first | rw [c6b0] | (simp only [i64_w, i32_w]; rw [c6b0]) | skip)
   obtain rfl := Option.some.inj H
   go_wp2
   go_ret
   exact ⟨by first | rfl | (simp [errW_none, errW_some] <;> rfl) | (simp [*, errW_none, errW_some] <;> rfl), by exact Lz1 HB GE519⟩
  rw [if_neg c6] at H
  have c6b0 : decide (1048576 < (l1.length : Int)) = false := decide_eq_false c6
  (try simp only [hl537001_58, hl12_74] at c6b0)
  have c6b1 : decide (1048576 < l1.length) = false := decide_eq_false (by omega)
  (try simp only [hl537001_58, hl12_74] at c6b1)
  clear c6
  (first | rw [c6b0] | (simp only [i64_w, i32_w]; rw [c6b0]) | skip)
  have H' := Aside0.mk H
  clear H
  go_wp2
  go_meet
  case rel => exact ⟨_, H', ⟨by first | omega | exact Nat.le_refl _⟩, ⟨by exact Bz BK519⟩, ⟨by exact Lz1 HB GE519⟩⟩
 case rest =>
  clear HC4
  try clear c1
  try clear c6
  try clear c6b0
  try clear c6b1
  obtain ⟨kq, HA, HJ3, BK519, HB⟩ := hcut
  cases kq with
  | zero => exact absurd HA.out (by simp [laws_FnExactReducedOf.j0])
  | succ kj3 =>
   have H := HA.out
   clear HA
   simp only [laws_FnExactReducedOf.j0] at H
   replace H := Option.bind_eq_some_iff.mp H
   obtain ⟨t520, A70, H⟩ := H
   replace H : (if t520 < 0 then (some true) else (laws_FnExactReducedOf.j1 kj3 l1 a2 a0_0 l0_1)) = some r := H
   have A7 := Aside0.mk A70
   clear A70
   have HC8 := Aside0.mk H
   clear H
   have hcz9_0 : wc.cell? ⟨gb519, 0, none⟩ = some (.int .i64 a0_0) := (blk_cell BK519.out 0).trans rfl
   have hcz9_1 : wc.cell? ⟨gb519, 1, none⟩ = some (.slice A0_1 l0_1.length c0_1) := (blk_cell BK519.out 1).trans rfl
   have hfz9_0 := blk_frozen BK519.out 0
   have hfz9_1 := blk_frozen BK519.out 1
   go_upto_if 26 with (first | ((with_reducible refine gate_callee (f := 23) rfl ?_); refine goesM_ (some 24) rfl rfl Try.func23 (by kernel_rfl) rfl #[.agg #[.int .i64 a0_0, .slice A0_1 l0_1.length c0_1], .int .i64 1048576] rfl ?_; (with_reducible refine (laws_szGraph.calls a0_0 _ _ l0_1 1048576 t520 _ ?side1 ?side2 A7.out).mono ?_); (case side1 => exact Cz ((Kd.C_below HR0_1.out HB.out))); (case side2 => exact HC0_1.out); rintro e w10 ⟨rfl, hb⟩; refine ⟨_, rfl, ?_⟩; replace BK519 := Aside0.mk (blk_below (g := gb519) (o := .cells #[.int .i64 a0_0, .slice A0_1 l0_1.length c0_1] 37 (0, 0)) (Bz BK519) hb); replace HB := Aside0.mk (below_step (by exact Lz1 HB GE519) hb); (try clear hb); (try clear hb2); (try clear hk); (try clear hi)))
   (try simp only [Act.put, List.setIfInBounds_toArray, List.set_cons_zero, List.set_cons_succ])
   go_cut [] (fun wc => ∃ (kq : Nat), Aside0 (laws_FnExactReducedOf.j1 kq l1 a2 a0_0 l0_1 = some r) ∧ Aside0 (kq ≤ kj3) ∧ Aside0 (wc.heap[gb519]? = some (.cells #[.int .i64 a0_0, (.slice A0_1 l0_1.length c0_1)] 37 (0, 0))) ∧ Aside0 (Below w.heap.size w wc))
   case first =>
    have H := HC8.out
    clear HC8
    by_cases c11 : t520 < 0
    ·rw [if_pos c11] at H
     have c11b0 : decide (t520 < 0) = true := decide_eq_true c11
     clear c11
     (first | rw [c11b0] | (simp only [i64_w, i32_w]; rw [c11b0]) | skip)
     obtain rfl := Option.some.inj H
     go_wp2
     go_ret
     exact ⟨by first | rfl | (simp [errW_none, errW_some] <;> rfl) | (simp [*, errW_none, errW_some] <;> rfl), by exact Lz1 HB GE519⟩
    rw [if_neg c11] at H
    have c11b0 : decide (t520 < 0) = false := decide_eq_false c11
    clear c11
    (first | rw [c11b0] | (simp only [i64_w, i32_w]; rw [c11b0]) | skip)
    have H' := Aside0.mk H
    clear H
    go_wp2
    go_meet
    case rel => exact ⟨_, H', ⟨by have := HJ3.out; first | omega | exact Nat.le_refl _⟩, ⟨by exact Bz BK519⟩, ⟨by exact Lz1 HB GE519⟩⟩
   case rest =>
    clear HC8
    try clear c1
    try clear c6
    try clear c6b0
    try clear c6b1
    try clear c11
    try clear c11b0
    obtain ⟨kq, HA, HJ7, BK519, HB⟩ := hcut
    cases kq with
    | zero => exact absurd HA.out (by simp [laws_FnExactReducedOf.j1])
    | succ kj7 =>
     have H := HA.out
     clear HA
     simp only [laws_FnExactReducedOf.j1] at H
     replace H := Option.bind_eq_some_iff.mp H
     obtain ⟨⟨t521, t522⟩, A120, H⟩ := H
     replace H : ((laws_toIntS.f kj7 l1).bind fun t525 => ((spec_ReducedOf.f kj7 t521 t522 t525 a2).bind fun bt528 => ((laws_toGraph.f kj7 a0_0 l0_1).bind fun bt532 => ((laws_toIntS.f kj7 l1).bind fun t537 => ((impl_ReducedOf.f kj7 bt532.1 bt532.2 t537 a2).bind fun bt540 => ((laws_eqIntS.f kj7 bt540.1 bt528.1).bind fun t544 => (if t544 = true then (laws_FnExactReducedOf.j2 kj7 l1 a2 bt528.1 bt528.2 t537 bt540.1 bt540.2 (bt540.2 != bt528.2) a0_0 l0_1 bt532.1 bt532.2) else (laws_FnExactReducedOf.j2 kj7 l1 a2 bt528.1 bt528.2 t537 bt540.1 bt540.2 true a0_0 l0_1 bt532.1 bt532.2)))))))) = some r := H
     have A12 := Aside0.mk A120
     clear A120
     replace H := Option.bind_eq_some_iff.mp H
     obtain ⟨t525, A130, H⟩ := H
     replace H : ((spec_ReducedOf.f kj7 t521 t522 t525 a2).bind fun bt528 => ((laws_toGraph.f kj7 a0_0 l0_1).bind fun bt532 => ((laws_toIntS.f kj7 l1).bind fun t537 => ((impl_ReducedOf.f kj7 bt532.1 bt532.2 t537 a2).bind fun bt540 => ((laws_eqIntS.f kj7 bt540.1 bt528.1).bind fun t544 => (if t544 = true then (laws_FnExactReducedOf.j2 kj7 l1 a2 bt528.1 bt528.2 t537 bt540.1 bt540.2 (bt540.2 != bt528.2) a0_0 l0_1 bt532.1 bt532.2) else (laws_FnExactReducedOf.j2 kj7 l1 a2 bt528.1 bt528.2 t537 bt540.1 bt540.2 true a0_0 l0_1 bt532.1 bt532.2))))))) = some r := H
     have A13 := Aside0.mk A130
     clear A130
     replace H := Option.bind_eq_some_iff.mp H
     obtain ⟨⟨t528, t531⟩, A140, H⟩ := H
     replace H : ((laws_toGraph.f kj7 a0_0 l0_1).bind fun bt532 => ((laws_toIntS.f kj7 l1).bind fun t537 => ((impl_ReducedOf.f kj7 bt532.1 bt532.2 t537 a2).bind fun bt540 => ((laws_eqIntS.f kj7 bt540.1 t528).bind fun t544 => (if t544 = true then (laws_FnExactReducedOf.j2 kj7 l1 a2 t528 t531 t537 bt540.1 bt540.2 (bt540.2 != t531) a0_0 l0_1 bt532.1 bt532.2) else (laws_FnExactReducedOf.j2 kj7 l1 a2 t528 t531 t537 bt540.1 bt540.2 true a0_0 l0_1 bt532.1 bt532.2)))))) = some r := H
     have A14 := Aside0.mk A140
     clear A140
     replace H := Option.bind_eq_some_iff.mp H
     obtain ⟨⟨t532, t533⟩, A150, H⟩ := H
     replace H : ((laws_toIntS.f kj7 l1).bind fun t537 => ((impl_ReducedOf.f kj7 t532 t533 t537 a2).bind fun bt540 => ((laws_eqIntS.f kj7 bt540.1 t528).bind fun t544 => (if t544 = true then (laws_FnExactReducedOf.j2 kj7 l1 a2 t528 t531 t537 bt540.1 bt540.2 (bt540.2 != t531) a0_0 l0_1 t532 t533) else (laws_FnExactReducedOf.j2 kj7 l1 a2 t528 t531 t537 bt540.1 bt540.2 true a0_0 l0_1 t532 t533))))) = some r := H
     have A15 := Aside0.mk A150
     clear A150
     replace H := Option.bind_eq_some_iff.mp H
     obtain ⟨t537, A160, H⟩ := H
     replace H : ((impl_ReducedOf.f kj7 t532 t533 t537 a2).bind fun bt540 => ((laws_eqIntS.f kj7 bt540.1 t528).bind fun t544 => (if t544 = true then (laws_FnExactReducedOf.j2 kj7 l1 a2 t528 t531 t537 bt540.1 bt540.2 (bt540.2 != t531) a0_0 l0_1 t532 t533) else (laws_FnExactReducedOf.j2 kj7 l1 a2 t528 t531 t537 bt540.1 bt540.2 true a0_0 l0_1 t532 t533)))) = some r := H
     have A16 := Aside0.mk A160
     clear A160
     replace H := Option.bind_eq_some_iff.mp H
     obtain ⟨⟨t540, t543⟩, A170, H⟩ := H
     replace H : ((laws_eqIntS.f kj7 t540 t528).bind fun t544 => (if t544 = true then (laws_FnExactReducedOf.j2 kj7 l1 a2 t528 t531 t537 t540 t543 (t543 != t531) a0_0 l0_1 t532 t533) else (laws_FnExactReducedOf.j2 kj7 l1 a2 t528 t531 t537 t540 t543 true a0_0 l0_1 t532 t533))) = some r := H
     have A17 := Aside0.mk A170
     clear A170
     have HC18 := Aside0.mk H
     clear H
     have hcz19_0 : wc.cell? ⟨gb519, 0, none⟩ = some (.int .i64 a0_0) := (blk_cell BK519.out 0).trans rfl
     have hcz19_1 : wc.cell? ⟨gb519, 1, none⟩ = some (.slice A0_1 l0_1.length c0_1) := (blk_cell BK519.out 1).trans rfl
     have hfz19_0 := blk_frozen BK519.out 0
     have hfz19_1 := blk_frozen BK519.out 1
     go_upto_region 11 with (first | ((with_reducible refine gate_callee (f := 25) rfl ?_); refine goesM_ (some 29) rfl rfl Try.func25 (by kernel_rfl) rfl #[.agg #[.int .i64 a0_0, .slice A0_1 l0_1.length c0_1]] rfl ?_; (with_reducible refine (laws_toGraph.calls kj7 a0_0 _ _ l0_1 t521 t522 _ ?side1 ?side2 A12.out).mono ?_); (case side1 => exact Cz ((Kd.C_below HR0_1.out HB.out))); (case side2 => exact HC0_1.out); rintro e w20 ⟨v523, rfl, ho0, hb⟩; refine ⟨_, rfl, ?_⟩; have HO524 := Aside0.mk (Kd.R_lower ho0 (below_size (by exact Lz1 HB GE519))); replace BK519 := Aside0.mk (blk_below (g := gb519) (o := .cells #[.int .i64 a0_0, .slice A0_1 l0_1.length c0_1] 37 (0, 0)) (Bz BK519) hb); replace HB := Aside0.mk (below_step (by exact Lz1 HB GE519) hb); (try clear hb); (try clear ho0)) | ((with_reducible refine gate_callee (f := 26) rfl ?_); refine goesM_ (some 31) rfl rfl Try.func26 (by kernel_rfl) rfl #[.slice A1 l1.length c1] rfl ?_; (with_reducible refine (laws_toIntS.calls kj7 _ _ l1 t525 _ ?side1 ?side2 A13.out).mono ?_); (case side1 => exact Cz ((Kd.C_below HR1.out HB.out))); (case side2 => exact HC1.out); rintro e w21 ⟨v526, rfl, ho0, hb⟩; refine ⟨_, rfl, ?_⟩; replace HO524 := Aside0.mk (Kd.R_below (Rz HO524) hb); have HO527 := Aside0.mk (Kd.R_lower ho0 (below_size (by exact Lz1 HB GE519))); replace BK519 := Aside0.mk (blk_below (g := gb519) (o := .cells #[.int .i64 a0_0, .slice A0_1 l0_1.length c0_1] 37 (0, 0)) (Bz BK519) hb); replace HB := Aside0.mk (below_step (by exact Lz1 HB GE519) hb); (try clear hb); (try clear ho0); obtain ⟨Ao22, co22, eo22⟩ := Kd.R_slice HO524.out; subst eo22; obtain ⟨Ao23, co23, eo23⟩ := Kd.R_slice HO527.out; subst eo23) | ((with_reducible refine gate_callee (f := 41) rfl ?_); refine goesM_ (some 33) rfl rfl Try.func41 (by kernel_rfl) rfl #[.agg #[.int .i64 t521, .slice Ao22 t522.length co22], .slice Ao23 t525.length co23, .int .i64 a2] rfl ?_; (with_reducible refine (spec_ReducedOf.calls kj7 t521 _ _ t522 _ _ t525 a2 t528 t531 _ ?side1 ?side2 ?side3 ?side4 A14.out).mono ?_); (case side1 => exact Cz ((Kd.R_reads' HO524.out).2.2)); (case side2 => exact (Kd.R_reads' HO524.out).2.1); (case side3 => exact Cz ((Kd.R_reads' HO527.out).2.2)); (case side4 => exact (Kd.R_reads' HO527.out).2.1); rintro e w24 ⟨v529, rfl, ho0, hb⟩; refine ⟨_, rfl, ?_⟩; replace HO524 := Aside0.mk (Kd.R_below (Rz HO524) hb); have HO530 := Aside0.mk (Kd.R_lower (Kd.R_new' ho0 (Kd.R_lt (Rz HO527))) (below_size (by exact Lz1 HB GE519))); replace HO527 := Aside0.mk (Kd.R_elder' (Rz HO527) (Kd.R_base ho0) hb); replace BK519 := Aside0.mk (blk_below (g := gb519) (o := .cells #[.int .i64 a0_0, .slice A0_1 l0_1.length c0_1] 37 (0, 0)) (Bz BK519) hb); replace HB := Aside0.mk (below_step (by exact Lz1 HB GE519) hb); (try clear hb); (try clear ho0); have hcz25_0 : w24.cell? ⟨gb519, 0, none⟩ = some (.int .i64 a0_0) := (blk_cell BK519.out 0).trans rfl; have hcz25_1 : w24.cell? ⟨gb519, 1, none⟩ = some (.slice A0_1 l0_1.length c0_1) := (blk_cell BK519.out 1).trans rfl; have hfz25_0 := blk_frozen BK519.out 0; have hfz25_1 := blk_frozen BK519.out 1) | ((with_reducible refine gate_callee (f := 25) rfl ?_); refine goesM_ (some 37) rfl rfl Try.func25 (by kernel_rfl) rfl #[.agg #[.int .i64 a0_0, .slice A0_1 l0_1.length c0_1]] rfl ?_; (with_reducible refine (laws_toGraph.calls kj7 a0_0 _ _ l0_1 t532 t533 _ ?side1 ?side2 A15.out).mono ?_); (case side1 => exact Cz ((Kd.C_below HR0_1.out HB.out))); (case side2 => exact HC0_1.out); rintro e w26 ⟨v534, rfl, ho0, hb⟩; refine ⟨_, rfl, ?_⟩; replace HO527 := Aside0.mk (Kd.R_below (Rz HO527) hb); replace HO530 := Aside0.mk (Kd.R_below (Rz HO530) hb); have HO535 := Aside0.mk (Kd.R_lower (Kd.R_new' ho0 (Kd.R_lt (Rz HO524))) (below_size (by exact Lz1 HB GE519))); replace HO524 := Aside0.mk (Kd.R_elder' (Rz HO524) (Kd.R_base ho0) hb); replace BK519 := Aside0.mk (blk_below (g := gb519) (o := .cells #[.int .i64 a0_0, .slice A0_1 l0_1.length c0_1] 37 (0, 0)) (Bz BK519) hb); replace HB := Aside0.mk (below_step (by exact Lz1 HB GE519) hb); (try clear hb); (try clear ho0)) | ((with_reducible refine gate_dst (N := 10) rfl ?_); refine box_event ?hg (N := 10) ?hd (cs := #[.int .i64 0, .slice none 0 0]) (t := 25) ?hr ?_; (case hd => rfl); (case hg => rfl); (case hr => first | (go_simp; done) | (go_simp; rfl)); intro gb536 hg w27 hbox hb; replace HO524 := Aside0.mk (Kd.R_below (Rz HO524) hb); replace HO527 := Aside0.mk (Kd.R_below (Rz HO527) hb); replace HO530 := Aside0.mk (Kd.R_below (Rz HO530) hb); replace HO535 := Aside0.mk (Kd.R_below (Rz HO535) hb); have BK536 := Aside0.mk (hbox); have GW536 := Aside0.mk ((by rw [hg]; exact (below_size (by exact Lz1 HB GE519)) : w.heap.size ≤ gb536)); have GE536 := Aside0.mk ((by rw [hg]; exact (below_size (by exact Lz1 HB GE519)) : w.heap.size ≤ gb536)); replace HB := Aside0.mk (below_step (by exact Lz1 HB GE519) hb); have NB519_536 := Aside0.mk ((by rw [hg]; exact Nat.ne_of_lt (blk_lt (g := gb519) (o := .cells #[.int .i64 a0_0, .slice A0_1 l0_1.length c0_1] 37 (0, 0)) (Bz BK519)) : gb519 ≠ gb536)); have NB536_519 := Aside0.mk ((by rw [hg]; exact Nat.ne_of_gt (blk_lt (g := gb519) (o := .cells #[.int .i64 a0_0, .slice A0_1 l0_1.length c0_1] 37 (0, 0)) (Bz BK519)) : gb536 ≠ gb519)); replace BK519 := Aside0.mk (blk_below (g := gb519) (o := .cells #[.int .i64 a0_0, .slice A0_1 l0_1.length c0_1] 37 (0, 0)) (Bz BK519) hb); clear hb hbox hg; have hnb28 := NB536_519.out; have hnc28 := NB519_536.out; have hcz29_0 : w27.cell? ⟨gb536, 0, none⟩ = some (.int .i64 0) := (blk_cell BK536.out 0).trans rfl; have hcz29_1 : w27.cell? ⟨gb536, 1, none⟩ = some (.slice none 0 0) := (blk_cell BK536.out 1).trans rfl; have hfz29_0 := blk_frozen BK536.out 0; have hfz29_1 := blk_frozen BK536.out 1; obtain ⟨Ao30, co30, eo30⟩ := Kd.R_slice HO535.out; subst eo30) | ((with_reducible refine gate_callee (f := 26) rfl ?_); refine goesM_ (some 39) rfl rfl Try.func26 (by kernel_rfl) rfl #[.slice A1 l1.length c1] rfl ?_; (with_reducible refine (laws_toIntS.calls kj7 _ _ l1 t537 _ ?side1 ?side2 A16.out).mono ?_); (case side1 => exact Kd.C_below HR1.out (by exact Lz2 HB GE519 GE536)); (case side2 => exact HC1.out); rintro e w31 ⟨v538, rfl, ho0, hb⟩; refine ⟨_, rfl, ?_⟩; replace HO524 := Aside0.mk (Kd.R_below (by (with_reducible repeat (first | apply Kd.R_alloc | apply Kd.R_drewN | apply Kd.R_drew)); exact (Kd.R_mono (Kd.R_far (p := ⟨gb536, 1, none⟩) (Kd.R_far (p := ⟨gb536, 0, none⟩) (Kd.R_types HO524.out BK536.out (by decide)) (fun _ hk => hk.2) (.int .i64 t532)) (fun _ hk => hk.2) (.slice Ao30 t533.length co30)) (fun _ h_ => h_.1))) hb); replace HO535 := Aside0.mk (Kd.R_below (by (with_reducible repeat (first | apply Kd.R_alloc | apply Kd.R_drewN | apply Kd.R_drew)); exact (Kd.R_mono (Kd.R_far (p := ⟨gb536, 1, none⟩) (Kd.R_far (p := ⟨gb536, 0, none⟩) (Kd.R_types HO535.out BK536.out (by decide)) (fun _ hk => hk.2) (.int .i64 t532)) (fun _ hk => hk.2) (.slice Ao30 t533.length co30)) (fun _ h_ => h_.1))) hb); have HO539 := Aside0.mk (Kd.R_lower (Kd.R_new' (Kd.R_new' ho0 (Kd.R_lt (by (with_reducible repeat (first | apply Kd.R_alloc | apply Kd.R_drewN | apply Kd.R_drew)); exact (Kd.R_mono (Kd.R_far (p := ⟨gb536, 1, none⟩) (Kd.R_far (p := ⟨gb536, 0, none⟩) (Kd.R_types HO527.out BK536.out (by decide)) (fun _ hk => hk.2) (.int .i64 t532)) (fun _ hk => hk.2) (.slice Ao30 t533.length co30)) (fun _ h_ => h_.1))))) (Kd.R_lt (by (with_reducible repeat (first | apply Kd.R_alloc | apply Kd.R_drewN | apply Kd.R_drew)); exact (Kd.R_mono (Kd.R_far (p := ⟨gb536, 1, none⟩) (Kd.R_far (p := ⟨gb536, 0, none⟩) (Kd.R_types HO530.out BK536.out (by decide)) (fun _ hk => hk.2) (.int .i64 t532)) (fun _ hk => hk.2) (.slice Ao30 t533.length co30)) (fun _ h_ => h_.1))))) (below_size (by exact Lz2 HB GE519 GE536))); replace HO527 := Aside0.mk (Kd.R_elder' (by (with_reducible repeat (first | apply Kd.R_alloc | apply Kd.R_drewN | apply Kd.R_drew)); exact (Kd.R_mono (Kd.R_far (p := ⟨gb536, 1, none⟩) (Kd.R_far (p := ⟨gb536, 0, none⟩) (Kd.R_types HO527.out BK536.out (by decide)) (fun _ hk => hk.2) (.int .i64 t532)) (fun _ hk => hk.2) (.slice Ao30 t533.length co30)) (fun _ h_ => h_.1))) (Kd.R_base ho0) hb); replace HO530 := Aside0.mk (Kd.R_elder' (by (with_reducible repeat (first | apply Kd.R_alloc | apply Kd.R_drewN | apply Kd.R_drew)); exact (Kd.R_mono (Kd.R_far (p := ⟨gb536, 1, none⟩) (Kd.R_far (p := ⟨gb536, 0, none⟩) (Kd.R_types HO530.out BK536.out (by decide)) (fun _ hk => hk.2) (.int .i64 t532)) (fun _ hk => hk.2) (.slice Ao30 t533.length co30)) (fun _ h_ => h_.1))) (Kd.R_base ho0) hb); replace BK519 := Aside0.mk (blk_below (g := gb519) (o := .cells #[.int .i64 a0_0, .slice A0_1 l0_1.length c0_1] 37 (0, 0)) (by (with_reducible repeat (first | refine blk_drewN ?_ _ | refine blk_drew ?_ | refine blk_alloc ?_ _)); refine blk_far ?_ NB519_536.out _; (with_reducible repeat (first | refine blk_drewN ?_ _ | refine blk_drew ?_ | refine blk_alloc ?_ _)); refine blk_far ?_ NB519_536.out _; exact Bz BK519) hb); replace BK536 := Aside0.mk (blk_below (g := gb536) (o := .cells #[.int .i64 t532, .slice Ao30 t533.length co30] 25 (0, 0)) (by (with_reducible repeat (first | refine blk_drewN ?_ _ | refine blk_drew ?_ | refine blk_alloc ?_ _)); refine blk_put (cs := #[.int .i64 t532, .slice none 0 0]) ?_ 1 _ rfl; (with_reducible repeat (first | refine blk_drewN ?_ _ | refine blk_drew ?_ | refine blk_alloc ?_ _)); refine blk_put (cs := #[.int .i64 0, .slice none 0 0]) ?_ 0 _ rfl; exact Bz BK536) hb); replace HB := Aside0.mk (below_step (by exact Lz2 HB GE519 GE536) hb); (try clear hb); (try clear ho0); have hcz32_0 : w31.cell? ⟨gb536, 0, none⟩ = some (.int .i64 t532) := (blk_cell BK536.out 0).trans rfl; have hcz32_1 : w31.cell? ⟨gb536, 1, none⟩ = some (.slice Ao30 t533.length co30) := (blk_cell BK536.out 1).trans rfl; have hfz32_0 := blk_frozen BK536.out 0; have hfz32_1 := blk_frozen BK536.out 1; obtain ⟨Ao33, co33, eo33⟩ := Kd.R_slice HO539.out; subst eo33) | ((with_reducible refine gate_callee (f := 42) rfl ?_); refine goesM_ (some 44) rfl rfl Try.func42 (by kernel_rfl) rfl #[.agg #[.int .i64 t532, .slice Ao30 t533.length co30], .slice Ao33 t537.length co33, .int .i64 a2] rfl ?_; (with_reducible refine (impl_ReducedOf.calls kj7 t532 _ _ t533 _ _ t537 a2 t540 t543 _ ?side1 ?side2 ?side3 ?side4 A17.out).mono ?_); (case side1 => exact Cz ((Kd.R_reads' HO535.out).2.2)); (case side2 => exact (Kd.R_reads' HO535.out).2.1); (case side3 => exact Cz ((Kd.R_reads' HO539.out).2.2)); (case side4 => exact (Kd.R_reads' HO539.out).2.1); rintro e w34 ⟨v541, rfl, ho0, hb⟩; refine ⟨_, rfl, ?_⟩; replace HO524 := Aside0.mk (Kd.R_below (Rz HO524) hb); replace HO535 := Aside0.mk (Kd.R_below (Rz HO535) hb); have HO542 := Aside0.mk (Kd.R_lower (Kd.R_new' (Kd.R_new' (Kd.R_new' ho0 (Kd.R_lt (Rz HO527))) (Kd.R_lt (Rz HO530))) (Kd.R_lt (Rz HO539))) (below_size (by exact Lz2 HB GE519 GE536))); replace HO527 := Aside0.mk (Kd.R_elder' (Rz HO527) (Kd.R_base ho0) hb); replace HO530 := Aside0.mk (Kd.R_elder' (Rz HO530) (Kd.R_base ho0) hb); replace HO539 := Aside0.mk (Kd.R_elder' (Rz HO539) (Kd.R_base ho0) hb); replace BK519 := Aside0.mk (blk_below (g := gb519) (o := .cells #[.int .i64 a0_0, .slice A0_1 l0_1.length c0_1] 37 (0, 0)) (Bz BK519) hb); replace BK536 := Aside0.mk (blk_below (g := gb536) (o := .cells #[.int .i64 t532, .slice Ao30 t533.length co30] 25 (0, 0)) (Bz BK536) hb); replace HB := Aside0.mk (below_step (by exact Lz2 HB GE519 GE536) hb); (try clear hb); (try clear ho0)))
     (try simp only [Act.put, List.setIfInBounds_toArray, List.set_cons_zero, List.set_cons_succ])
     go_cut [55] (fun v55 wc => ∃ (kq : Nat) (x55_17 : Bool), v55 = .bool x55_17 ∧ Aside0 (laws_FnExactReducedOf.j2 kq l1 a2 t528 t531 t537 t540 t543 x55_17 a0_0 l0_1 t532 t533 = some r) ∧ Aside0 (kq ≤ kj7) ∧ Aside0 (Kd.R (Kd.int .i64) 3 wc w.heap.size (fun k_ => some k_ ≠ ((.slice Ao33 t537.length co33) : Value).ownBlock ∧ some k_ ≠ (v541 : Value).ownBlock) v529 t528) ∧ Aside0 (Kd.R (Kd.int .i64) 3 wc w.heap.size (fun k_ => some k_ ≠ (v529 : Value).ownBlock ∧ some k_ ≠ (v541 : Value).ownBlock) (.slice Ao33 t537.length co33) t537) ∧ Aside0 (Kd.R (Kd.int .i64) 3 wc w.heap.size (fun k_ => some k_ ≠ (v529 : Value).ownBlock ∧ some k_ ≠ ((.slice Ao33 t537.length co33) : Value).ownBlock) v541 t540) ∧ Aside0 (Kd.R k70 70 wc w.heap.size (fun _ => True) (.slice Ao30 t533.length co30) t533) ∧ Aside0 (wc.heap[gb519]? = some (.cells #[.int .i64 a0_0, (.slice A0_1 l0_1.length c0_1)] 37 (0, 0))) ∧ Aside0 (wc.heap[gb536]? = some (.cells #[.int .i64 t532, (.slice Ao30 t533.length co30)] 25 (0, 0))) ∧ Aside0 (Below w.heap.size w wc))
     case first =>
      have H := HC18.out
      clear HC18
      replace H := Option.bind_eq_some_iff.mp H
      obtain ⟨t544, A350, H⟩ := H
      replace H : (if t544 = true then (laws_FnExactReducedOf.j2 kj7 l1 a2 t528 t531 t537 t540 t543 (t543 != t531) a0_0 l0_1 t532 t533) else (laws_FnExactReducedOf.j2 kj7 l1 a2 t528 t531 t537 t540 t543 true a0_0 l0_1 t532 t533)) = some r := H
      have A35 := Aside0.mk A350
      clear A350
      by_cases c36 : t544 = true
      ·subst c36
       have H1 : (laws_FnExactReducedOf.j2 kj7 l1 a2 t528 t531 t537 t540 t543 (t543 != t531) a0_0 l0_1 t532 t533) = some r := by rw [if_pos rfl] at H; exact H
       clear H
       have H := H1
       clear H1
       have H' := Aside0.mk H
       clear H
       obtain ⟨Ao37, co37, eo37⟩ := Kd.R_slice HO542.out
       subst eo37
       obtain ⟨Ao38, co38, eo38⟩ := Kd.R_slice HO530.out
       subst eo38
       go_wp2_with (first | ((with_reducible refine gate_callee (f := 28) rfl ?_); refine goesM_ (some 49) rfl rfl Try.func28 (by kernel_rfl) rfl #[.slice Ao37 t540.length co37, .slice Ao38 t528.length co38] rfl ?_; (with_reducible refine (laws_eqIntS.calls kj7 _ _ t540 _ _ t528 true _ ?side1 ?side2 ?side3 ?side4 A35.out).mono ?_); (case side1 => exact Cz ((Kd.R_reads' HO542.out).2.2)); (case side2 => exact (Kd.R_reads' HO542.out).2.1); (case side3 => exact Cz ((Kd.R_reads' HO530.out).2.2)); (case side4 => exact (Kd.R_reads' HO530.out).2.1); rintro e w' ⟨rfl, ⟨nd, rfl⟩⟩; refine ⟨_, rfl, ?_⟩))
       go_meet
       case rel => exact ⟨_, ((t543 != t531)), (by first | rfl | (simp; done) | (simp [*]; done)), H', ⟨by have := HJ3.out; have := HJ7.out; first | omega | exact Nat.le_refl _⟩, ⟨by (with_reducible repeat (first | apply Kd.R_alloc | apply Kd.R_drewN | apply Kd.R_drew)); exact Kd.R_mono HO530.out (fun _ hk => ⟨hk.1.2, hk.2⟩)⟩, ⟨by (with_reducible repeat (first | apply Kd.R_alloc | apply Kd.R_drewN | apply Kd.R_drew)); exact Kd.R_mono HO539.out (fun _ hk => ⟨hk.1.2, hk.2⟩)⟩, ⟨by (with_reducible repeat (first | apply Kd.R_alloc | apply Kd.R_drewN | apply Kd.R_drew)); exact Kd.R_mono HO542.out (fun _ hk => ⟨hk.1.2, hk.2⟩)⟩, ⟨by (with_reducible repeat (first | apply Kd.R_alloc | apply Kd.R_drewN | apply Kd.R_drew)); exact Kd.R_mono HO535.out (fun _ hk => trivial)⟩, ⟨by exact Bz BK519⟩, ⟨by exact Bz BK536⟩, ⟨by exact Lz2 HB GE519 GE536⟩⟩
      replace c36 := Bool.eq_false_iff.mpr c36
      subst c36
      have H1 : (laws_FnExactReducedOf.j2 kj7 l1 a2 t528 t531 t537 t540 t543 true a0_0 l0_1 t532 t533) = some r := by rw [if_neg (show ¬ (false = true) by decide)] at H; exact H
      clear H
      have H := H1
      clear H1
      have H' := Aside0.mk H
      clear H
      obtain ⟨Ao39, co39, eo39⟩ := Kd.R_slice HO542.out
      subst eo39
      obtain ⟨Ao40, co40, eo40⟩ := Kd.R_slice HO530.out
      subst eo40
      go_wp2_with (first | ((with_reducible refine gate_callee (f := 28) rfl ?_); refine goesM_ (some 49) rfl rfl Try.func28 (by kernel_rfl) rfl #[.slice Ao39 t540.length co39, .slice Ao40 t528.length co40] rfl ?_; (with_reducible refine (laws_eqIntS.calls kj7 _ _ t540 _ _ t528 false _ ?side1 ?side2 ?side3 ?side4 A35.out).mono ?_); (case side1 => exact Cz ((Kd.R_reads' HO542.out).2.2)); (case side2 => exact (Kd.R_reads' HO542.out).2.1); (case side3 => exact Cz ((Kd.R_reads' HO530.out).2.2)); (case side4 => exact (Kd.R_reads' HO530.out).2.1); rintro e w' ⟨rfl, ⟨nd, rfl⟩⟩; refine ⟨_, rfl, ?_⟩))
      go_meet
      case rel => exact ⟨_, (true), (by first | rfl | (simp; done) | (simp [*]; done)), H', ⟨by have := HJ3.out; have := HJ7.out; first | omega | exact Nat.le_refl _⟩, ⟨by (with_reducible repeat (first | apply Kd.R_alloc | apply Kd.R_drewN | apply Kd.R_drew)); exact Kd.R_mono HO530.out (fun _ hk => ⟨hk.1.2, hk.2⟩)⟩, ⟨by (with_reducible repeat (first | apply Kd.R_alloc | apply Kd.R_drewN | apply Kd.R_drew)); exact Kd.R_mono HO539.out (fun _ hk => ⟨hk.1.2, hk.2⟩)⟩, ⟨by (with_reducible repeat (first | apply Kd.R_alloc | apply Kd.R_drewN | apply Kd.R_drew)); exact Kd.R_mono HO542.out (fun _ hk => ⟨hk.1.2, hk.2⟩)⟩, ⟨by (with_reducible repeat (first | apply Kd.R_alloc | apply Kd.R_drewN | apply Kd.R_drew)); exact Kd.R_mono HO535.out (fun _ hk => trivial)⟩, ⟨by exact Bz BK519⟩, ⟨by exact Bz BK536⟩, ⟨by exact Lz2 HB GE519 GE536⟩⟩
     case rest =>
      clear HC18
      try clear c1
      try clear c6
      try clear c6b0
      try clear c6b1
      try clear c11
      try clear c11b0
      try clear c36
      obtain ⟨kq, x55_17, rfl, HA, HJ17, HO_8, HO_11, HO_12, HO_537001, BK519, BK536, HB⟩ := hcut
      cases kq with
      | zero => exact absurd HA.out (by simp [laws_FnExactReducedOf.j2])
      | succ kj17 =>
       have H := HA.out
       clear HA
       simp only [laws_FnExactReducedOf.j2] at H
       have HC41 := Aside0.mk H
       clear H
       go_upto_if 55 with (fail)
       go_cut [] (fun wc => ∃ (kq : Nat), Aside0 (laws_FnExactReducedOf.j3 kq l1 a2 t528 t531 t537 t540 t543 a0_0 l0_1 t532 t533 = some r) ∧ Aside0 (kq ≤ kj17) ∧ Aside0 (Kd.R (Kd.int .i64) 3 wc w.heap.size (fun k_ => some k_ ≠ ((.slice Ao33 t537.length co33) : Value).ownBlock ∧ some k_ ≠ (v541 : Value).ownBlock) v529 t528) ∧ Aside0 (Kd.R (Kd.int .i64) 3 wc w.heap.size (fun k_ => some k_ ≠ (v529 : Value).ownBlock ∧ some k_ ≠ (v541 : Value).ownBlock) (.slice Ao33 t537.length co33) t537) ∧ Aside0 (Kd.R (Kd.int .i64) 3 wc w.heap.size (fun k_ => some k_ ≠ (v529 : Value).ownBlock ∧ some k_ ≠ ((.slice Ao33 t537.length co33) : Value).ownBlock) v541 t540) ∧ Aside0 (Kd.R k70 70 wc w.heap.size (fun _ => True) (.slice Ao30 t533.length co30) t533) ∧ Aside0 (wc.heap[gb519]? = some (.cells #[.int .i64 a0_0, (.slice A0_1 l0_1.length c0_1)] 37 (0, 0))) ∧ Aside0 (wc.heap[gb536]? = some (.cells #[.int .i64 t532, (.slice Ao30 t533.length co30)] 25 (0, 0))) ∧ Aside0 (Below w.heap.size w wc))
       case first =>
        have H := HC41.out
        clear HC41
        by_cases c42 : x55_17 = true
        ·subst c42
         have H1 : (some false) = some r := by rw [if_pos rfl] at H; exact H
         clear H
         have H := H1
         clear H1
         obtain rfl := Option.some.inj H
         go_wp2
         go_ret
         exact ⟨by first | rfl | (simp [errW_none, errW_some] <;> rfl) | (simp [*, errW_none, errW_some] <;> rfl), by exact Lz2 HB GE519 GE536⟩
        replace c42 := Bool.eq_false_iff.mpr c42
        subst c42
        have H1 : (laws_FnExactReducedOf.j3 kj17 l1 a2 t528 t531 t537 t540 t543 a0_0 l0_1 t532 t533) = some r := by rw [if_neg (show ¬ (false = true) by decide)] at H; exact H
        clear H
        have H := H1
        clear H1
        have H' := Aside0.mk H
        clear H
        go_wp2
        go_meet
        case rel => exact ⟨_, H', ⟨by have := HJ3.out; have := HJ7.out; have := HJ17.out; first | omega | exact Nat.le_refl _⟩, ⟨by exact Rz HO_8⟩, ⟨by exact Rz HO_11⟩, ⟨by exact Rz HO_12⟩, ⟨by exact Rz HO_537001⟩, ⟨by exact Bz BK519⟩, ⟨by exact Bz BK536⟩, ⟨by exact Lz2 HB GE519 GE536⟩⟩
       case rest =>
        clear HC41
        try clear c1
        try clear c6
        try clear c6b0
        try clear c6b1
        try clear c11
        try clear c11b0
        try clear c36
        try clear c42
        obtain ⟨kq, HA, HJ40, HO_8, HO_11, HO_12, HO_537001, BK519, BK536, HB⟩ := hcut
        cases kq with
        | zero => exact absurd HA.out (by simp [laws_FnExactReducedOf.j3])
        | succ kj40 =>
         have H := HA.out
         clear HA
         simp only [laws_FnExactReducedOf.j3] at H
         replace H := Option.bind_eq_some_iff.mp H
         obtain ⟨⟨t545, t546⟩, A430, H⟩ := H
         replace H : ((laws_eqGraph.f kj40 t532 t533 t545 t546).bind fun t549 => (if t549 = true then (laws_FnExactReducedOf.j4 kj40 l1 a2 t528 t531 t537 t540 t543 a0_0 l0_1 t532 t533) else (some false))) = some r := H
         have A43 := Aside0.mk A430
         clear A430
         replace H := Option.bind_eq_some_iff.mp H
         obtain ⟨t549, A440, H⟩ := H
         replace H : (if t549 = true then (laws_FnExactReducedOf.j4 kj40 l1 a2 t528 t531 t537 t540 t543 a0_0 l0_1 t532 t533) else (some false)) = some r := H
         have A44 := Aside0.mk A440
         clear A440
         have HC45 := Aside0.mk H
         clear H
         try go_wp2
         replace HO_8 := Aside0.mk (Kd.R_drew HO_8.out)
         replace HO_11 := Aside0.mk (Kd.R_drew HO_11.out)
         replace HO_12 := Aside0.mk (Kd.R_drew HO_12.out)
         replace HO_537001 := Aside0.mk (Kd.R_drew HO_537001.out)
         replace BK519 := Aside0.mk (blk_drew BK519.out)
         replace BK536 := Aside0.mk (blk_drew BK536.out)
         replace HB := Aside0.mk (below_drew1 HB.out)
         refine start_ (n := 5) (S := fun w' => w'.cell? ⟨gb536, 0, none⟩ = some (.int .i64 t532) ∧ w'.cell? ⟨gb536, 1, none⟩ = some (.slice Ao30 t533.length co30) ∧ w'.cell? ⟨gb519, 0, none⟩ = some (.int .i64 a0_0) ∧ w'.cell? ⟨gb519, 1, none⟩ = some (.slice A0_1 l0_1.length c0_1)) (ds := []) #[false, false, false, false, false] (by kernel_rfl) rfl rfl ⟨(blk_cell BK536.out 0).trans rfl, (blk_cell BK536.out 1).trans rfl, (blk_cell BK519.out 0).trans rfl, (blk_cell BK519.out 1).trans rfl⟩ (fun hHeld => ?_)
         generalize wc.drew = w46 at HO_8 HO_11 HO_12 HO_537001 BK519 BK536 HB hHeld ⊢
         refine take_ (i := 0) (N := some 56) (v := ?_) (a' := ?_) #[true, false, false, false, false] rfl rfl (by kernel_rfl) (fun _ _ _ h => h) (Or.inl ⟨by rfl, ?_⟩) hHeld ?_ ?_
         rotate_left
         ·rintro w' ⟨s0, s1, s2, s3⟩
          go_simp
          with_reducible rfl
         rotate_left
         ·simp only [Act.put, List.setIfInBounds_toArray, List.set_cons_zero, List.set_cons_succ, i64_w, i32_w]
          rfl
         refine take_ (i := 1) (N := some 57) (v := ?_) (a' := ?_) #[true, true, false, false, false] rfl rfl (by kernel_rfl) (fun _ _ _ h => h) (Or.inl ⟨by rfl, ?_⟩) hHeld ?_ ?_
         rotate_left
         ·rintro w' ⟨s0, s1, s2, s3⟩
          go_simp
          with_reducible rfl
         rotate_left
         ·simp only [Act.put, List.setIfInBounds_toArray, List.set_cons_zero, List.set_cons_succ, i64_w, i32_w]
          rfl
         refine one_ (i := 2) (N := some 58) #[true, true, true, false, false] rfl rfl (by kernel_rfl) (by decide) (fun K hK => ?_)
         refine goes_ Try.func25 (by kernel_rfl) rfl #[.agg #[.int .i64 a0_0, .slice A0_1 l0_1.length c0_1]] (by rfl) rfl rfl (by (try simp only [List.map_toArray, List.map_cons, List.map_nil]); first | done | rfl | (simp only [List.length_drop, List.length_take]; rfl)) ?_
         with_reducible refine (laws_toGraph.calls kj40 a0_0 _ _ l0_1 t545 t546 _ ?side1 ?side2 A43.out).mono ?_
         (case side1 => exact Cz ((Kd.C_below HR0_1.out HB.out)))
         (case side2 => exact HC0_1.out)
         rintro e w47 ⟨v547, rfl, ho0, hb⟩
         refine ⟨_, rfl, ?_⟩
         replace HO_8 := Aside0.mk (Kd.R_below (Rz HO_8) hb)
         replace HO_11 := Aside0.mk (Kd.R_below (Rz HO_11) hb)
         replace HO_12 := Aside0.mk (Kd.R_below (Rz HO_12) hb)
         have HO548 := Aside0.mk (Kd.R_lower (Kd.R_new' ho0 (Kd.R_lt (Rz HO_537001))) (below_size (by exact Lz2 HB GE519 GE536)))
         replace HO_537001 := Aside0.mk (Kd.R_elder' (Rz HO_537001) (Kd.R_base ho0) hb)
         replace BK519 := Aside0.mk (blk_below (g := gb519) (o := .cells #[.int .i64 a0_0, .slice A0_1 l0_1.length c0_1] 37 (0, 0)) (Bz BK519) hb)
         replace BK536 := Aside0.mk (blk_below (g := gb536) (o := .cells #[.int .i64 t532, .slice Ao30 t533.length co30] 25 (0, 0)) (Bz BK536) hb)
         replace HB := Aside0.mk (below_step (by exact Lz2 HB GE519 GE536) hb)
         (try clear hb)
         (try clear hb2)
         (try clear hk)
         (try clear hi)
         (try clear ho0)
         obtain ⟨Ao48, co48, eo48⟩ := Kd.R_slice HO548.out
         (first | subst eo48 | (injection eo48 with f1_ f2_ f3_; have f4_ := f1_.symm; have f5_ := f3_.symm; clear f1_ f2_ f3_; subst f4_; subst f5_))
         refine hK.out _ _ ⟨(blk_cell BK536.out 0).trans rfl, (blk_cell BK536.out 1).trans rfl, (blk_cell BK519.out 0).trans rfl, (blk_cell BK519.out 1).trans rfl⟩ (fun hHeld => ?_)
         clear hK K
         refine norm_ (a' := ?_) ?_ ?_
         rotate_left
         ·show Act.put _ (some 58) _ = _
          simp only [Act.put, List.setIfInBounds_toArray, List.set_cons_zero, List.set_cons_succ, i64_w, i32_w]
          rfl
         refine one_ (i := 3) (N := some 59) #[true, true, true, true, false] rfl rfl (by kernel_rfl) (by decide) (fun K hK => ?_)
         refine goes_ Try.func29 (by kernel_rfl) rfl #[.agg #[.int .i64 t532, .slice Ao30 t533.length co30], .agg #[.int .i64 t545, .slice Ao48 t546.length co48]] (by rfl) rfl rfl (by (try simp only [List.map_toArray, List.map_cons, List.map_nil]); first | done | rfl | (simp only [List.length_drop, List.length_take]; rfl)) ?_
         with_reducible refine (laws_eqGraph.calls kj40 t532 _ _ t533 t545 _ _ t546 t549 _ ?side1 ?side2 ?side3 ?side4 A44.out).mono ?_
         (case side1 => exact Cz ((Kd.R_reads' HO_537001.out).2.2))
         (case side2 => exact (Kd.R_reads' HO_537001.out).2.1)
         (case side3 => exact Cz ((Kd.R_reads' HO548.out).2.2))
         (case side4 => exact (Kd.R_reads' HO548.out).2.1)
         rintro e w49 ⟨rfl, hb⟩
         refine ⟨_, rfl, ?_⟩
         replace HO_8 := Aside0.mk (Kd.R_below (Rz HO_8) hb)
         replace HO_11 := Aside0.mk (Kd.R_below (Rz HO_11) hb)
         replace HO_12 := Aside0.mk (Kd.R_below (Rz HO_12) hb)
         replace HO_537001 := Aside0.mk (Kd.R_below (Rz HO_537001) hb)
         replace HO548 := Aside0.mk (Kd.R_below (Rz HO548) hb)
         replace BK519 := Aside0.mk (blk_below (g := gb519) (o := .cells #[.int .i64 a0_0, .slice A0_1 l0_1.length c0_1] 37 (0, 0)) (Bz BK519) hb)
         replace BK536 := Aside0.mk (blk_below (g := gb536) (o := .cells #[.int .i64 t532, .slice Ao30 t533.length co30] 25 (0, 0)) (Bz BK536) hb)
         replace HB := Aside0.mk (below_step (by exact Lz2 HB GE519 GE536) hb)
         (try clear hb)
         (try clear hb2)
         (try clear hk)
         (try clear hi)
         refine hK.out _ _ ⟨(blk_cell BK536.out 0).trans rfl, (blk_cell BK536.out 1).trans rfl, (blk_cell BK519.out 0).trans rfl, (blk_cell BK519.out 1).trans rfl⟩ (fun hHeld => ?_)
         clear hK K
         refine norm_ (a' := ?_) ?_ ?_
         rotate_left
         ·show Act.put _ (some 59) _ = _
          simp only [Act.put, List.setIfInBounds_toArray, List.set_cons_zero, List.set_cons_succ, i64_w, i32_w]
          rfl
         refine pure_ (i := 4) (N := some 60) (v := ?_) (a' := ?_) #[true, true, true, true, true] rfl rfl (by kernel_rfl) (fun _ _ _ h => h) (Or.inl ⟨by rfl, ?_⟩) ?_ ?_
         rotate_left
         ·intro w'
          go_simp
          with_reducible rfl
         rotate_left
         ·simp only [Act.put, List.setIfInBounds_toArray, List.set_cons_zero, List.set_cons_succ, i64_w, i32_w]
          rfl
         refine done_ (by kernel_rfl) ?_
         go_upto_if 60 with (fail)
         go_cut [] (fun wc => ∃ (kq : Nat), Aside0 (laws_FnExactReducedOf.j4 kq l1 a2 t528 t531 t537 t540 t543 a0_0 l0_1 t532 t533 = some r) ∧ Aside0 (kq ≤ kj40) ∧ Aside0 (Kd.R (Kd.int .i64) 3 wc w.heap.size (fun k_ => some k_ ≠ ((.slice Ao33 t537.length co33) : Value).ownBlock ∧ some k_ ≠ (v541 : Value).ownBlock) v529 t528) ∧ Aside0 (Kd.R (Kd.int .i64) 3 wc w.heap.size (fun k_ => some k_ ≠ (v529 : Value).ownBlock ∧ some k_ ≠ (v541 : Value).ownBlock) (.slice Ao33 t537.length co33) t537) ∧ Aside0 (Kd.R (Kd.int .i64) 3 wc w.heap.size (fun k_ => some k_ ≠ (v529 : Value).ownBlock ∧ some k_ ≠ ((.slice Ao33 t537.length co33) : Value).ownBlock) v541 t540) ∧ Aside0 (Kd.R k70 70 wc w.heap.size (fun _ => True) (.slice Ao30 t533.length co30) t533) ∧ Aside0 (wc.heap[gb519]? = some (.cells #[.int .i64 a0_0, (.slice A0_1 l0_1.length c0_1)] 37 (0, 0))) ∧ Aside0 (wc.heap[gb536]? = some (.cells #[.int .i64 t532, (.slice Ao30 t533.length co30)] 25 (0, 0))) ∧ Aside0 (Below w.heap.size w wc))
         case first =>
          have H := HC45.out
          clear HC45
          by_cases c50 : t549 = true
          ·subst c50
           have H1 : (laws_FnExactReducedOf.j4 kj40 l1 a2 t528 t531 t537 t540 t543 a0_0 l0_1 t532 t533) = some r := by rw [if_pos rfl] at H; exact H
           clear H
           have H := H1
           clear H1
           have H' := Aside0.mk H
           clear H
           go_wp2
           go_meet
           case rel => exact ⟨_, H', ⟨by have := HJ3.out; have := HJ7.out; have := HJ17.out; have := HJ40.out; first | omega | exact Nat.le_refl _⟩, ⟨by exact Rz HO_8⟩, ⟨by exact Rz HO_11⟩, ⟨by exact Rz HO_12⟩, ⟨by (with_reducible repeat (first | apply Kd.R_alloc | apply Kd.R_drewN | apply Kd.R_drew)); exact Kd.R_mono HO_537001.out (fun _ hk => trivial)⟩, ⟨by exact Bz BK519⟩, ⟨by exact Bz BK536⟩, ⟨by exact Lz2 HB GE519 GE536⟩⟩
          replace c50 := Bool.eq_false_iff.mpr c50
          subst c50
          have H1 : (some false) = some r := by rw [if_neg (show ¬ (false = true) by decide)] at H; exact H
          clear H
          have H := H1
          clear H1
          obtain rfl := Option.some.inj H
          go_wp2
          go_ret
          exact ⟨by first | rfl | (simp [errW_none, errW_some] <;> rfl) | (simp [*, errW_none, errW_some] <;> rfl), by exact Lz2 HB GE519 GE536⟩
         case rest =>
          clear HC45
          try clear c1
          try clear c6
          try clear c6b0
          try clear c6b1
          try clear c11
          try clear c11b0
          try clear c36
          try clear c42
          try clear c50
          obtain ⟨kq, HA, HJ44, HO_8, HO_11, HO_12, HO_537001, BK519, BK536, HB⟩ := hcut
          cases kq with
          | zero => exact absurd HA.out (by simp [laws_FnExactReducedOf.j4])
          | succ kj44 =>
           have H := HA.out
           clear HA
           simp only [laws_FnExactReducedOf.j4] at H
           replace H := Option.bind_eq_some_iff.mp H
           obtain ⟨t550, A510, H⟩ := H
           replace H : ((laws_eqIntS.f kj44 t537 t550).bind fun t553 => (if t553 = true then (laws_FnExactReducedOf.j5 kj44 l1 a2 t528 t531 t537 t540 t543 a0_0 l0_1 t532 t533) else (some false))) = some r := H
           have A51 := Aside0.mk A510
           clear A510
           replace H := Option.bind_eq_some_iff.mp H
           obtain ⟨t553, A520, H⟩ := H
           replace H : (if t553 = true then (laws_FnExactReducedOf.j5 kj44 l1 a2 t528 t531 t537 t540 t543 a0_0 l0_1 t532 t533) else (some false)) = some r := H
           have A52 := Aside0.mk A520
           clear A520
           have HC53 := Aside0.mk H
           clear H
           go_upto_if 65 with (first | ((with_reducible refine gate_callee (f := 26) rfl ?_); refine goesM_ (some 63) rfl rfl Try.func26 (by kernel_rfl) rfl #[.slice A1 l1.length c1] rfl ?_; (with_reducible refine (laws_toIntS.calls kj44 _ _ l1 t550 _ ?side1 ?side2 A51.out).mono ?_); (case side1 => exact Cz ((Kd.C_below HR1.out HB.out))); (case side2 => exact HC1.out); rintro e w54 ⟨v551, rfl, ho0, hb⟩; refine ⟨_, rfl, ?_⟩; replace HO_537001 := Aside0.mk (Kd.R_below (Rz HO_537001) hb); have HO552 := Aside0.mk (Kd.R_lower (Kd.R_new' (Kd.R_new' (Kd.R_new' ho0 (Kd.R_lt (Rz HO_8))) (Kd.R_lt (Rz HO_11))) (Kd.R_lt (Rz HO_12))) (below_size (by exact Lz2 HB GE519 GE536))); replace HO_8 := Aside0.mk (Kd.R_elder' (Rz HO_8) (Kd.R_base ho0) hb); replace HO_11 := Aside0.mk (Kd.R_elder' (Rz HO_11) (Kd.R_base ho0) hb); replace HO_12 := Aside0.mk (Kd.R_elder' (Rz HO_12) (Kd.R_base ho0) hb); replace BK519 := Aside0.mk (blk_below (g := gb519) (o := .cells #[.int .i64 a0_0, .slice A0_1 l0_1.length c0_1] 37 (0, 0)) (Bz BK519) hb); replace BK536 := Aside0.mk (blk_below (g := gb536) (o := .cells #[.int .i64 t532, .slice Ao30 t533.length co30] 25 (0, 0)) (Bz BK536) hb); replace HB := Aside0.mk (below_step (by exact Lz2 HB GE519 GE536) hb); (try clear hb); (try clear ho0); obtain ⟨Ao55, co55, eo55⟩ := Kd.R_slice HO552.out; subst eo55) | ((with_reducible refine gate_callee (f := 28) rfl ?_); refine goesM_ (some 64) rfl rfl Try.func28 (by kernel_rfl) rfl #[.slice Ao33 t537.length co33, .slice Ao55 t550.length co55] rfl ?_; (with_reducible refine (laws_eqIntS.calls kj44 _ _ t537 _ _ t550 t553 _ ?side1 ?side2 ?side3 ?side4 A52.out).mono ?_); (case side1 => exact Cz ((Kd.R_reads' HO_11.out).2.2)); (case side2 => exact (Kd.R_reads' HO_11.out).2.1); (case side3 => exact Cz ((Kd.R_reads' HO552.out).2.2)); (case side4 => exact (Kd.R_reads' HO552.out).2.1); rintro e w' ⟨rfl, ⟨nd, rfl⟩⟩; refine ⟨_, rfl, ?_⟩))
           (try simp only [Act.put, List.setIfInBounds_toArray, List.set_cons_zero, List.set_cons_succ])
           go_cut [] (fun wc => ∃ (kq : Nat), Aside0 (laws_FnExactReducedOf.j5 kq l1 a2 t528 t531 t537 t540 t543 a0_0 l0_1 t532 t533 = some r) ∧ Aside0 (kq ≤ kj44) ∧ Aside0 (Kd.R (Kd.int .i64) 3 wc w.heap.size (fun k_ => some k_ ≠ ((.slice Ao33 t537.length co33) : Value).ownBlock ∧ some k_ ≠ (v541 : Value).ownBlock) v529 t528) ∧ Aside0 (Kd.R (Kd.int .i64) 3 wc w.heap.size (fun k_ => some k_ ≠ (v529 : Value).ownBlock ∧ some k_ ≠ (v541 : Value).ownBlock) (.slice Ao33 t537.length co33) t537) ∧ Aside0 (Kd.R (Kd.int .i64) 3 wc w.heap.size (fun k_ => some k_ ≠ (v529 : Value).ownBlock ∧ some k_ ≠ ((.slice Ao33 t537.length co33) : Value).ownBlock) v541 t540) ∧ Aside0 (Kd.R k70 70 wc w.heap.size (fun _ => True) (.slice Ao30 t533.length co30) t533) ∧ Aside0 (wc.heap[gb519]? = some (.cells #[.int .i64 a0_0, (.slice A0_1 l0_1.length c0_1)] 37 (0, 0))) ∧ Aside0 (wc.heap[gb536]? = some (.cells #[.int .i64 t532, (.slice Ao30 t533.length co30)] 25 (0, 0))) ∧ Aside0 (Below w.heap.size w wc))
           case first =>
            have H := HC53.out
            clear HC53
            by_cases c56 : t553 = true
            ·subst c56
             have H1 : (laws_FnExactReducedOf.j5 kj44 l1 a2 t528 t531 t537 t540 t543 a0_0 l0_1 t532 t533) = some r := by rw [if_pos rfl] at H; exact H
             clear H
             have H := H1
             clear H1
             have H' := Aside0.mk H
             clear H
             go_wp2
             go_meet
             case rel => exact ⟨_, H', ⟨by have := HJ3.out; have := HJ7.out; have := HJ17.out; have := HJ40.out; have := HJ44.out; first | omega | exact Nat.le_refl _⟩, ⟨by (with_reducible repeat (first | apply Kd.R_alloc | apply Kd.R_drewN | apply Kd.R_drew)); exact Kd.R_mono HO_8.out (fun _ hk => ⟨hk.1.1, hk.1.2⟩)⟩, ⟨by (with_reducible repeat (first | apply Kd.R_alloc | apply Kd.R_drewN | apply Kd.R_drew)); exact Kd.R_mono HO_11.out (fun _ hk => ⟨hk.1.1, hk.1.2⟩)⟩, ⟨by (with_reducible repeat (first | apply Kd.R_alloc | apply Kd.R_drewN | apply Kd.R_drew)); exact Kd.R_mono HO_12.out (fun _ hk => ⟨hk.1.1, hk.1.2⟩)⟩, ⟨by exact Rz HO_537001⟩, ⟨by exact Bz BK519⟩, ⟨by exact Bz BK536⟩, ⟨by exact Lz2 HB GE519 GE536⟩⟩
            replace c56 := Bool.eq_false_iff.mpr c56
            subst c56
            have H1 : (some false) = some r := by rw [if_neg (show ¬ (false = true) by decide)] at H; exact H
            clear H
            have H := H1
            clear H1
            obtain rfl := Option.some.inj H
            go_wp2
            go_ret
            exact ⟨by first | rfl | (simp [errW_none, errW_some] <;> rfl) | (simp [*, errW_none, errW_some] <;> rfl), by exact Lz2 HB GE519 GE536⟩
           case rest =>
            clear HC53
            try clear c1
            try clear c6
            try clear c6b0
            try clear c6b1
            try clear c11
            try clear c11b0
            try clear c36
            try clear c42
            try clear c50
            try clear c56
            obtain ⟨kq, HA, HJ52, HO_8, HO_11, HO_12, HO_537001, BK519, BK536, HB⟩ := hcut
            cases kq with
            | zero => exact absurd HA.out (by simp [laws_FnExactReducedOf.j5])
            | succ kj52 =>
             have H := HA.out
             clear HA
             simp only [laws_FnExactReducedOf.j5] at H
             replace H := Option.bind_eq_some_iff.mp H
             obtain ⟨⟨t554, t555⟩, A570, H⟩ := H
             replace H : ((laws_markIntS.f kj52 t537 t554).bind fun bt556 => (if bt556.1 < 0 then (laws_FnExactReducedOf.j6 kj52 l1 a2 t528 t531 t540 true a0_0 l0_1) else ((laws_eqIntS.f kj52 t540 t528).bind fun t558 => (if t558 = true then (laws_FnExactReducedOf.j6 kj52 l1 a2 t528 t531 t540 (t543 != t531) a0_0 l0_1) else (laws_FnExactReducedOf.j6 kj52 l1 a2 t528 t531 t540 true a0_0 l0_1))))) = some r := H
             have A57 := Aside0.mk A570
             clear A570
             replace H := Option.bind_eq_some_iff.mp H
             obtain ⟨⟨t556, t557⟩, A580, H⟩ := H
             replace H : (if t556 < 0 then (laws_FnExactReducedOf.j6 kj52 l1 a2 t528 t531 t540 true a0_0 l0_1) else ((laws_eqIntS.f kj52 t540 t528).bind fun t558 => (if t558 = true then (laws_FnExactReducedOf.j6 kj52 l1 a2 t528 t531 t540 (t543 != t531) a0_0 l0_1) else (laws_FnExactReducedOf.j6 kj52 l1 a2 t528 t531 t540 true a0_0 l0_1)))) = some r := H
             have A58 := Aside0.mk A580
             clear A580
             have HC59 := Aside0.mk H
             clear H
             have hnb60 := NB536_519.out
             have hnc60 := NB519_536.out
             have hcz61_0 : wc.cell? ⟨gb536, 0, none⟩ = some (.int .i64 t532) := (blk_cell BK536.out 0).trans rfl
             have hcz61_1 : wc.cell? ⟨gb536, 1, none⟩ = some (.slice Ao30 t533.length co30) := (blk_cell BK536.out 1).trans rfl
             have hfz61_0 := blk_frozen BK536.out 0
             have hfz61_1 := blk_frozen BK536.out 1
             go_upto_region 20 with (first | ((with_reducible refine gate_callee (f := 30) rfl ?_); refine goesM_ (some 68) rfl rfl Try.func30 (by kernel_rfl) rfl #[.agg #[.int .i64 t532, .slice Ao30 t533.length co30], .int .i64 1] rfl ?_; (with_reducible refine (laws_markGraph.calls kj52 t532 (fun k_ => some k_ = (.slice Ao30 t533.length co30 : Value).ownBlock) (.slice Ao30 t533.length co30) t533 1 t554 t555 w _ ?side1 ?side2 A57.out).mono ?_); (case side1 => exact Lz2 HB GE519 GE536); (case side2 => exact Kd.R_tight rfl HO_537001.out); rintro e w62 ⟨rfl, hy0, hb, hkp⟩; refine ⟨_, rfl, ?_⟩; replace HO_8 := Aside0.mk (Kd.R_mono (ok' := fun k_ => some k_ ≠ (.slice Ao33 t537.length co33 : Value).ownBlock ∧ some k_ ≠ (v541 : Value).ownBlock) (Kd.R_keptB ((Kd.R_apart' HO_8.out (Kd.R_typed HO_537001.out) (by decide))) hkp (fun k_ hk_ hs_ => (hk_.2) hs_)) (fun k_ hk_ => ⟨hk_.1.1.1, hk_.1.1.2⟩)); replace HO_11 := Aside0.mk (Kd.R_mono (ok' := fun k_ => some k_ ≠ (v529 : Value).ownBlock ∧ some k_ ≠ (v541 : Value).ownBlock) (Kd.R_keptB ((Kd.R_apart' HO_11.out (Kd.R_typed HO_537001.out) (by decide))) hkp (fun k_ hk_ hs_ => (hk_.2) hs_)) (fun k_ hk_ => ⟨hk_.1.1.1, hk_.1.1.2⟩)); replace HO_12 := Aside0.mk (Kd.R_mono (ok' := fun k_ => some k_ ≠ (v529 : Value).ownBlock ∧ some k_ ≠ (.slice Ao33 t537.length co33 : Value).ownBlock) (Kd.R_keptB ((Kd.R_apart' HO_12.out (Kd.R_typed HO_537001.out) (by decide))) hkp (fun k_ hk_ hs_ => (hk_.2) hs_)) (fun k_ hk_ => ⟨hk_.1.1.1, hk_.1.1.2⟩)); replace BK519 := Aside0.mk (blk_kept (Bz BK519) hkp (fun hs_ => (fun e_ => (Kd.R_ne HO_537001.out BK519.out (by decide)) e_) hs_)); replace BK536 := Aside0.mk (blk_kept (Bz BK536) hkp (fun hs_ => (fun e_ => (Kd.R_ne HO_537001.out BK536.out (by decide)) e_) hs_)); replace HO_537001 := Aside0.mk (Kd.R_reok rfl hy0 (fun k_ e_ => HO_537001.out.1 k_ e_)); replace HB := Aside0.mk (hb); (try clear hb); (try clear hkp); (try clear hy0)) | ((with_reducible refine gate_callee (f := 31) rfl ?_); refine goesM_ (some 71) rfl rfl Try.func31 (by kernel_rfl) rfl #[.slice Ao33 t537.length co33, .int .i64 t554] rfl ?_; (with_reducible refine (laws_markIntS.calls kj52 (fun k_ => some k_ = (.slice Ao33 t537.length co33 : Value).ownBlock) (.slice Ao33 t537.length co33) t537 t554 t556 t557 w _ ?side1 ?side2 A58.out).mono ?_); (case side1 => exact Lz2 HB GE519 GE536); (case side2 => exact Kd.R_tight rfl HO_11.out); rintro e w63 ⟨rfl, hy0, hb, hkp⟩; refine ⟨_, rfl, ?_⟩; replace HO_8 := Aside0.mk (Kd.R_mono (ok' := fun k_ => some k_ ≠ (.slice Ao33 t537.length co33 : Value).ownBlock ∧ some k_ ≠ (v541 : Value).ownBlock) (Kd.R_keptB (HO_8.out) hkp (fun k_ hk_ hs_ => (hk_.1) hs_)) (fun k_ hk_ => ⟨hk_.1.1, hk_.1.2⟩)); replace HO_12 := Aside0.mk (Kd.R_mono (ok' := fun k_ => some k_ ≠ (v529 : Value).ownBlock ∧ some k_ ≠ (.slice Ao33 t537.length co33 : Value).ownBlock) (Kd.R_keptB (HO_12.out) hkp (fun k_ hk_ hs_ => (hk_.2) hs_)) (fun k_ hk_ => ⟨hk_.1.1, hk_.1.2⟩)); replace HO_537001 := Aside0.mk (Kd.R_mono (ok' := fun k_ => True) (Kd.R_keptB ((Kd.R_apart' HO_537001.out (Kd.R_typed HO_11.out) (by decide))) hkp (fun k_ hk_ hs_ => (hk_.2) hs_)) (fun k_ hk_ => trivial)); replace BK519 := Aside0.mk (blk_kept (Bz BK519) hkp (fun hs_ => (fun e_ => (Kd.R_ne HO_11.out BK519.out (by decide)) e_) hs_)); replace BK536 := Aside0.mk (blk_kept (Bz BK536) hkp (fun hs_ => (fun e_ => (Kd.R_ne HO_11.out BK536.out (by decide)) e_) hs_)); replace HO_11 := Aside0.mk (Kd.R_reok rfl hy0 (fun k_ e_ => HO_11.out.1 k_ e_)); replace HB := Aside0.mk (hb); (try clear hb); (try clear hkp); (try clear hy0)))
             (try simp only [Act.put, List.setIfInBounds_toArray, List.set_cons_zero, List.set_cons_succ])
             go_cut [84] (fun v84 wc => ∃ (kq : Nat) (x84_58 : Bool), v84 = .bool x84_58 ∧ Aside0 (laws_FnExactReducedOf.j6 kq l1 a2 t528 t531 t540 x84_58 a0_0 l0_1 = some r) ∧ Aside0 (kq ≤ kj52) ∧ Aside0 (Kd.R (Kd.int .i64) 3 wc w.heap.size (fun k_ => some k_ ≠ (v541 : Value).ownBlock) v529 t528) ∧ Aside0 (Kd.R (Kd.int .i64) 3 wc w.heap.size (fun k_ => some k_ ≠ (v529 : Value).ownBlock) v541 t540) ∧ Aside0 (Kd.R k70 70 wc w.heap.size (fun _ => True) (.slice Ao30 t533.length co30) t555) ∧ Aside0 (wc.heap[gb519]? = some (.cells #[.int .i64 a0_0, (.slice A0_1 l0_1.length c0_1)] 37 (0, 0))) ∧ Aside0 (wc.heap[gb536]? = some (.cells #[.int .i64 t532, (.slice Ao30 t533.length co30)] 25 (0, 0))) ∧ Aside0 (Below w.heap.size w wc))
             case first =>
              have H := HC59.out
              clear HC59
              by_cases c64 : t556 < 0
              ·rw [if_pos c64] at H
               have c64b0 : decide (t556 < 0) = true := decide_eq_true c64
               clear c64
               (first | rw [c64b0] | (simp only [i64_w, i32_w]; rw [c64b0]) | skip)
               have H' := Aside0.mk H
               clear H
               go_wp2
               go_meet
               case rel => exact ⟨_, (true), (by first | rfl | (simp; done) | (simp [*]; done)), H', ⟨by have := HJ3.out; have := HJ7.out; have := HJ17.out; have := HJ40.out; have := HJ44.out; have := HJ52.out; first | omega | exact Nat.le_refl _⟩, ⟨by (with_reducible repeat (first | apply Kd.R_alloc | apply Kd.R_drewN | apply Kd.R_drew)); exact Kd.R_mono HO_8.out (fun _ hk => hk.2)⟩, ⟨by (with_reducible repeat (first | apply Kd.R_alloc | apply Kd.R_drewN | apply Kd.R_drew)); exact Kd.R_mono HO_12.out (fun _ hk => hk.1)⟩, ⟨by exact Rz HO_537001⟩, ⟨by exact Bz BK519⟩, ⟨by exact Bz BK536⟩, ⟨by exact Lz2 HB GE519 GE536⟩⟩
              rw [if_neg c64] at H
              have c64b0 : decide (t556 < 0) = false := decide_eq_false c64
              clear c64
              (first | rw [c64b0] | (simp only [i64_w, i32_w]; rw [c64b0]) | skip)
              replace H := Option.bind_eq_some_iff.mp H
              obtain ⟨t558, A650, H⟩ := H
              replace H : (if t558 = true then (laws_FnExactReducedOf.j6 kj52 l1 a2 t528 t531 t540 (t543 != t531) a0_0 l0_1) else (laws_FnExactReducedOf.j6 kj52 l1 a2 t528 t531 t540 true a0_0 l0_1)) = some r := H
              have A65 := Aside0.mk A650
              clear A650
              by_cases c66 : t558 = true
              ·subst c66
               have H1 : (laws_FnExactReducedOf.j6 kj52 l1 a2 t528 t531 t540 (t543 != t531) a0_0 l0_1) = some r := by rw [if_pos rfl] at H; exact H
               clear H
               have H := H1
               clear H1
               have H' := Aside0.mk H
               clear H
               obtain ⟨Ao67, co67, eo67⟩ := Kd.R_slice HO_12.out
               subst eo67
               obtain ⟨Ao68, co68, eo68⟩ := Kd.R_slice HO_8.out
               subst eo68
               go_wp2_with (first | (go_at_call 28; (with_reducible refine (laws_eqIntS.calls kj52 _ _ t540 _ _ t528 true _ ?side1 ?side2 ?side3 ?side4 A65.out).mono ?_); (case side1 => exact Cz ((Kd.R_reads' HO_12.out).2.2)); (case side2 => exact (Kd.R_reads' HO_12.out).2.1); (case side3 => exact Cz ((Kd.R_reads' HO_8.out).2.2)); (case side4 => exact (Kd.R_reads' HO_8.out).2.1); rintro e w' ⟨rfl, ⟨nd, rfl⟩⟩))
               go_meet
               case rel => exact ⟨_, ((t543 != t531)), (by first | rfl | (simp; done) | (simp [*]; done)), H', ⟨by have := HJ3.out; have := HJ7.out; have := HJ17.out; have := HJ40.out; have := HJ44.out; have := HJ52.out; first | omega | exact Nat.le_refl _⟩, ⟨by (with_reducible repeat (first | apply Kd.R_alloc | apply Kd.R_drewN | apply Kd.R_drew)); exact Kd.R_mono HO_8.out (fun _ hk => hk.2)⟩, ⟨by (with_reducible repeat (first | apply Kd.R_alloc | apply Kd.R_drewN | apply Kd.R_drew)); exact Kd.R_mono HO_12.out (fun _ hk => hk.1)⟩, ⟨by exact Rz HO_537001⟩, ⟨by exact Bz BK519⟩, ⟨by exact Bz BK536⟩, ⟨by exact Lz2 HB GE519 GE536⟩⟩
              replace c66 := Bool.eq_false_iff.mpr c66
              subst c66
              have H1 : (laws_FnExactReducedOf.j6 kj52 l1 a2 t528 t531 t540 true a0_0 l0_1) = some r := by rw [if_neg (show ¬ (false = true) by decide)] at H; exact H
              clear H
              have H := H1
              clear H1
              have H' := Aside0.mk H
              clear H
              obtain ⟨Ao69, co69, eo69⟩ := Kd.R_slice HO_12.out
              subst eo69
              obtain ⟨Ao70, co70, eo70⟩ := Kd.R_slice HO_8.out
              subst eo70
              go_wp2_with (first | (go_at_call 28; (with_reducible refine (laws_eqIntS.calls kj52 _ _ t540 _ _ t528 false _ ?side1 ?side2 ?side3 ?side4 A65.out).mono ?_); (case side1 => exact Cz ((Kd.R_reads' HO_12.out).2.2)); (case side2 => exact (Kd.R_reads' HO_12.out).2.1); (case side3 => exact Cz ((Kd.R_reads' HO_8.out).2.2)); (case side4 => exact (Kd.R_reads' HO_8.out).2.1); rintro e w' ⟨rfl, ⟨nd, rfl⟩⟩))
              go_meet
              case rel => exact ⟨_, (true), (by first | rfl | (simp; done) | (simp [*]; done)), H', ⟨by have := HJ3.out; have := HJ7.out; have := HJ17.out; have := HJ40.out; have := HJ44.out; have := HJ52.out; first | omega | exact Nat.le_refl _⟩, ⟨by (with_reducible repeat (first | apply Kd.R_alloc | apply Kd.R_drewN | apply Kd.R_drew)); exact Kd.R_mono HO_8.out (fun _ hk => hk.2)⟩, ⟨by (with_reducible repeat (first | apply Kd.R_alloc | apply Kd.R_drewN | apply Kd.R_drew)); exact Kd.R_mono HO_12.out (fun _ hk => hk.1)⟩, ⟨by exact Rz HO_537001⟩, ⟨by exact Bz BK519⟩, ⟨by exact Bz BK536⟩, ⟨by exact Lz2 HB GE519 GE536⟩⟩
             case rest =>
              clear HC59
              try clear c1
              try clear c6
              try clear c6b0
              try clear c6b1
              try clear c11
              try clear c11b0
              try clear c36
              try clear c42
              try clear c50
              try clear c56
              try clear c64
              try clear c64b0
              try clear c66
              obtain ⟨kq, x84_58, rfl, HA, HJ58, HO_8, HO_12, HO_537001, BK519, BK536, HB⟩ := hcut
              have hl537001_58 := (Kd.R_reads' HO_537001.out).1
              rw [hl537001_58] at HO_537001
              (try simp only [hl537001_58])
              (try simp only [hl537001_58] at BK519)
              (try simp only [hl537001_58] at BK536)
              (try simp only [hl537001_58] at HO_8)
              (try simp only [hl537001_58] at HO_12)
              cases kq with
              | zero => exact absurd HA.out (by simp [laws_FnExactReducedOf.j6])
              | succ kj58 =>
               have H := HA.out
               clear HA
               simp only [laws_FnExactReducedOf.j6] at H
               have HC71 := Aside0.mk H
               clear H
               go_upto_if 84 with (fail)
               go_cut [] (fun wc => ∃ (kq : Nat), Aside0 (laws_FnExactReducedOf.j7 kq l1 a2 t528 t531 t540 a0_0 l0_1 = some r) ∧ Aside0 (kq ≤ kj58) ∧ Aside0 (Kd.R (Kd.int .i64) 3 wc w.heap.size (fun k_ => some k_ ≠ (v541 : Value).ownBlock) v529 t528) ∧ Aside0 (Kd.R (Kd.int .i64) 3 wc w.heap.size (fun k_ => some k_ ≠ (v529 : Value).ownBlock) v541 t540) ∧ Aside0 (Kd.R k70 70 wc w.heap.size (fun _ => True) (.slice Ao30 t555.length co30) t555) ∧ Aside0 (wc.heap[gb519]? = some (.cells #[.int .i64 a0_0, (.slice A0_1 l0_1.length c0_1)] 37 (0, 0))) ∧ Aside0 (wc.heap[gb536]? = some (.cells #[.int .i64 t532, (.slice Ao30 t555.length co30)] 25 (0, 0))) ∧ Aside0 (Below w.heap.size w wc))
               case first =>
                have H := HC71.out
                clear HC71
                by_cases c72 : x84_58 = true
                ·subst c72
                 have H1 : (some false) = some r := by rw [if_pos rfl] at H; exact H
                 clear H
                 have H := H1
                 clear H1
                 obtain rfl := Option.some.inj H
                 go_wp2
                 go_ret
                 exact ⟨by first | rfl | (simp [errW_none, errW_some] <;> rfl) | (simp [*, errW_none, errW_some] <;> rfl), by exact Lz2 HB GE519 GE536⟩
                replace c72 := Bool.eq_false_iff.mpr c72
                subst c72
                have H1 : (laws_FnExactReducedOf.j7 kj58 l1 a2 t528 t531 t540 a0_0 l0_1) = some r := by rw [if_neg (show ¬ (false = true) by decide)] at H; exact H
                clear H
                have H := H1
                clear H1
                have H' := Aside0.mk H
                clear H
                go_wp2
                go_meet
                case rel => exact ⟨_, H', ⟨by have := HJ3.out; have := HJ7.out; have := HJ17.out; have := HJ40.out; have := HJ44.out; have := HJ52.out; have := HJ58.out; first | omega | exact Nat.le_refl _⟩, ⟨by (try simp only [hl537001_58]); exact Rz HO_8⟩, ⟨by (try simp only [hl537001_58]); exact Rz HO_12⟩, ⟨by (try simp only [hl537001_58]); exact Rz HO_537001⟩, ⟨by (try simp only [hl537001_58]); exact Bz BK519⟩, ⟨by (try simp only [hl537001_58]); exact Bz BK536⟩, ⟨by exact Lz2 HB GE519 GE536⟩⟩
               case rest =>
                clear HC71
                try clear c1
                try clear c6
                try clear c6b0
                try clear c6b1
                try clear c11
                try clear c11b0
                try clear c36
                try clear c42
                try clear c50
                try clear c56
                try clear c64
                try clear c64b0
                try clear c66
                try clear c72
                obtain ⟨kq, HA, HJ70, HO_8, HO_12, HO_537001, BK519, BK536, HB⟩ := hcut
                cases kq with
                | zero => exact absurd HA.out (by simp [laws_FnExactReducedOf.j7])
                | succ kj70 =>
                 have H := HA.out
                 clear HA
                 simp only [laws_FnExactReducedOf.j7] at H
                 replace H := Option.bind_eq_some_iff.mp H
                 obtain ⟨⟨t559, t560⟩, A730, H⟩ := H
                 replace H : ((laws_heldIntS.f kj70 t560 1).bind fun t561 => (if t561 < 0 then (some false) else (laws_FnExactReducedOf.j8 kj70 l1 a2 t528 t531 t560 t559 t561 a0_0 l0_1))) = some r := H
                 have A73 := Aside0.mk A730
                 clear A730
                 replace H := Option.bind_eq_some_iff.mp H
                 obtain ⟨t561, A740, H⟩ := H
                 replace H : (if t561 < 0 then (some false) else (laws_FnExactReducedOf.j8 kj70 l1 a2 t528 t531 t560 t559 t561 a0_0 l0_1)) = some r := H
                 have A74 := Aside0.mk A740
                 clear A740
                 have HC75 := Aside0.mk H
                 clear H
                 obtain ⟨Ao76, co76, eo76⟩ := Kd.R_slice HO_12.out
                 subst eo76
                 go_upto_if 92 with (first | ((with_reducible refine gate_callee (f := 31) rfl ?_); refine goesM_ (some 87) rfl rfl Try.func31 (by kernel_rfl) rfl #[.slice Ao76 t540.length co76, .int .i64 1] rfl ?_; (with_reducible refine (laws_markIntS.calls kj70 (fun k_ => some k_ = (.slice Ao76 t540.length co76 : Value).ownBlock) (.slice Ao76 t540.length co76) t540 1 t559 t560 w _ ?side1 ?side2 A73.out).mono ?_); (case side1 => exact Lz2 HB GE519 GE536); (case side2 => exact Kd.R_tight rfl HO_12.out); rintro e w77 ⟨rfl, hy0, hb, hkp⟩; refine ⟨_, rfl, ?_⟩; replace HO_8 := Aside0.mk (Kd.R_mono (ok' := fun k_ => some k_ ≠ (.slice Ao76 t540.length co76 : Value).ownBlock) (Kd.R_keptB (HO_8.out) hkp (fun k_ hk_ hs_ => (hk_) hs_)) (fun k_ hk_ => hk_.1)); replace HO_537001 := Aside0.mk (Kd.R_mono (ok' := fun k_ => True) (Kd.R_keptB ((Kd.R_apart' HO_537001.out (Kd.R_typed HO_12.out) (by decide))) hkp (fun k_ hk_ hs_ => (hk_.2) hs_)) (fun k_ hk_ => trivial)); replace BK519 := Aside0.mk (blk_kept (Bz BK519) hkp (fun hs_ => (fun e_ => (Kd.R_ne HO_12.out BK519.out (by decide)) e_) hs_)); replace BK536 := Aside0.mk (blk_kept (Bz BK536) hkp (fun hs_ => (fun e_ => (Kd.R_ne HO_12.out BK536.out (by decide)) e_) hs_)); replace HO_12 := Aside0.mk (Kd.R_reok rfl hy0 (fun k_ e_ => HO_12.out.1 k_ e_)); replace HB := Aside0.mk (hb); (try clear hb); (try clear hkp); (try clear hy0)) | ((with_reducible refine gate_callee (f := 32) rfl ?_); refine goesL_ (some 90) rfl rfl Try.func32 (by kernel_rfl) rfl #[.slice Ao76 t560.length co76, .int .i64 1] rfl (by (try simp only [List.map_toArray, List.map_cons, List.map_nil]); first | done | (rw [show t560.length = t540.length from (Kd.R_reads' HO_12.out).1.symm] <;> rfl) | rfl | (simp only [List.length_drop, List.length_take]; rfl)) ?_; (with_reducible refine (laws_heldIntS.calls kj70 _ _ t560 1 t561 _ ?side1 ?side2 A74.out).mono ?_); (case side1 => exact Cz ((Kd.R_reads' HO_12.out).2.2)); (case side2 => rw [show t560.length = t540.length from (Kd.R_reads' HO_12.out).1.symm]; exact (Kd.R_reads' HO_12.out).2.1); rintro e w' ⟨rfl, ⟨nd, rfl⟩⟩; refine ⟨_, rfl, ?_⟩))
                 (try simp only [Act.put, List.setIfInBounds_toArray, List.set_cons_zero, List.set_cons_succ])
                 go_cut [] (fun wc => ∃ (kq : Nat), Aside0 (laws_FnExactReducedOf.j8 kq l1 a2 t528 t531 t560 t559 t561 a0_0 l0_1 = some r) ∧ Aside0 (kq ≤ kj70) ∧ Aside0 (Kd.R (Kd.int .i64) 3 wc w.heap.size (fun k_ => some k_ ≠ ((.slice Ao76 t540.length co76) : Value).ownBlock) v529 t528) ∧ Aside0 (Kd.R (Kd.int .i64) 3 wc w.heap.size (fun k_ => some k_ ≠ (v529 : Value).ownBlock) (.slice Ao76 t540.length co76) t560) ∧ Aside0 (Kd.R k70 70 wc w.heap.size (fun _ => True) (.slice Ao30 t555.length co30) t555) ∧ Aside0 (wc.heap[gb519]? = some (.cells #[.int .i64 a0_0, (.slice A0_1 l0_1.length c0_1)] 37 (0, 0))) ∧ Aside0 (wc.heap[gb536]? = some (.cells #[.int .i64 t532, (.slice Ao30 t555.length co30)] 25 (0, 0))) ∧ Aside0 (Below w.heap.size w wc))
                 case first =>
                  have H := HC75.out
                  clear HC75
                  by_cases c78 : t561 < 0
                  ·rw [if_pos c78] at H
                   have c78b0 : decide (t561 < 0) = true := decide_eq_true c78
                   clear c78
                   (first | rw [c78b0] | (simp only [i64_w, i32_w]; rw [c78b0]) | skip)
                   obtain rfl := Option.some.inj H
                   go_wp2
                   go_ret
                   exact ⟨by first | rfl | (simp [errW_none, errW_some] <;> rfl) | (simp [*, errW_none, errW_some] <;> rfl), by exact Lz2 HB GE519 GE536⟩
                  rw [if_neg c78] at H
                  have c78b0 : decide (t561 < 0) = false := decide_eq_false c78
                  clear c78
                  (first | rw [c78b0] | (simp only [i64_w, i32_w]; rw [c78b0]) | skip)
                  have H' := Aside0.mk H
                  clear H
                  go_wp2
                  go_meet
                  case rel => exact ⟨_, H', ⟨by have := HJ3.out; have := HJ7.out; have := HJ17.out; have := HJ40.out; have := HJ44.out; have := HJ52.out; have := HJ58.out; have := HJ70.out; first | omega | exact Nat.le_refl _⟩, ⟨by (try simp only [hl537001_58]); exact Rz HO_8⟩, ⟨by (try simp only [hl537001_58]); exact Rz HO_12⟩, ⟨by (try simp only [hl537001_58]); exact Rz HO_537001⟩, ⟨by (try simp only [hl537001_58]); exact Bz BK519⟩, ⟨by (try simp only [hl537001_58]); exact Bz BK536⟩, ⟨by exact Lz2 HB GE519 GE536⟩⟩
                 case rest =>
                  clear HC75
                  try clear c1
                  try clear c6
                  try clear c6b0
                  try clear c6b1
                  try clear c11
                  try clear c11b0
                  try clear c36
                  try clear c42
                  try clear c50
                  try clear c56
                  try clear c64
                  try clear c64b0
                  try clear c66
                  try clear c72
                  try clear c78
                  try clear c78b0
                  obtain ⟨kq, HA, HJ74, HO_8, HO_12, HO_537001, BK519, BK536, HB⟩ := hcut
                  have hl12_74 := (Kd.R_reads' HO_12.out).1
                  rw [hl12_74] at HO_12
                  (try simp only [hl12_74])
                  (try simp only [hl12_74] at BK519)
                  (try simp only [hl12_74] at BK536)
                  (try simp only [hl12_74] at HO_8)
                  (try simp only [hl12_74] at HO_537001)
                  cases kq with
                  | zero => exact absurd HA.out (by simp [laws_FnExactReducedOf.j8])
                  | succ kj74 =>
                   have H := HA.out
                   clear HA
                   simp only [laws_FnExactReducedOf.j8] at H
                   have HC79 := Aside0.mk H
                   clear H
                   go_upto_if 95 with (fail)
                   go_cut [] (fun wc => ∃ (kq : Nat), Aside0 (laws_FnExactReducedOf.j9 kq l1 a2 t528 t531 t560 t559 a0_0 l0_1 = some r) ∧ Aside0 (kq ≤ kj74) ∧ Aside0 (Kd.R (Kd.int .i64) 3 wc w.heap.size (fun k_ => some k_ ≠ ((.slice Ao76 t560.length co76) : Value).ownBlock) v529 t528) ∧ Aside0 (Kd.R (Kd.int .i64) 3 wc w.heap.size (fun k_ => some k_ ≠ (v529 : Value).ownBlock) (.slice Ao76 t560.length co76) t560) ∧ Aside0 (Kd.R k70 70 wc w.heap.size (fun _ => True) (.slice Ao30 t555.length co30) t555) ∧ Aside0 (wc.heap[gb519]? = some (.cells #[.int .i64 a0_0, (.slice A0_1 l0_1.length c0_1)] 37 (0, 0))) ∧ Aside0 (wc.heap[gb536]? = some (.cells #[.int .i64 t532, (.slice Ao30 t555.length co30)] 25 (0, 0))) ∧ Aside0 (Below w.heap.size w wc))
                   case first =>
                    have H := HC79.out
                    clear HC79
                    by_cases c80 : t561 = t559
                    ·rw [if_pos c80] at H
                     have c80b0 : (t561 == t559) = true := beq_iff_eq.mpr c80
                     have c80b1 : (t561 != t559) = false := bne_eq_false_iff_eq.mpr c80
                     clear c80
                     (first | rw [c80b0] | (simp only [i64_w, i32_w]; rw [c80b0]) | skip)
                     have H' := Aside0.mk H
                     clear H
                     go_wp2
                     go_meet
                     case rel => exact ⟨_, H', ⟨by have := HJ3.out; have := HJ7.out; have := HJ17.out; have := HJ40.out; have := HJ44.out; have := HJ52.out; have := HJ58.out; have := HJ70.out; have := HJ74.out; first | omega | exact Nat.le_refl _⟩, ⟨by (try simp only [hl537001_58]); (try simp only [hl12_74]); exact Rz HO_8⟩, ⟨by (try simp only [hl537001_58]); (try simp only [hl12_74]); exact Rz HO_12⟩, ⟨by (try simp only [hl537001_58]); (try simp only [hl12_74]); exact Rz HO_537001⟩, ⟨by (try simp only [hl537001_58]); (try simp only [hl12_74]); exact Bz BK519⟩, ⟨by (try simp only [hl537001_58]); (try simp only [hl12_74]); exact Bz BK536⟩, ⟨by exact Lz2 HB GE519 GE536⟩⟩
                    rw [if_neg c80] at H
                    have c80b0 : (t561 == t559) = false := beq_eq_false_iff_ne.mpr c80
                    have c80b1 : (t561 != t559) = true := bne_iff_ne.mpr c80
                    (first | rw [c80b0] | (simp only [i64_w, i32_w]; rw [c80b0]) | skip)
                    obtain rfl := Option.some.inj H
                    go_wp2
                    go_ret
                    exact ⟨by first | rfl | (simp [errW_none, errW_some] <;> rfl) | (simp [*, errW_none, errW_some] <;> rfl), by exact Lz2 HB GE519 GE536⟩
                   case rest =>
                    clear HC79
                    try clear c1
                    try clear c6
                    try clear c6b0
                    try clear c6b1
                    try clear c11
                    try clear c11b0
                    try clear c36
                    try clear c42
                    try clear c50
                    try clear c56
                    try clear c64
                    try clear c64b0
                    try clear c66
                    try clear c72
                    try clear c78
                    try clear c78b0
                    try clear c80
                    try clear c80b0
                    try clear c80b1
                    obtain ⟨kq, HA, HJ78, HO_8, HO_12, HO_537001, BK519, BK536, HB⟩ := hcut
                    cases kq with
                    | zero => exact absurd HA.out (by simp [laws_FnExactReducedOf.j9])
                    | succ kj78 =>
                     have H := HA.out
                     clear HA
                     simp only [laws_FnExactReducedOf.j9] at H
                     replace H := Option.bind_eq_some_iff.mp H
                     obtain ⟨⟨t562, t563⟩, A810, H⟩ := H
                     replace H : ((laws_toIntS.f kj78 l1).bind fun t566 => ((impl_ReducedOf.f kj78 t562 t563 t566 a2).bind fun bt569 => ((laws_eqIntS.f kj78 bt569.1 t528).bind fun t573 => (if t573 = true then (laws_FnExactReducedOf.j10 kj78 t560 t559 (bt569.2 != t531)) else (laws_FnExactReducedOf.j10 kj78 t560 t559 true))))) = some r := H
                     have A81 := Aside0.mk A810
                     clear A810
                     replace H := Option.bind_eq_some_iff.mp H
                     obtain ⟨t566, A820, H⟩ := H
                     replace H : ((impl_ReducedOf.f kj78 t562 t563 t566 a2).bind fun bt569 => ((laws_eqIntS.f kj78 bt569.1 t528).bind fun t573 => (if t573 = true then (laws_FnExactReducedOf.j10 kj78 t560 t559 (bt569.2 != t531)) else (laws_FnExactReducedOf.j10 kj78 t560 t559 true)))) = some r := H
                     have A82 := Aside0.mk A820
                     clear A820
                     replace H := Option.bind_eq_some_iff.mp H
                     obtain ⟨⟨t569, t572⟩, A830, H⟩ := H
                     replace H : ((laws_eqIntS.f kj78 t569 t528).bind fun t573 => (if t573 = true then (laws_FnExactReducedOf.j10 kj78 t560 t559 (t572 != t531)) else (laws_FnExactReducedOf.j10 kj78 t560 t559 true))) = some r := H
                     have A83 := Aside0.mk A830
                     clear A830
                     have HC84 := Aside0.mk H
                     clear H
                     have hnb85 := NB519_536.out
                     have hnc85 := NB536_519.out
                     have hcz86_0 : wc.cell? ⟨gb519, 0, none⟩ = some (.int .i64 a0_0) := (blk_cell BK519.out 0).trans rfl
                     have hcz86_1 : wc.cell? ⟨gb519, 1, none⟩ = some (.slice A0_1 l0_1.length c0_1) := (blk_cell BK519.out 1).trans rfl
                     have hfz86_0 := blk_frozen BK519.out 0
                     have hfz86_1 := blk_frozen BK519.out 1
                     go_upto_region 31 with (first | ((with_reducible refine gate_callee (f := 25) rfl ?_); refine goesM_ (some 98) rfl rfl Try.func25 (by kernel_rfl) rfl #[.agg #[.int .i64 a0_0, .slice A0_1 l0_1.length c0_1]] rfl ?_; (with_reducible refine (laws_toGraph.calls kj78 a0_0 _ _ l0_1 t562 t563 _ ?side1 ?side2 A81.out).mono ?_); (case side1 => exact Cz ((Kd.C_below HR0_1.out HB.out))); (case side2 => exact HC0_1.out); rintro e w87 ⟨v564, rfl, ho0, hb⟩; refine ⟨_, rfl, ?_⟩; replace HO_8 := Aside0.mk (Kd.R_below (Rz HO_8) hb); replace HO_12 := Aside0.mk (Kd.R_below (Rz HO_12) hb); have HO565 := Aside0.mk (Kd.R_lower (Kd.R_new' ho0 (Kd.R_lt (Rz HO_537001))) (below_size (by exact Lz2 HB GE519 GE536))); replace HO_537001 := Aside0.mk (Kd.R_elder' (Rz HO_537001) (Kd.R_base ho0) hb); replace BK519 := Aside0.mk (blk_below (g := gb519) (o := .cells #[.int .i64 a0_0, .slice A0_1 l0_1.length c0_1] 37 (0, 0)) (Bz BK519) hb); replace BK536 := Aside0.mk (blk_below (g := gb536) (o := .cells #[.int .i64 t532, .slice Ao30 t555.length co30] 25 (0, 0)) (Bz BK536) hb); replace HB := Aside0.mk (below_step (by exact Lz2 HB GE519 GE536) hb); (try clear hb); (try clear ho0)) | ((with_reducible refine gate_callee (f := 26) rfl ?_); refine goesM_ (some 100) rfl rfl Try.func26 (by kernel_rfl) rfl #[.slice A1 l1.length c1] rfl ?_; (with_reducible refine (laws_toIntS.calls kj78 _ _ l1 t566 _ ?side1 ?side2 A82.out).mono ?_); (case side1 => exact Cz ((Kd.C_below HR1.out HB.out))); (case side2 => exact HC1.out); rintro e w88 ⟨v567, rfl, ho0, hb⟩; refine ⟨_, rfl, ?_⟩; replace HO_537001 := Aside0.mk (Kd.R_below (Rz HO_537001) hb); replace HO565 := Aside0.mk (Kd.R_below (Rz HO565) hb); have HO568 := Aside0.mk (Kd.R_lower (Kd.R_new' (Kd.R_new' ho0 (Kd.R_lt (Rz HO_8))) (Kd.R_lt (Rz HO_12))) (below_size (by exact Lz2 HB GE519 GE536))); replace HO_8 := Aside0.mk (Kd.R_elder' (Rz HO_8) (Kd.R_base ho0) hb); replace HO_12 := Aside0.mk (Kd.R_elder' (Rz HO_12) (Kd.R_base ho0) hb); replace BK519 := Aside0.mk (blk_below (g := gb519) (o := .cells #[.int .i64 a0_0, .slice A0_1 l0_1.length c0_1] 37 (0, 0)) (Bz BK519) hb); replace BK536 := Aside0.mk (blk_below (g := gb536) (o := .cells #[.int .i64 t532, .slice Ao30 t555.length co30] 25 (0, 0)) (Bz BK536) hb); replace HB := Aside0.mk (below_step (by exact Lz2 HB GE519 GE536) hb); (try clear hb); (try clear ho0); obtain ⟨Ao89, co89, eo89⟩ := Kd.R_slice HO565.out; subst eo89; obtain ⟨Ao90, co90, eo90⟩ := Kd.R_slice HO568.out; subst eo90) | ((with_reducible refine gate_callee (f := 42) rfl ?_); refine goesM_ (some 102) rfl rfl Try.func42 (by kernel_rfl) rfl #[.agg #[.int .i64 t562, .slice Ao89 t563.length co89], .slice Ao90 t566.length co90, .int .i64 a2] rfl ?_; (with_reducible refine (impl_ReducedOf.calls kj78 t562 _ _ t563 _ _ t566 a2 t569 t572 _ ?side1 ?side2 ?side3 ?side4 A83.out).mono ?_); (case side1 => exact Cz ((Kd.R_reads' HO565.out).2.2)); (case side2 => exact (Kd.R_reads' HO565.out).2.1); (case side3 => exact Cz ((Kd.R_reads' HO568.out).2.2)); (case side4 => exact (Kd.R_reads' HO568.out).2.1); rintro e w91 ⟨v570, rfl, ho0, hb⟩; refine ⟨_, rfl, ?_⟩; replace HO_537001 := Aside0.mk (Kd.R_below (Rz HO_537001) hb); replace HO565 := Aside0.mk (Kd.R_below (Rz HO565) hb); have HO571 := Aside0.mk (Kd.R_lower (Kd.R_new' (Kd.R_new' (Kd.R_new' ho0 (Kd.R_lt (Rz HO_8))) (Kd.R_lt (Rz HO_12))) (Kd.R_lt (Rz HO568))) (below_size (by exact Lz2 HB GE519 GE536))); replace HO_8 := Aside0.mk (Kd.R_elder' (Rz HO_8) (Kd.R_base ho0) hb); replace HO_12 := Aside0.mk (Kd.R_elder' (Rz HO_12) (Kd.R_base ho0) hb); replace HO568 := Aside0.mk (Kd.R_elder' (Rz HO568) (Kd.R_base ho0) hb); replace BK519 := Aside0.mk (blk_below (g := gb519) (o := .cells #[.int .i64 a0_0, .slice A0_1 l0_1.length c0_1] 37 (0, 0)) (Bz BK519) hb); replace BK536 := Aside0.mk (blk_below (g := gb536) (o := .cells #[.int .i64 t532, .slice Ao30 t555.length co30] 25 (0, 0)) (Bz BK536) hb); replace HB := Aside0.mk (below_step (by exact Lz2 HB GE519 GE536) hb); (try clear hb); (try clear ho0)))
                     (try simp only [Act.put, List.setIfInBounds_toArray, List.set_cons_zero, List.set_cons_succ])
                     go_cut [113] (fun v113 wc => ∃ (kq : Nat) (x113_83 : Bool), v113 = .bool x113_83 ∧ Aside0 (laws_FnExactReducedOf.j10 kq t560 t559 x113_83 = some r) ∧ Aside0 (kq ≤ kj78) ∧ Aside0 (Kd.R (Kd.int .i64) 3 wc w.heap.size (fun _ => True) (.slice Ao76 t560.length co76) t560) ∧ Aside0 (Kd.R k70 70 wc w.heap.size (fun _ => True) (.slice Ao30 t555.length co30) t555) ∧ Aside0 (wc.heap[gb519]? = some (.cells #[.int .i64 a0_0, (.slice A0_1 l0_1.length c0_1)] 37 (0, 0))) ∧ Aside0 (wc.heap[gb536]? = some (.cells #[.int .i64 t532, (.slice Ao30 t555.length co30)] 25 (0, 0))) ∧ Aside0 (Below w.heap.size w wc))
                     case first =>
                      have H := HC84.out
                      clear HC84
                      replace H := Option.bind_eq_some_iff.mp H
                      obtain ⟨t573, A920, H⟩ := H
                      replace H : (if t573 = true then (laws_FnExactReducedOf.j10 kj78 t560 t559 (t572 != t531)) else (laws_FnExactReducedOf.j10 kj78 t560 t559 true)) = some r := H
                      have A92 := Aside0.mk A920
                      clear A920
                      by_cases c93 : t573 = true
                      ·subst c93
                       have H1 : (laws_FnExactReducedOf.j10 kj78 t560 t559 (t572 != t531)) = some r := by rw [if_pos rfl] at H; exact H
                       clear H
                       have H := H1
                       clear H1
                       have H' := Aside0.mk H
                       clear H
                       obtain ⟨Ao94, co94, eo94⟩ := Kd.R_slice HO571.out
                       subst eo94
                       obtain ⟨Ao95, co95, eo95⟩ := Kd.R_slice HO_8.out
                       subst eo95
                       go_wp2_with (first | ((with_reducible refine gate_callee (f := 28) rfl ?_); refine goesM_ (some 107) rfl rfl Try.func28 (by kernel_rfl) rfl #[.slice Ao94 t569.length co94, .slice Ao95 t528.length co95] rfl ?_; (with_reducible refine (laws_eqIntS.calls kj78 _ _ t569 _ _ t528 true _ ?side1 ?side2 ?side3 ?side4 A92.out).mono ?_); (case side1 => exact Cz ((Kd.R_reads' HO571.out).2.2)); (case side2 => exact (Kd.R_reads' HO571.out).2.1); (case side3 => exact Cz ((Kd.R_reads' HO_8.out).2.2)); (case side4 => exact (Kd.R_reads' HO_8.out).2.1); rintro e w' ⟨rfl, ⟨nd, rfl⟩⟩; refine ⟨_, rfl, ?_⟩))
                       go_meet
                       case rel => exact ⟨_, ((t572 != t531)), (by first | rfl | (simp; done) | (simp [*]; done)), H', ⟨by have := HJ3.out; have := HJ7.out; have := HJ17.out; have := HJ40.out; have := HJ44.out; have := HJ52.out; have := HJ58.out; have := HJ70.out; have := HJ74.out; have := HJ78.out; first | omega | exact Nat.le_refl _⟩, ⟨by (try simp only [hl537001_58]); (try simp only [hl12_74]); (with_reducible repeat (first | apply Kd.R_alloc | apply Kd.R_drewN | apply Kd.R_drew)); exact Kd.R_mono HO_12.out (fun _ hk => trivial)⟩, ⟨by (try simp only [hl537001_58]); (try simp only [hl12_74]); (with_reducible repeat (first | apply Kd.R_alloc | apply Kd.R_drewN | apply Kd.R_drew)); exact Kd.R_mono HO_537001.out (fun _ hk => trivial)⟩, ⟨by (try simp only [hl537001_58]); (try simp only [hl12_74]); exact Bz BK519⟩, ⟨by (try simp only [hl537001_58]); (try simp only [hl12_74]); exact Bz BK536⟩, ⟨by exact Lz2 HB GE519 GE536⟩⟩
                      replace c93 := Bool.eq_false_iff.mpr c93
                      subst c93
                      have H1 : (laws_FnExactReducedOf.j10 kj78 t560 t559 true) = some r := by rw [if_neg (show ¬ (false = true) by decide)] at H; exact H
                      clear H
                      have H := H1
                      clear H1
                      have H' := Aside0.mk H
                      clear H
                      obtain ⟨Ao96, co96, eo96⟩ := Kd.R_slice HO571.out
                      subst eo96
                      obtain ⟨Ao97, co97, eo97⟩ := Kd.R_slice HO_8.out
                      subst eo97
                      go_wp2_with (first | ((with_reducible refine gate_callee (f := 28) rfl ?_); refine goesM_ (some 107) rfl rfl Try.func28 (by kernel_rfl) rfl #[.slice Ao96 t569.length co96, .slice Ao97 t528.length co97] rfl ?_; (with_reducible refine (laws_eqIntS.calls kj78 _ _ t569 _ _ t528 false _ ?side1 ?side2 ?side3 ?side4 A92.out).mono ?_); (case side1 => exact Cz ((Kd.R_reads' HO571.out).2.2)); (case side2 => exact (Kd.R_reads' HO571.out).2.1); (case side3 => exact Cz ((Kd.R_reads' HO_8.out).2.2)); (case side4 => exact (Kd.R_reads' HO_8.out).2.1); rintro e w' ⟨rfl, ⟨nd, rfl⟩⟩; refine ⟨_, rfl, ?_⟩))
                      go_meet
                      case rel => exact ⟨_, (true), (by first | rfl | (simp; done) | (simp [*]; done)), H', ⟨by have := HJ3.out; have := HJ7.out; have := HJ17.out; have := HJ40.out; have := HJ44.out; have := HJ52.out; have := HJ58.out; have := HJ70.out; have := HJ74.out; have := HJ78.out; first | omega | exact Nat.le_refl _⟩, ⟨by (try simp only [hl537001_58]); (try simp only [hl12_74]); (with_reducible repeat (first | apply Kd.R_alloc | apply Kd.R_drewN | apply Kd.R_drew)); exact Kd.R_mono HO_12.out (fun _ hk => trivial)⟩, ⟨by (try simp only [hl537001_58]); (try simp only [hl12_74]); (with_reducible repeat (first | apply Kd.R_alloc | apply Kd.R_drewN | apply Kd.R_drew)); exact Kd.R_mono HO_537001.out (fun _ hk => trivial)⟩, ⟨by (try simp only [hl537001_58]); (try simp only [hl12_74]); exact Bz BK519⟩, ⟨by (try simp only [hl537001_58]); (try simp only [hl12_74]); exact Bz BK536⟩, ⟨by exact Lz2 HB GE519 GE536⟩⟩
                     case rest =>
                      clear HC84
                      try clear c1
                      try clear c6
                      try clear c6b0
                      try clear c6b1
                      try clear c11
                      try clear c11b0
                      try clear c36
                      try clear c42
                      try clear c50
                      try clear c56
                      try clear c64
                      try clear c64b0
                      try clear c66
                      try clear c72
                      try clear c78
                      try clear c78b0
                      try clear c80
                      try clear c80b0
                      try clear c80b1
                      try clear c93
                      obtain ⟨kq, x113_83, rfl, HA, HJ83, HO_12, HO_537001, BK519, BK536, HB⟩ := hcut
                      cases kq with
                      | zero => exact absurd HA.out (by simp [laws_FnExactReducedOf.j10])
                      | succ kj83 =>
                       have H := HA.out
                       clear HA
                       simp only [laws_FnExactReducedOf.j10] at H
                       have HC98 := Aside0.mk H
                       clear H
                       go_upto_if 113 with (fail)
                       go_cut [] (fun wc => ∃ (kq : Nat), Aside0 (laws_FnExactReducedOf.j11 kq t560 t559 = some r) ∧ Aside0 (kq ≤ kj83) ∧ Aside0 (Kd.R (Kd.int .i64) 3 wc w.heap.size (fun _ => True) (.slice Ao76 t560.length co76) t560) ∧ Aside0 (Kd.R k70 70 wc w.heap.size (fun _ => True) (.slice Ao30 t555.length co30) t555) ∧ Aside0 (wc.heap[gb519]? = some (.cells #[.int .i64 a0_0, (.slice A0_1 l0_1.length c0_1)] 37 (0, 0))) ∧ Aside0 (wc.heap[gb536]? = some (.cells #[.int .i64 t532, (.slice Ao30 t555.length co30)] 25 (0, 0))) ∧ Aside0 (Below w.heap.size w wc))
                       case first =>
                        have H := HC98.out
                        clear HC98
                        by_cases c99 : x113_83 = true
                        ·subst c99
                         have H1 : (some false) = some r := by rw [if_pos rfl] at H; exact H
                         clear H
                         have H := H1
                         clear H1
                         obtain rfl := Option.some.inj H
                         go_wp2
                         go_ret
                         exact ⟨by first | rfl | (simp [errW_none, errW_some] <;> rfl) | (simp [*, errW_none, errW_some] <;> rfl), by exact Lz2 HB GE519 GE536⟩
                        replace c99 := Bool.eq_false_iff.mpr c99
                        subst c99
                        have H1 : (laws_FnExactReducedOf.j11 kj83 t560 t559) = some r := by rw [if_neg (show ¬ (false = true) by decide)] at H; exact H
                        clear H
                        have H := H1
                        clear H1
                        have H' := Aside0.mk H
                        clear H
                        go_wp2
                        go_meet
                        case rel => exact ⟨_, H', ⟨by have := HJ3.out; have := HJ7.out; have := HJ17.out; have := HJ40.out; have := HJ44.out; have := HJ52.out; have := HJ58.out; have := HJ70.out; have := HJ74.out; have := HJ78.out; have := HJ83.out; first | omega | exact Nat.le_refl _⟩, ⟨by (try simp only [hl537001_58]); (try simp only [hl12_74]); exact Rz HO_12⟩, ⟨by (try simp only [hl537001_58]); (try simp only [hl12_74]); exact Rz HO_537001⟩, ⟨by (try simp only [hl537001_58]); (try simp only [hl12_74]); exact Bz BK519⟩, ⟨by (try simp only [hl537001_58]); (try simp only [hl12_74]); exact Bz BK536⟩, ⟨by exact Lz2 HB GE519 GE536⟩⟩
                       case rest =>
                        clear HC98
                        try clear c1
                        try clear c6
                        try clear c6b0
                        try clear c6b1
                        try clear c11
                        try clear c11b0
                        try clear c36
                        try clear c42
                        try clear c50
                        try clear c56
                        try clear c64
                        try clear c64b0
                        try clear c66
                        try clear c72
                        try clear c78
                        try clear c78b0
                        try clear c80
                        try clear c80b0
                        try clear c80b1
                        try clear c93
                        try clear c99
                        obtain ⟨kq, HA, HJ97, HO_12, HO_537001, BK519, BK536, HB⟩ := hcut
                        cases kq with
                        | zero => exact absurd HA.out (by simp [laws_FnExactReducedOf.j11])
                        | succ kj97 =>
                         have H := HA.out
                         clear HA
                         simp only [laws_FnExactReducedOf.j11] at H
                         replace H := Option.bind_eq_some_iff.mp H
                         obtain ⟨t574, A1000, H⟩ := H
                         replace H : (if t574 < 0 then (some false) else (laws_FnExactReducedOf.j12 kj97 t559 t574)) = some r := H
                         have A100 := Aside0.mk A1000
                         clear A1000
                         have HC101 := Aside0.mk H
                         clear H
                         go_upto_if 118 with (first | ((with_reducible refine gate_callee (f := 32) rfl ?_); refine goesM_ (some 116) rfl rfl Try.func32 (by kernel_rfl) rfl #[.slice Ao76 t560.length co76, .int .i64 1] rfl ?_; (with_reducible refine (laws_heldIntS.calls kj97 _ _ t560 1 t574 _ ?side1 ?side2 A100.out).mono ?_); (case side1 => exact Cz ((Kd.R_reads' HO_12.out).2.2)); (case side2 => exact (Kd.R_reads' HO_12.out).2.1); rintro e w' ⟨rfl, ⟨nd, rfl⟩⟩; refine ⟨_, rfl, ?_⟩))
                         (try simp only [Act.put, List.setIfInBounds_toArray, List.set_cons_zero, List.set_cons_succ])
                         go_cut [] (fun wc => ∃ (kq : Nat), Aside0 (laws_FnExactReducedOf.j12 kq t559 t574 = some r) ∧ Aside0 (kq ≤ kj97) ∧ Aside0 (Kd.R k70 70 wc w.heap.size (fun _ => True) (.slice Ao30 t555.length co30) t555) ∧ Aside0 (wc.heap[gb519]? = some (.cells #[.int .i64 a0_0, (.slice A0_1 l0_1.length c0_1)] 37 (0, 0))) ∧ Aside0 (wc.heap[gb536]? = some (.cells #[.int .i64 t532, (.slice Ao30 t555.length co30)] 25 (0, 0))) ∧ Aside0 (Below w.heap.size w wc))
                         case first =>
                          have H := HC101.out
                          clear HC101
                          by_cases c102 : t574 < 0
                          ·rw [if_pos c102] at H
                           have c102b0 : decide (t574 < 0) = true := decide_eq_true c102
                           clear c102
                           (first | rw [c102b0] | (simp only [i64_w, i32_w]; rw [c102b0]) | skip)
                           obtain rfl := Option.some.inj H
                           go_wp2
                           go_ret
                           exact ⟨by first | rfl | (simp [errW_none, errW_some] <;> rfl) | (simp [*, errW_none, errW_some] <;> rfl), by exact Lz2 HB GE519 GE536⟩
                          rw [if_neg c102] at H
                          have c102b0 : decide (t574 < 0) = false := decide_eq_false c102
                          clear c102
                          (first | rw [c102b0] | (simp only [i64_w, i32_w]; rw [c102b0]) | skip)
                          have H' := Aside0.mk H
                          clear H
                          go_wp2
                          go_meet
                          case rel => exact ⟨_, H', ⟨by have := HJ3.out; have := HJ7.out; have := HJ17.out; have := HJ40.out; have := HJ44.out; have := HJ52.out; have := HJ58.out; have := HJ70.out; have := HJ74.out; have := HJ78.out; have := HJ83.out; have := HJ97.out; first | omega | exact Nat.le_refl _⟩, ⟨by (try simp only [hl537001_58]); (try simp only [hl12_74]); exact Rz HO_537001⟩, ⟨by (try simp only [hl537001_58]); (try simp only [hl12_74]); exact Bz BK519⟩, ⟨by (try simp only [hl537001_58]); (try simp only [hl12_74]); exact Bz BK536⟩, ⟨by exact Lz2 HB GE519 GE536⟩⟩
                         case rest =>
                          clear HC101
                          try clear c1
                          try clear c6
                          try clear c6b0
                          try clear c6b1
                          try clear c11
                          try clear c11b0
                          try clear c36
                          try clear c42
                          try clear c50
                          try clear c56
                          try clear c64
                          try clear c64b0
                          try clear c66
                          try clear c72
                          try clear c78
                          try clear c78b0
                          try clear c80
                          try clear c80b0
                          try clear c80b1
                          try clear c93
                          try clear c99
                          try clear c102
                          try clear c102b0
                          obtain ⟨kq, HA, HJ100, HO_537001, BK519, BK536, HB⟩ := hcut
                          cases kq with
                          | zero => exact absurd HA.out (by simp [laws_FnExactReducedOf.j12])
                          | succ kj100 =>
                           have H := HA.out
                           clear HA
                           simp only [laws_FnExactReducedOf.j12] at H
                           by_cases c103 : t574 = t559
                           ·rw [if_pos c103] at H
                            have c103b0 : (t574 == t559) = true := beq_iff_eq.mpr c103
                            have c103b1 : (t574 != t559) = false := bne_eq_false_iff_eq.mpr c103
                            clear c103
                            obtain rfl := Option.some.inj H
                            go_wp2
                            go_ret
                            exact ⟨by first | rfl | (simp [errW_none, errW_some] <;> rfl) | (simp [*, errW_none, errW_some] <;> rfl), by exact Lz2 HB GE519 GE536⟩
                           rw [if_neg c103] at H
                           have c103b0 : (t574 == t559) = false := beq_eq_false_iff_ne.mpr c103
                           have c103b1 : (t574 != t559) = true := bne_iff_ne.mpr c103
                           obtain rfl := Option.some.inj H
                           go_wp2
                           go_ret
                           exact ⟨by first | rfl | (simp [errW_none, errW_some] <;> rfl) | (simp [*, errW_none, errW_some] <;> rfl), by exact Lz2 HB GE519 GE536⟩
end Go.Proofs.Ytnebapnfkolflaa.P
end
section
namespace Go.Proofs.Ytnebapnfkolflaa.Pure
open Go.RowKit Go.Proofs.Ytnebapnfkolflaa.P Go.Proofs.YtnebapnfkolflaaW.PrintWords Go.Proofs.YtnebapnfkolflaaW.PrintLast Go.Proofs.YtnebapnfkolflaaW.PrintMore
def StatFnExactReducedOf : Prop := ∀ (a0_0 : Int) (l0_1 : List (S95)) (l1 : List (Int)) (a2 : Int), ((Lit.int .i64 a0_0).wf = true ∧ (l0_1.length ≤ maxLen ∧ ∀ x4 ∈ l0_1, (Lit.int .i64 x4.f0).wf = true ∧ (Lit.int .i64 x4.f1).wf = true)) → (l1.length ≤ maxLen ∧ ∀ x2 ∈ l1, (Lit.int .i64 x2).wf = true) → (Lit.int .i64 a2).wf = true → ∃ k, laws_FnExactReducedOf.f k a0_0 l0_1 l1 a2 = some true
end Go.Proofs.Ytnebapnfkolflaa.Pure
end
section
set_option linter.unusedVariables false
set_option linter.unusedSimpArgs false
namespace Go.Proofs.Ytnebapnfkolflaa.Pure
open Go.RowKit Go.Proofs.Ytnebapnfkolflaa.P Go.Proofs.YtnebapnfkolflaaW.PrintWords Go.Proofs.YtnebapnfkolflaaW.PrintLast Go.Proofs.YtnebapnfkolflaaW.PrintMore Go.Proofs.Ytnebapnfkolflaa.Base Go.Proofs.Ytnebapnfkolflaa.Reduce Go.Proofs.Ytnebapnfkolflaa.Loops Go.Proofs.Ytnebapnfkolflaa.Bits
theorem FnExactReducedOf : StatFnExactReducedOf := by
  intro n l d1 i2 ⟨_, hl, _⟩ ⟨_, _⟩ _
  refine Ev.rounds (r := true) ?_
  unfold laws_FnExactReducedOf.f
  by_cases hd1 : (d1.length : Int) > 1048576
  · repeat (first
      | exact Ev.now _
      | dsimp only
      | with_reducible refine ev_ift (by first | rfl | omega) ?_
      | with_reducible refine ev_ifn (by omega) ?_
      | with_reducible refine ev_ifb ?_
      | with_reducible refine ev_ifnn ?_
      | with_reducible refine ev_iff ?_
      | (refine ev_succ ?_; simp only [if_true, laws_FnExactReducedOf.j0, laws_FnExactReducedOf.j1, laws_FnExactReducedOf.j2, laws_FnExactReducedOf.j3, laws_FnExactReducedOf.j4, laws_FnExactReducedOf.j5, laws_FnExactReducedOf.j6, laws_FnExactReducedOf.j7, laws_FnExactReducedOf.j8, laws_FnExactReducedOf.j9, laws_FnExactReducedOf.j10, laws_FnExactReducedOf.j11, laws_FnExactReducedOf.j12])
      )
  have hs := szGraph_eq n l hl 1048576 (by omega) (by omega)
  by_cases h : (l.length : Int) ≤ 1048576
  · have es : Ev (fun _ : Nat => laws_szGraph.f n l 1048576) (1048576 - (l.length : Int)) := ev_const fun _ => by rw [hs, if_pos h]
    have tg := toGraph_ev n l (by omega)
    have hm := map_cv_length l
    have hL : (l.map cvE).length < 4611686018427387904 := by omega
    have hLd1 : d1.length < 4611686018427387904 := by omega
    have td1 := toIntS_ev d1 (by omega)
    have ed1 := eqIntS_ev d1 hLd1
    obtain ⟨r, q, g1, g2, hr, _⟩ := reducedOf_both n (l.map cvE) d1 i2 hL hLd1
    have eg := eqGraph_ev n (l.map cvE) hL
    have er := eqIntS_ev r (by omega)
    obtain ⟨y, my⟩ := markGraph_ev n (l.map cvE) (by omega)
    have md1 := markIntS_ev (2 * ((l.map cvE).length : Int) + 1) (by omega) d1 (by omega)
    have mr := markIntS_ev 1 (by omega) r (by omega)
    have he := heldIntS_ev r.length (by omega)
    repeat (first
      | exact Ev.now _
      | dsimp only
      | (with_reducible refine Ev.bind es ?_) | (with_reducible refine Ev.bind tg ?_) | (with_reducible refine Ev.bind td1 ?_) | (with_reducible refine Ev.bind ed1 ?_) | (with_reducible refine Ev.bind g1 ?_) | (with_reducible refine Ev.bind g2 ?_) | (with_reducible refine Ev.bind eg ?_) | (with_reducible refine Ev.bind er ?_) | (with_reducible refine Ev.bind my ?_) | (with_reducible refine Ev.bind md1 ?_) | (with_reducible refine Ev.bind mr ?_) | (with_reducible refine Ev.bind he ?_)
      | with_reducible refine ev_ift (by first | rfl | omega) ?_
      | with_reducible refine ev_ifn (by omega) ?_
      | with_reducible refine ev_ifb ?_
      | with_reducible refine ev_ifnn ?_
      | with_reducible refine ev_iff ?_
      | (refine ev_succ ?_; simp only [if_true, laws_FnExactReducedOf.j0, laws_FnExactReducedOf.j1, laws_FnExactReducedOf.j2, laws_FnExactReducedOf.j3, laws_FnExactReducedOf.j4, laws_FnExactReducedOf.j5, laws_FnExactReducedOf.j6, laws_FnExactReducedOf.j7, laws_FnExactReducedOf.j8, laws_FnExactReducedOf.j9, laws_FnExactReducedOf.j10, laws_FnExactReducedOf.j11, laws_FnExactReducedOf.j12])
      )
  · have es : Ev (fun _ : Nat => laws_szGraph.f n l 1048576) (-1) := ev_const fun _ => by rw [hs, if_neg h]
    repeat (first
      | exact Ev.now _
      | dsimp only
      | (with_reducible refine Ev.bind es ?_)
      | with_reducible refine ev_ift (by first | rfl | omega) ?_
      | with_reducible refine ev_ifn (by omega) ?_
      | with_reducible refine ev_ifb ?_
      | with_reducible refine ev_ifnn ?_
      | with_reducible refine ev_iff ?_
      | (refine ev_succ ?_; simp only [if_true, laws_FnExactReducedOf.j0, laws_FnExactReducedOf.j1, laws_FnExactReducedOf.j2, laws_FnExactReducedOf.j3, laws_FnExactReducedOf.j4, laws_FnExactReducedOf.j5, laws_FnExactReducedOf.j6, laws_FnExactReducedOf.j7, laws_FnExactReducedOf.j8, laws_FnExactReducedOf.j9, laws_FnExactReducedOf.j10, laws_FnExactReducedOf.j11, laws_FnExactReducedOf.j12])
      )
end Go.Proofs.Ytnebapnfkolflaa.Pure
end
