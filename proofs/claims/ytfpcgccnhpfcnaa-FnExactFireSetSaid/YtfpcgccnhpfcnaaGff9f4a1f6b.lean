/- Functions of the program as plain Lean functions, and that the machine's calls answer as they do. Written for this claim by a program of this work that drives the kit's print engine; Lean checks it. -/
import Derived.Test.YtfpcgccnhpfcnaaGbf62bd544f
import Derived.Test.YtfpcgccnhpfcnaaG55bbc5b30a
import Derived.Test.YtfpcgccnhpfcnaaG738cf0ac4a
import Derived.Test.YtfpcgccnhpfcnaaGacab11c425
namespace Go.Proofs.Ytfpcgccnhpfcnaa.P
open Go.RowKit Go.Proofs.YtfpcgccnhpfcnaaW.PrintWords Go.Proofs.YtfpcgccnhpfcnaaW.PrintLast Go.Proofs.YtfpcgccnhpfcnaaW.PrintMore
attribute [local go_sem] max2_int min2_int max_two min_two max_three min_three max_four min_four   -- for this text's walks alone
set_option linter.unusedVariables false
set_option linter.unusedSimpArgs false

/-! ### laws_FnExactFireSet: function 9 -/
mutual
def laws_FnExactFireSet.j0 : Nat → List Int → List Int → Int → List (S86) → Option (Bool)
 | 0, _, _, _, _ => none
 | k + 1, x1, x2, x688000, x688001 => if (x2.length : Int) > 1048576 then (some true) else (laws_FnExactFireSet.j1 k x1 x2 x688000 x688001)
def laws_FnExactFireSet.j1 : Nat → List Int → List Int → Int → List (S86) → Option (Bool)
 | 0, _, _, _, _ => none
 | k + 1, x1, x2, x688000, x688001 => (laws_szGraph.f x688000 x688001 1048576).bind fun t688 => (if t688 < 0 then (some true) else (laws_FnExactFireSet.j2 k x1 x2 x688000 x688001))
def laws_FnExactFireSet.j2 : Nat → List Int → List Int → Int → List (S86) → Option (Bool)
 | 0, _, _, _, _ => none
 | k + 1, x1, x2, x688000, x688001 => (laws_toGraph.f k x688000 x688001).bind fun bt689 => ((laws_toIntS.f k x1).bind fun t693 => ((laws_toIntS.f k x2).bind fun t696 => ((spec_FireSet.f k bt689.1 bt689.2 t693 t696).bind fun bt699 => ((laws_toGraph.f k x688000 x688001).bind fun bt703 => ((laws_toIntS.f k x1).bind fun t708 => ((laws_toIntS.f k x2).bind fun t711 => ((impl_FireSet.f k bt703.1 bt703.2 t708 t711).bind fun bt714 => ((laws_eqIntS.f k bt714.1 bt699.1).bind fun t718 => (if t718 = true then (laws_FnExactFireSet.j3 k x1 x2 bt699.1 bt699.2 t708 t711 bt714.1 bt714.2 (bt714.2 != bt699.2) x688000 x688001 bt703.1 bt703.2) else (laws_FnExactFireSet.j3 k x1 x2 bt699.1 bt699.2 t708 t711 bt714.1 bt714.2 true x688000 x688001 bt703.1 bt703.2))))))))))
def laws_FnExactFireSet.j3 : Nat → List Int → List Int → List Int → Bool → List Int → List Int → List Int → Bool → Bool → Int → List (S86) → Int → List (S68) → Option (Bool)
 | 0, _, _, _, _, _, _, _, _, _, _, _, _, _ => none
 | k + 1, x1, x2, x8, x9, x11, x12, x13, x14, x62, x688000, x688001, x708000, x708001 => if x62 = true then (some false) else (laws_FnExactFireSet.j4 k x1 x2 x8 x9 x11 x12 x13 x14 x688000 x688001 x708000 x708001)
def laws_FnExactFireSet.j4 : Nat → List Int → List Int → List Int → Bool → List Int → List Int → List Int → Bool → Int → List (S86) → Int → List (S68) → Option (Bool)
 | 0, _, _, _, _, _, _, _, _, _, _, _, _ => none
 | k + 1, x1, x2, x8, x9, x11, x12, x13, x14, x688000, x688001, x708000, x708001 => (laws_toGraph.f k x688000 x688001).bind fun bt719 => ((laws_eqGraph.f k x708000 x708001 bt719.1 bt719.2).bind fun t723 => (if t723 = true then (laws_FnExactFireSet.j5 k x1 x2 x8 x9 x11 x12 x13 x14 x688000 x688001 x708000 x708001) else (some false)))
def laws_FnExactFireSet.j5 : Nat → List Int → List Int → List Int → Bool → List Int → List Int → List Int → Bool → Int → List (S86) → Int → List (S68) → Option (Bool)
 | 0, _, _, _, _, _, _, _, _, _, _, _, _ => none
 | k + 1, x1, x2, x8, x9, x11, x12, x13, x14, x688000, x688001, x708000, x708001 => (laws_toIntS.f k x1).bind fun t724 => ((laws_eqIntS.f k x11 t724).bind fun t727 => (if t727 = true then (laws_FnExactFireSet.j6 k x1 x2 x8 x9 x11 x12 x13 x14 x688000 x688001 x708000 x708001) else (some false)))
def laws_FnExactFireSet.j6 : Nat → List Int → List Int → List Int → Bool → List Int → List Int → List Int → Bool → Int → List (S86) → Int → List (S68) → Option (Bool)
 | 0, _, _, _, _, _, _, _, _, _, _, _, _ => none
 | k + 1, x1, x2, x8, x9, x11, x12, x13, x14, x688000, x688001, x708000, x708001 => (laws_toIntS.f k x2).bind fun t728 => ((laws_eqIntS.f k x12 t728).bind fun t731 => (if t731 = true then (laws_FnExactFireSet.j7 k x1 x2 x8 x9 x11 x12 x13 x14 x688000 x688001 x708000 x708001) else (some false)))
def laws_FnExactFireSet.j7 : Nat → List Int → List Int → List Int → Bool → List Int → List Int → List Int → Bool → Int → List (S86) → Int → List (S68) → Option (Bool)
 | 0, _, _, _, _, _, _, _, _, _, _, _, _ => none
 | k + 1, x1, x2, x8, x9, x11, x12, x13, x14, x688000, x688001, x708000, x708001 => (laws_markGraph.f k x708000 x708001 1).bind fun bt732 => ((laws_markIntS.f k x11 bt732.1).bind fun bt734 => ((laws_markIntS.f k x12 bt734.1).bind fun bt736 => (if bt736.1 < 0 then (laws_FnExactFireSet.j8 k x1 x2 x8 x9 x13 true x688000 x688001) else ((laws_eqIntS.f k x13 x8).bind fun t738 => (if t738 = true then (laws_FnExactFireSet.j8 k x1 x2 x8 x9 x13 (x14 != x9) x688000 x688001) else (laws_FnExactFireSet.j8 k x1 x2 x8 x9 x13 true x688000 x688001))))))
def laws_FnExactFireSet.j8 : Nat → List Int → List Int → List Int → Bool → List Int → Bool → Int → List (S86) → Option (Bool)
 | 0, _, _, _, _, _, _, _, _ => none
 | k + 1, x1, x2, x8, x9, x13, x99, x688000, x688001 => if x99 = true then (some false) else (laws_FnExactFireSet.j9 k x1 x2 x8 x9 x13 x688000 x688001)
def laws_FnExactFireSet.j9 : Nat → List Int → List Int → List Int → Bool → List Int → Int → List (S86) → Option (Bool)
 | 0, _, _, _, _, _, _, _ => none
 | k + 1, x1, x2, x8, x9, x13, x688000, x688001 => (laws_markIntS.f k x13 1).bind fun bt739 => ((laws_heldIntS.f k bt739.2 1).bind fun t741 => (if t741 < 0 then (some false) else (laws_FnExactFireSet.j10 k x1 x2 x8 x9 bt739.2 bt739.1 t741 x688000 x688001)))
def laws_FnExactFireSet.j10 : Nat → List Int → List Int → List Int → Bool → List Int → Int → Int → Int → List (S86) → Option (Bool)
 | 0, _, _, _, _, _, _, _, _, _ => none
 | k + 1, x1, x2, x8, x9, x13, x16, x17, x688000, x688001 => if x17 = x16 then (laws_FnExactFireSet.j11 k x1 x2 x8 x9 x13 x16 x688000 x688001) else (some false)
def laws_FnExactFireSet.j11 : Nat → List Int → List Int → List Int → Bool → List Int → Int → Int → List (S86) → Option (Bool)
 | 0, _, _, _, _, _, _, _, _ => none
 | k + 1, x1, x2, x8, x9, x13, x16, x688000, x688001 => (laws_toGraph.f k x688000 x688001).bind fun bt742 => ((laws_toIntS.f k x1).bind fun t746 => ((laws_toIntS.f k x2).bind fun t749 => ((impl_FireSet.f k bt742.1 bt742.2 t746 t749).bind fun bt752 => ((laws_eqIntS.f k bt752.1 x8).bind fun t756 => (if t756 = true then (laws_FnExactFireSet.j12 k x13 x16 (bt752.2 != x9)) else (laws_FnExactFireSet.j12 k x13 x16 true))))))
def laws_FnExactFireSet.j12 : Nat → List Int → Int → Bool → Option (Bool)
 | 0, _, _, _ => none
 | k + 1, x13, x16, x129 => if x129 = true then (some false) else (laws_FnExactFireSet.j13 k x13 x16)
def laws_FnExactFireSet.j13 : Nat → List Int → Int → Option (Bool)
 | 0, _, _ => none
 | k + 1, x13, x16 => (laws_heldIntS.f k x13 1).bind fun t757 => (if t757 < 0 then (some false) else (laws_FnExactFireSet.j14 k x16 t757))
def laws_FnExactFireSet.j14 : Nat → Int → Int → Option (Bool)
 | 0, _, _ => none
 | k + 1, x16, x17 => if x17 = x16 then (some true) else (some false)
end
def laws_FnExactFireSet.f (k : Nat) (a0_0 : Int) (l0_1 : List (S86)) (l1 : List Int) (l2 : List Int) : Option (Bool) := if (l1.length : Int) > 1048576 then (some true) else (laws_FnExactFireSet.j0 k l1 l2 a0_0 l0_1)
set_option maxHeartbeats 8000000 in
set_option maxRecDepth 100000 in
theorem laws_FnExactFireSet.calls (k : Nat) (a0_0 : Int) (A0_1 : Option Addr) (c0_1 : Nat) (l0_1 : List (S86)) (A1 : Option Addr) (c1 : Nat) (l1 : List Int) (A2 : Option Addr) (c2 : Nat) (l2 : List Int) (r : Bool) (w : World) (hr0_1 : Kd.C k86 w A0_1 l0_1.length l0_1) (hc0_1 : l0_1.length ≤ c0_1) (hr1 : Kd.C (Kd.int .i64) w A1 l1.length l1) (hc1 : l1.length ≤ c1) (hr2 : Kd.C (Kd.int .i64) w A2 l2.length l2) (hc2 : l2.length ≤ c2) (h : laws_FnExactFireSet.f k a0_0 l0_1 l1 l2 = some r) :
  Calls Try.prog 9 #[.agg #[.int .i64 a0_0, .slice A0_1 l0_1.length c0_1], .slice A1 l1.length c1, .slice A2 l2.length c2] w fun e w' => e = .returned (.bool r) ∧ Below w.heap.size w w' := by
 have hu33 := Try.underlying33
 have hu37 := Try.underlying37
 have HR0_1 := Aside0.mk hr0_1
 have HC0_1 := Aside0.mk hc0_1
 clear hr0_1 hc0_1
 have HR1 := Aside0.mk hr1
 have HC1 := Aside0.mk hc1
 clear hr1 hc1
 have HR2 := Aside0.mk hr2
 have HC2 := Aside0.mk hc2
 clear hr2 hc2
 have HB := Aside0.mk (Below.refl w.heap.size w)
 have H : (if (l1.length : Int) > 1048576 then (some true) else (laws_FnExactFireSet.j0 k l1 l2 a0_0 l0_1)) = some r := h
 clear h
 have HC4 := Aside0.mk H
 clear H
 go_enter Try.func9, Try.ntmps9
 go_upto_if 22 with (first | ((with_reducible refine gate_dst (N := 3) rfl ?_); refine box_event ?hg (N := 3) ?hd (cs := #[.int .i64 a0_0, .slice A0_1 l0_1.length c0_1]) (t := 33) ?hr ?_; (case hd => rfl); (case hg => rfl); (case hr => first | (go_simp; done) | (go_simp; rfl)); intro gb687 hg w5 hbox hb; have BK687 := Aside0.mk (hbox); have GW687 := Aside0.mk ((by rw [hg]; exact (below_size (Lz HB)) : w.heap.size ≤ gb687)); have GE687 := Aside0.mk ((by rw [hg]; exact (below_size (Lz HB)) : w.heap.size ≤ gb687)); replace HB := Aside0.mk (below_step (Lz HB) hb); clear hb hbox hg))
 (try simp only [Act.put, List.setIfInBounds_toArray, List.set_cons_zero, List.set_cons_succ])
 go_cut [] (fun wc => ∃ (kq : Nat), Aside0 (laws_FnExactFireSet.j0 kq l1 l2 a0_0 l0_1 = some r) ∧ Aside0 (kq ≤ k) ∧ Aside0 (wc.heap[gb687]? = some (.cells #[.int .i64 a0_0, (.slice A0_1 l0_1.length c0_1)] 33 (0, 0))) ∧ Aside0 (Below w.heap.size w wc))
 case first =>
  have H := HC4.out
  clear HC4
  by_cases c6 : (l1.length : Int) > 1048576
  ·rw [if_pos c6] at H
   have c6b0 : decide (1048576 < (l1.length : Int)) = true := decide_eq_true c6
   (try simp only [hl708001_73, hl13_90] at c6b0)
   have c6b1 : decide (1048576 < l1.length) = true := decide_eq_true (by omega)
   (try simp only [hl708001_73, hl13_90] at c6b1)
   clear c6
   (first | rw [c6b0] | (simp only [i64_w, i32_w]; rw [c6b0]) | skip)
   obtain rfl := Option.some.inj H
   go_wp2
   go_ret
   exact ⟨by first | rfl | (simp [errW_none, errW_some] <;> rfl) | (simp [*, errW_none, errW_some] <;> rfl), by exact Lz1 HB GE687⟩
  rw [if_neg c6] at H
  have c6b0 : decide (1048576 < (l1.length : Int)) = false := decide_eq_false c6
  (try simp only [hl708001_73, hl13_90] at c6b0)
  have c6b1 : decide (1048576 < l1.length) = false := decide_eq_false (by omega)
  (try simp only [hl708001_73, hl13_90] at c6b1)
  clear c6
  (first | rw [c6b0] | (simp only [i64_w, i32_w]; rw [c6b0]) | skip)
  have H' := Aside0.mk H
  clear H
  go_wp2
  go_meet
  case rel => exact ⟨_, H', ⟨by first | omega | exact Nat.le_refl _⟩, ⟨by exact Bz BK687⟩, ⟨by exact Lz1 HB GE687⟩⟩
 case rest =>
  clear HC4
  try clear c1
  try clear c2
  try clear c6
  try clear c6b0
  try clear c6b1
  obtain ⟨kq, HA, HJ3, BK687, HB⟩ := hcut
  cases kq with
  | zero => exact absurd HA.out (by simp [laws_FnExactFireSet.j0])
  | succ kj3 =>
   have H := HA.out
   clear HA
   simp only [laws_FnExactFireSet.j0] at H
   have HC7 := Aside0.mk H
   clear H
   go_upto_if 25 with (fail)
   go_cut [] (fun wc => ∃ (kq : Nat), Aside0 (laws_FnExactFireSet.j1 kq l1 l2 a0_0 l0_1 = some r) ∧ Aside0 (kq ≤ kj3) ∧ Aside0 (wc.heap[gb687]? = some (.cells #[.int .i64 a0_0, (.slice A0_1 l0_1.length c0_1)] 33 (0, 0))) ∧ Aside0 (Below w.heap.size w wc))
   case first =>
    have H := HC7.out
    clear HC7
    by_cases c8 : (l2.length : Int) > 1048576
    ·rw [if_pos c8] at H
     have c8b0 : decide (1048576 < (l2.length : Int)) = true := decide_eq_true c8
     (try simp only [hl708001_73, hl13_90] at c8b0)
     have c8b1 : decide (1048576 < l2.length) = true := decide_eq_true (by omega)
     (try simp only [hl708001_73, hl13_90] at c8b1)
     clear c8
     (first | rw [c8b0] | (simp only [i64_w, i32_w]; rw [c8b0]) | skip)
     obtain rfl := Option.some.inj H
     go_wp2
     go_ret
     exact ⟨by first | rfl | (simp [errW_none, errW_some] <;> rfl) | (simp [*, errW_none, errW_some] <;> rfl), by exact Lz1 HB GE687⟩
    rw [if_neg c8] at H
    have c8b0 : decide (1048576 < (l2.length : Int)) = false := decide_eq_false c8
    (try simp only [hl708001_73, hl13_90] at c8b0)
    have c8b1 : decide (1048576 < l2.length) = false := decide_eq_false (by omega)
    (try simp only [hl708001_73, hl13_90] at c8b1)
    clear c8
    (first | rw [c8b0] | (simp only [i64_w, i32_w]; rw [c8b0]) | skip)
    have H' := Aside0.mk H
    clear H
    go_wp2
    go_meet
    case rel => exact ⟨_, H', ⟨by have := HJ3.out; first | omega | exact Nat.le_refl _⟩, ⟨by exact Bz BK687⟩, ⟨by exact Lz1 HB GE687⟩⟩
   case rest =>
    clear HC7
    try clear c1
    try clear c2
    try clear c6
    try clear c6b0
    try clear c6b1
    try clear c8
    try clear c8b0
    try clear c8b1
    obtain ⟨kq, HA, HJ6, BK687, HB⟩ := hcut
    cases kq with
    | zero => exact absurd HA.out (by simp [laws_FnExactFireSet.j1])
    | succ kj6 =>
     have H := HA.out
     clear HA
     simp only [laws_FnExactFireSet.j1] at H
     replace H := Option.bind_eq_some_iff.mp H
     obtain ⟨t688, A90, H⟩ := H
     replace H : (if t688 < 0 then (some true) else (laws_FnExactFireSet.j2 kj6 l1 l2 a0_0 l0_1)) = some r := H
     have A9 := Aside0.mk A90
     clear A90
     have HC10 := Aside0.mk H
     clear H
     have hcz11_0 : wc.cell? ⟨gb687, 0, none⟩ = some (.int .i64 a0_0) := (blk_cell BK687.out 0).trans rfl
     have hcz11_1 : wc.cell? ⟨gb687, 1, none⟩ = some (.slice A0_1 l0_1.length c0_1) := (blk_cell BK687.out 1).trans rfl
     have hfz11_0 := blk_frozen BK687.out 0
     have hfz11_1 := blk_frozen BK687.out 1
     go_upto_if 30 with (first | ((with_reducible refine gate_callee (f := 24) rfl ?_); refine goesM_ (some 28) rfl rfl Try.func24 (by kernel_rfl) rfl #[.agg #[.int .i64 a0_0, .slice A0_1 l0_1.length c0_1], .int .i64 1048576] rfl ?_; (with_reducible refine (laws_szGraph.calls a0_0 _ _ l0_1 1048576 t688 _ ?side1 ?side2 A9.out).mono ?_); (case side1 => exact Cz ((Kd.C_below HR0_1.out HB.out))); (case side2 => exact HC0_1.out); rintro e w12 ⟨rfl, hb⟩; refine ⟨_, rfl, ?_⟩; replace BK687 := Aside0.mk (blk_below (g := gb687) (o := .cells #[.int .i64 a0_0, .slice A0_1 l0_1.length c0_1] 33 (0, 0)) (Bz BK687) hb); replace HB := Aside0.mk (below_step (by exact Lz1 HB GE687) hb); (try clear hb); (try clear hb2); (try clear hk); (try clear hi)))
     (try simp only [Act.put, List.setIfInBounds_toArray, List.set_cons_zero, List.set_cons_succ])
     go_cut [] (fun wc => ∃ (kq : Nat), Aside0 (laws_FnExactFireSet.j2 kq l1 l2 a0_0 l0_1 = some r) ∧ Aside0 (kq ≤ kj6) ∧ Aside0 (wc.heap[gb687]? = some (.cells #[.int .i64 a0_0, (.slice A0_1 l0_1.length c0_1)] 33 (0, 0))) ∧ Aside0 (Below w.heap.size w wc))
     case first =>
      have H := HC10.out
      clear HC10
      by_cases c13 : t688 < 0
      ·rw [if_pos c13] at H
       have c13b0 : decide (t688 < 0) = true := decide_eq_true c13
       clear c13
       (first | rw [c13b0] | (simp only [i64_w, i32_w]; rw [c13b0]) | skip)
       obtain rfl := Option.some.inj H
       go_wp2
       go_ret
       exact ⟨by first | rfl | (simp [errW_none, errW_some] <;> rfl) | (simp [*, errW_none, errW_some] <;> rfl), by exact Lz1 HB GE687⟩
      rw [if_neg c13] at H
      have c13b0 : decide (t688 < 0) = false := decide_eq_false c13
      clear c13
      (first | rw [c13b0] | (simp only [i64_w, i32_w]; rw [c13b0]) | skip)
      have H' := Aside0.mk H
      clear H
      go_wp2
      go_meet
      case rel => exact ⟨_, H', ⟨by have := HJ3.out; have := HJ6.out; first | omega | exact Nat.le_refl _⟩, ⟨by exact Bz BK687⟩, ⟨by exact Lz1 HB GE687⟩⟩
     case rest =>
      clear HC10
      try clear c1
      try clear c2
      try clear c6
      try clear c6b0
      try clear c6b1
      try clear c8
      try clear c8b0
      try clear c8b1
      try clear c13
      try clear c13b0
      obtain ⟨kq, HA, HJ9, BK687, HB⟩ := hcut
      cases kq with
      | zero => exact absurd HA.out (by simp [laws_FnExactFireSet.j2])
      | succ kj9 =>
       have H := HA.out
       clear HA
       simp only [laws_FnExactFireSet.j2] at H
       replace H := Option.bind_eq_some_iff.mp H
       obtain ⟨⟨t689, t690⟩, A140, H⟩ := H
       replace H : ((laws_toIntS.f kj9 l1).bind fun t693 => ((laws_toIntS.f kj9 l2).bind fun t696 => ((spec_FireSet.f kj9 t689 t690 t693 t696).bind fun bt699 => ((laws_toGraph.f kj9 a0_0 l0_1).bind fun bt703 => ((laws_toIntS.f kj9 l1).bind fun t708 => ((laws_toIntS.f kj9 l2).bind fun t711 => ((impl_FireSet.f kj9 bt703.1 bt703.2 t708 t711).bind fun bt714 => ((laws_eqIntS.f kj9 bt714.1 bt699.1).bind fun t718 => (if t718 = true then (laws_FnExactFireSet.j3 kj9 l1 l2 bt699.1 bt699.2 t708 t711 bt714.1 bt714.2 (bt714.2 != bt699.2) a0_0 l0_1 bt703.1 bt703.2) else (laws_FnExactFireSet.j3 kj9 l1 l2 bt699.1 bt699.2 t708 t711 bt714.1 bt714.2 true a0_0 l0_1 bt703.1 bt703.2)))))))))) = some r := H
       have A14 := Aside0.mk A140
       clear A140
       replace H := Option.bind_eq_some_iff.mp H
       obtain ⟨t693, A150, H⟩ := H
       replace H : ((laws_toIntS.f kj9 l2).bind fun t696 => ((spec_FireSet.f kj9 t689 t690 t693 t696).bind fun bt699 => ((laws_toGraph.f kj9 a0_0 l0_1).bind fun bt703 => ((laws_toIntS.f kj9 l1).bind fun t708 => ((laws_toIntS.f kj9 l2).bind fun t711 => ((impl_FireSet.f kj9 bt703.1 bt703.2 t708 t711).bind fun bt714 => ((laws_eqIntS.f kj9 bt714.1 bt699.1).bind fun t718 => (if t718 = true then (laws_FnExactFireSet.j3 kj9 l1 l2 bt699.1 bt699.2 t708 t711 bt714.1 bt714.2 (bt714.2 != bt699.2) a0_0 l0_1 bt703.1 bt703.2) else (laws_FnExactFireSet.j3 kj9 l1 l2 bt699.1 bt699.2 t708 t711 bt714.1 bt714.2 true a0_0 l0_1 bt703.1 bt703.2))))))))) = some r := H
       have A15 := Aside0.mk A150
       clear A150
       replace H := Option.bind_eq_some_iff.mp H
       obtain ⟨t696, A160, H⟩ := H
       replace H : ((spec_FireSet.f kj9 t689 t690 t693 t696).bind fun bt699 => ((laws_toGraph.f kj9 a0_0 l0_1).bind fun bt703 => ((laws_toIntS.f kj9 l1).bind fun t708 => ((laws_toIntS.f kj9 l2).bind fun t711 => ((impl_FireSet.f kj9 bt703.1 bt703.2 t708 t711).bind fun bt714 => ((laws_eqIntS.f kj9 bt714.1 bt699.1).bind fun t718 => (if t718 = true then (laws_FnExactFireSet.j3 kj9 l1 l2 bt699.1 bt699.2 t708 t711 bt714.1 bt714.2 (bt714.2 != bt699.2) a0_0 l0_1 bt703.1 bt703.2) else (laws_FnExactFireSet.j3 kj9 l1 l2 bt699.1 bt699.2 t708 t711 bt714.1 bt714.2 true a0_0 l0_1 bt703.1 bt703.2)))))))) = some r := H
       have A16 := Aside0.mk A160
       clear A160
       replace H := Option.bind_eq_some_iff.mp H
       obtain ⟨⟨t699, t702⟩, A170, H⟩ := H
       replace H : ((laws_toGraph.f kj9 a0_0 l0_1).bind fun bt703 => ((laws_toIntS.f kj9 l1).bind fun t708 => ((laws_toIntS.f kj9 l2).bind fun t711 => ((impl_FireSet.f kj9 bt703.1 bt703.2 t708 t711).bind fun bt714 => ((laws_eqIntS.f kj9 bt714.1 t699).bind fun t718 => (if t718 = true then (laws_FnExactFireSet.j3 kj9 l1 l2 t699 t702 t708 t711 bt714.1 bt714.2 (bt714.2 != t702) a0_0 l0_1 bt703.1 bt703.2) else (laws_FnExactFireSet.j3 kj9 l1 l2 t699 t702 t708 t711 bt714.1 bt714.2 true a0_0 l0_1 bt703.1 bt703.2))))))) = some r := H
       have A17 := Aside0.mk A170
       clear A170
       replace H := Option.bind_eq_some_iff.mp H
       obtain ⟨⟨t703, t704⟩, A180, H⟩ := H
       replace H : ((laws_toIntS.f kj9 l1).bind fun t708 => ((laws_toIntS.f kj9 l2).bind fun t711 => ((impl_FireSet.f kj9 t703 t704 t708 t711).bind fun bt714 => ((laws_eqIntS.f kj9 bt714.1 t699).bind fun t718 => (if t718 = true then (laws_FnExactFireSet.j3 kj9 l1 l2 t699 t702 t708 t711 bt714.1 bt714.2 (bt714.2 != t702) a0_0 l0_1 t703 t704) else (laws_FnExactFireSet.j3 kj9 l1 l2 t699 t702 t708 t711 bt714.1 bt714.2 true a0_0 l0_1 t703 t704)))))) = some r := H
       have A18 := Aside0.mk A180
       clear A180
       replace H := Option.bind_eq_some_iff.mp H
       obtain ⟨t708, A190, H⟩ := H
       replace H : ((laws_toIntS.f kj9 l2).bind fun t711 => ((impl_FireSet.f kj9 t703 t704 t708 t711).bind fun bt714 => ((laws_eqIntS.f kj9 bt714.1 t699).bind fun t718 => (if t718 = true then (laws_FnExactFireSet.j3 kj9 l1 l2 t699 t702 t708 t711 bt714.1 bt714.2 (bt714.2 != t702) a0_0 l0_1 t703 t704) else (laws_FnExactFireSet.j3 kj9 l1 l2 t699 t702 t708 t711 bt714.1 bt714.2 true a0_0 l0_1 t703 t704))))) = some r := H
       have A19 := Aside0.mk A190
       clear A190
       replace H := Option.bind_eq_some_iff.mp H
       obtain ⟨t711, A200, H⟩ := H
       replace H : ((impl_FireSet.f kj9 t703 t704 t708 t711).bind fun bt714 => ((laws_eqIntS.f kj9 bt714.1 t699).bind fun t718 => (if t718 = true then (laws_FnExactFireSet.j3 kj9 l1 l2 t699 t702 t708 t711 bt714.1 bt714.2 (bt714.2 != t702) a0_0 l0_1 t703 t704) else (laws_FnExactFireSet.j3 kj9 l1 l2 t699 t702 t708 t711 bt714.1 bt714.2 true a0_0 l0_1 t703 t704)))) = some r := H
       have A20 := Aside0.mk A200
       clear A200
       replace H := Option.bind_eq_some_iff.mp H
       obtain ⟨⟨t714, t717⟩, A210, H⟩ := H
       replace H : ((laws_eqIntS.f kj9 t714 t699).bind fun t718 => (if t718 = true then (laws_FnExactFireSet.j3 kj9 l1 l2 t699 t702 t708 t711 t714 t717 (t717 != t702) a0_0 l0_1 t703 t704) else (laws_FnExactFireSet.j3 kj9 l1 l2 t699 t702 t708 t711 t714 t717 true a0_0 l0_1 t703 t704))) = some r := H
       have A21 := Aside0.mk A210
       clear A210
       have HC22 := Aside0.mk H
       clear H
       have hcz23_0 : wc.cell? ⟨gb687, 0, none⟩ = some (.int .i64 a0_0) := (blk_cell BK687.out 0).trans rfl
       have hcz23_1 : wc.cell? ⟨gb687, 1, none⟩ = some (.slice A0_1 l0_1.length c0_1) := (blk_cell BK687.out 1).trans rfl
       have hfz23_0 := blk_frozen BK687.out 0
       have hfz23_1 := blk_frozen BK687.out 1
       go_upto_region 14 with (first | ((with_reducible refine gate_callee (f := 26) rfl ?_); refine goesM_ (some 33) rfl rfl Try.func26 (by kernel_rfl) rfl #[.agg #[.int .i64 a0_0, .slice A0_1 l0_1.length c0_1]] rfl ?_; (with_reducible refine (laws_toGraph.calls kj9 a0_0 _ _ l0_1 t689 t690 _ ?side1 ?side2 A14.out).mono ?_); (case side1 => exact Cz ((Kd.C_below HR0_1.out HB.out))); (case side2 => exact HC0_1.out); rintro e w24 ⟨v691, rfl, ho0, hb⟩; refine ⟨_, rfl, ?_⟩; have HO692 := Aside0.mk (Kd.R_lower ho0 (below_size (by exact Lz1 HB GE687))); replace BK687 := Aside0.mk (blk_below (g := gb687) (o := .cells #[.int .i64 a0_0, .slice A0_1 l0_1.length c0_1] 33 (0, 0)) (Bz BK687) hb); replace HB := Aside0.mk (below_step (by exact Lz1 HB GE687) hb); (try clear hb); (try clear ho0)) | ((with_reducible refine gate_callee (f := 36) rfl ?_); refine goesM_ (some 35) rfl rfl Try.func36 (by kernel_rfl) rfl #[.slice A1 l1.length c1] rfl ?_; (with_reducible refine (laws_toIntS.calls kj9 _ _ l1 t693 _ ?side1 ?side2 A15.out).mono ?_); (case side1 => exact Cz ((Kd.C_below HR1.out HB.out))); (case side2 => exact HC1.out); rintro e w25 ⟨v694, rfl, ho0, hb⟩; refine ⟨_, rfl, ?_⟩; replace HO692 := Aside0.mk (Kd.R_below (Rz HO692) hb); have HO695 := Aside0.mk (Kd.R_lower ho0 (below_size (by exact Lz1 HB GE687))); replace BK687 := Aside0.mk (blk_below (g := gb687) (o := .cells #[.int .i64 a0_0, .slice A0_1 l0_1.length c0_1] 33 (0, 0)) (Bz BK687) hb); replace HB := Aside0.mk (below_step (by exact Lz1 HB GE687) hb); (try clear hb); (try clear ho0)) | ((with_reducible refine gate_callee (f := 36) rfl ?_); refine goesM_ (some 37) rfl rfl Try.func36 (by kernel_rfl) rfl #[.slice A2 l2.length c2] rfl ?_; (with_reducible refine (laws_toIntS.calls kj9 _ _ l2 t696 _ ?side1 ?side2 A16.out).mono ?_); (case side1 => exact Cz ((Kd.C_below HR2.out HB.out))); (case side2 => exact HC2.out); rintro e w26 ⟨v697, rfl, ho0, hb⟩; refine ⟨_, rfl, ?_⟩; replace HO692 := Aside0.mk (Kd.R_below (Rz HO692) hb); have HO698 := Aside0.mk (Kd.R_lower (Kd.R_new' ho0 (Kd.R_lt (Rz HO695))) (below_size (by exact Lz1 HB GE687))); replace HO695 := Aside0.mk (Kd.R_elder' (Rz HO695) (Kd.R_base ho0) hb); replace BK687 := Aside0.mk (blk_below (g := gb687) (o := .cells #[.int .i64 a0_0, .slice A0_1 l0_1.length c0_1] 33 (0, 0)) (Bz BK687) hb); replace HB := Aside0.mk (below_step (by exact Lz1 HB GE687) hb); (try clear hb); (try clear ho0); obtain ⟨Ao27, co27, eo27⟩ := Kd.R_slice HO692.out; subst eo27; obtain ⟨Ao28, co28, eo28⟩ := Kd.R_slice HO695.out; subst eo28; obtain ⟨Ao29, co29, eo29⟩ := Kd.R_slice HO698.out; subst eo29) | ((with_reducible refine gate_callee (f := 40) rfl ?_); refine goesM_ (some 38) rfl rfl Try.func40 (by kernel_rfl) rfl #[.agg #[.int .i64 t689, .slice Ao27 t690.length co27], .slice Ao28 t693.length co28, .slice Ao29 t696.length co29] rfl ?_; (with_reducible refine (spec_FireSet.calls kj9 t689 _ _ t690 _ _ t693 _ _ t696 t699 t702 _ ?side1 ?side2 ?side3 ?side4 ?side5 ?side6 A17.out).mono ?_); (case side1 => exact Cz ((Kd.R_reads' HO692.out).2.2)); (case side2 => exact (Kd.R_reads' HO692.out).2.1); (case side3 => exact Cz ((Kd.R_reads' HO695.out).2.2)); (case side4 => exact (Kd.R_reads' HO695.out).2.1); (case side5 => exact Cz ((Kd.R_reads' HO698.out).2.2)); (case side6 => exact (Kd.R_reads' HO698.out).2.1); rintro e w30 ⟨v700, rfl, ho0, hb⟩; refine ⟨_, rfl, ?_⟩; replace HO692 := Aside0.mk (Kd.R_below (Rz HO692) hb); have HO701 := Aside0.mk (Kd.R_lower (Kd.R_new' (Kd.R_new' ho0 (Kd.R_lt (Rz HO695))) (Kd.R_lt (Rz HO698))) (below_size (by exact Lz1 HB GE687))); replace HO695 := Aside0.mk (Kd.R_elder' (Rz HO695) (Kd.R_base ho0) hb); replace HO698 := Aside0.mk (Kd.R_elder' (Rz HO698) (Kd.R_base ho0) hb); replace BK687 := Aside0.mk (blk_below (g := gb687) (o := .cells #[.int .i64 a0_0, .slice A0_1 l0_1.length c0_1] 33 (0, 0)) (Bz BK687) hb); replace HB := Aside0.mk (below_step (by exact Lz1 HB GE687) hb); (try clear hb); (try clear ho0); have hcz31_0 : w30.cell? ⟨gb687, 0, none⟩ = some (.int .i64 a0_0) := (blk_cell BK687.out 0).trans rfl; have hcz31_1 : w30.cell? ⟨gb687, 1, none⟩ = some (.slice A0_1 l0_1.length c0_1) := (blk_cell BK687.out 1).trans rfl; have hfz31_0 := blk_frozen BK687.out 0; have hfz31_1 := blk_frozen BK687.out 1) | ((with_reducible refine gate_callee (f := 26) rfl ?_); refine goesM_ (some 42) rfl rfl Try.func26 (by kernel_rfl) rfl #[.agg #[.int .i64 a0_0, .slice A0_1 l0_1.length c0_1]] rfl ?_; (with_reducible refine (laws_toGraph.calls kj9 a0_0 _ _ l0_1 t703 t704 _ ?side1 ?side2 A18.out).mono ?_); (case side1 => exact Cz ((Kd.C_below HR0_1.out HB.out))); (case side2 => exact HC0_1.out); rintro e w32 ⟨v705, rfl, ho0, hb⟩; refine ⟨_, rfl, ?_⟩; replace HO695 := Aside0.mk (Kd.R_below (Rz HO695) hb); replace HO698 := Aside0.mk (Kd.R_below (Rz HO698) hb); replace HO701 := Aside0.mk (Kd.R_below (Rz HO701) hb); have HO706 := Aside0.mk (Kd.R_lower (Kd.R_new' ho0 (Kd.R_lt (Rz HO692))) (below_size (by exact Lz1 HB GE687))); replace HO692 := Aside0.mk (Kd.R_elder' (Rz HO692) (Kd.R_base ho0) hb); replace BK687 := Aside0.mk (blk_below (g := gb687) (o := .cells #[.int .i64 a0_0, .slice A0_1 l0_1.length c0_1] 33 (0, 0)) (Bz BK687) hb); replace HB := Aside0.mk (below_step (by exact Lz1 HB GE687) hb); (try clear hb); (try clear ho0)) | ((with_reducible refine gate_dst (N := 10) rfl ?_); refine box_event ?hg (N := 10) ?hd (cs := #[.int .i64 0, .slice none 0 0]) (t := 37) ?hr ?_; (case hd => rfl); (case hg => rfl); (case hr => first | (go_simp; done) | (go_simp; rfl)); intro gb707 hg w33 hbox hb; replace HO692 := Aside0.mk (Kd.R_below (Rz HO692) hb); replace HO695 := Aside0.mk (Kd.R_below (Rz HO695) hb); replace HO698 := Aside0.mk (Kd.R_below (Rz HO698) hb); replace HO701 := Aside0.mk (Kd.R_below (Rz HO701) hb); replace HO706 := Aside0.mk (Kd.R_below (Rz HO706) hb); have BK707 := Aside0.mk (hbox); have GW707 := Aside0.mk ((by rw [hg]; exact (below_size (by exact Lz1 HB GE687)) : w.heap.size ≤ gb707)); have GE707 := Aside0.mk ((by rw [hg]; exact (below_size (by exact Lz1 HB GE687)) : w.heap.size ≤ gb707)); replace HB := Aside0.mk (below_step (by exact Lz1 HB GE687) hb); have NB687_707 := Aside0.mk ((by rw [hg]; exact Nat.ne_of_lt (blk_lt (g := gb687) (o := .cells #[.int .i64 a0_0, .slice A0_1 l0_1.length c0_1] 33 (0, 0)) (Bz BK687)) : gb687 ≠ gb707)); have NB707_687 := Aside0.mk ((by rw [hg]; exact Nat.ne_of_gt (blk_lt (g := gb687) (o := .cells #[.int .i64 a0_0, .slice A0_1 l0_1.length c0_1] 33 (0, 0)) (Bz BK687)) : gb707 ≠ gb687)); replace BK687 := Aside0.mk (blk_below (g := gb687) (o := .cells #[.int .i64 a0_0, .slice A0_1 l0_1.length c0_1] 33 (0, 0)) (Bz BK687) hb); clear hb hbox hg; have hnb34 := NB707_687.out; have hnc34 := NB687_707.out; have hcz35_0 : w33.cell? ⟨gb707, 0, none⟩ = some (.int .i64 0) := (blk_cell BK707.out 0).trans rfl; have hcz35_1 : w33.cell? ⟨gb707, 1, none⟩ = some (.slice none 0 0) := (blk_cell BK707.out 1).trans rfl; have hfz35_0 := blk_frozen BK707.out 0; have hfz35_1 := blk_frozen BK707.out 1; obtain ⟨Ao36, co36, eo36⟩ := Kd.R_slice HO706.out; subst eo36) | ((with_reducible refine gate_callee (f := 36) rfl ?_); refine goesM_ (some 44) rfl rfl Try.func36 (by kernel_rfl) rfl #[.slice A1 l1.length c1] rfl ?_; (with_reducible refine (laws_toIntS.calls kj9 _ _ l1 t708 _ ?side1 ?side2 A19.out).mono ?_); (case side1 => exact Kd.C_below HR1.out (by exact Lz2 HB GE687 GE707)); (case side2 => exact HC1.out); rintro e w37 ⟨v709, rfl, ho0, hb⟩; refine ⟨_, rfl, ?_⟩; replace HO692 := Aside0.mk (Kd.R_below (by (with_reducible repeat (first | apply Kd.R_alloc | apply Kd.R_drewN | apply Kd.R_drew)); exact (Kd.R_mono (Kd.R_far (p := ⟨gb707, 1, none⟩) (Kd.R_far (p := ⟨gb707, 0, none⟩) (Kd.R_types HO692.out BK707.out (by decide)) (fun _ hk => hk.2) (.int .i64 t703)) (fun _ hk => hk.2) (.slice Ao36 t704.length co36)) (fun _ h_ => h_.1))) hb); replace HO706 := Aside0.mk (Kd.R_below (by (with_reducible repeat (first | apply Kd.R_alloc | apply Kd.R_drewN | apply Kd.R_drew)); exact (Kd.R_mono (Kd.R_far (p := ⟨gb707, 1, none⟩) (Kd.R_far (p := ⟨gb707, 0, none⟩) (Kd.R_types HO706.out BK707.out (by decide)) (fun _ hk => hk.2) (.int .i64 t703)) (fun _ hk => hk.2) (.slice Ao36 t704.length co36)) (fun _ h_ => h_.1))) hb); have HO710 := Aside0.mk (Kd.R_lower (Kd.R_new' (Kd.R_new' (Kd.R_new' ho0 (Kd.R_lt (by (with_reducible repeat (first | apply Kd.R_alloc | apply Kd.R_drewN | apply Kd.R_drew)); exact (Kd.R_mono (Kd.R_far (p := ⟨gb707, 1, none⟩) (Kd.R_far (p := ⟨gb707, 0, none⟩) (Kd.R_types HO695.out BK707.out (by decide)) (fun _ hk => hk.2) (.int .i64 t703)) (fun _ hk => hk.2) (.slice Ao36 t704.length co36)) (fun _ h_ => h_.1))))) (Kd.R_lt (by (with_reducible repeat (first | apply Kd.R_alloc | apply Kd.R_drewN | apply Kd.R_drew)); exact (Kd.R_mono (Kd.R_far (p := ⟨gb707, 1, none⟩) (Kd.R_far (p := ⟨gb707, 0, none⟩) (Kd.R_types HO698.out BK707.out (by decide)) (fun _ hk => hk.2) (.int .i64 t703)) (fun _ hk => hk.2) (.slice Ao36 t704.length co36)) (fun _ h_ => h_.1))))) (Kd.R_lt (by (with_reducible repeat (first | apply Kd.R_alloc | apply Kd.R_drewN | apply Kd.R_drew)); exact (Kd.R_mono (Kd.R_far (p := ⟨gb707, 1, none⟩) (Kd.R_far (p := ⟨gb707, 0, none⟩) (Kd.R_types HO701.out BK707.out (by decide)) (fun _ hk => hk.2) (.int .i64 t703)) (fun _ hk => hk.2) (.slice Ao36 t704.length co36)) (fun _ h_ => h_.1))))) (below_size (by exact Lz2 HB GE687 GE707))); replace HO695 := Aside0.mk (Kd.R_elder' (by (with_reducible repeat (first | apply Kd.R_alloc | apply Kd.R_drewN | apply Kd.R_drew)); exact (Kd.R_mono (Kd.R_far (p := ⟨gb707, 1, none⟩) (Kd.R_far (p := ⟨gb707, 0, none⟩) (Kd.R_types HO695.out BK707.out (by decide)) (fun _ hk => hk.2) (.int .i64 t703)) (fun _ hk => hk.2) (.slice Ao36 t704.length co36)) (fun _ h_ => h_.1))) (Kd.R_base ho0) hb); replace HO698 := Aside0.mk (Kd.R_elder' (by (with_reducible repeat (first | apply Kd.R_alloc | apply Kd.R_drewN | apply Kd.R_drew)); exact (Kd.R_mono (Kd.R_far (p := ⟨gb707, 1, none⟩) (Kd.R_far (p := ⟨gb707, 0, none⟩) (Kd.R_types HO698.out BK707.out (by decide)) (fun _ hk => hk.2) (.int .i64 t703)) (fun _ hk => hk.2) (.slice Ao36 t704.length co36)) (fun _ h_ => h_.1))) (Kd.R_base ho0) hb); replace HO701 := Aside0.mk (Kd.R_elder' (by (with_reducible repeat (first | apply Kd.R_alloc | apply Kd.R_drewN | apply Kd.R_drew)); exact (Kd.R_mono (Kd.R_far (p := ⟨gb707, 1, none⟩) (Kd.R_far (p := ⟨gb707, 0, none⟩) (Kd.R_types HO701.out BK707.out (by decide)) (fun _ hk => hk.2) (.int .i64 t703)) (fun _ hk => hk.2) (.slice Ao36 t704.length co36)) (fun _ h_ => h_.1))) (Kd.R_base ho0) hb); replace BK687 := Aside0.mk (blk_below (g := gb687) (o := .cells #[.int .i64 a0_0, .slice A0_1 l0_1.length c0_1] 33 (0, 0)) (by (with_reducible repeat (first | refine blk_drewN ?_ _ | refine blk_drew ?_ | refine blk_alloc ?_ _)); refine blk_far ?_ NB687_707.out _; (with_reducible repeat (first | refine blk_drewN ?_ _ | refine blk_drew ?_ | refine blk_alloc ?_ _)); refine blk_far ?_ NB687_707.out _; exact Bz BK687) hb); replace BK707 := Aside0.mk (blk_below (g := gb707) (o := .cells #[.int .i64 t703, .slice Ao36 t704.length co36] 37 (0, 0)) (by (with_reducible repeat (first | refine blk_drewN ?_ _ | refine blk_drew ?_ | refine blk_alloc ?_ _)); refine blk_put (cs := #[.int .i64 t703, .slice none 0 0]) ?_ 1 _ rfl; (with_reducible repeat (first | refine blk_drewN ?_ _ | refine blk_drew ?_ | refine blk_alloc ?_ _)); refine blk_put (cs := #[.int .i64 0, .slice none 0 0]) ?_ 0 _ rfl; exact Bz BK707) hb); replace HB := Aside0.mk (below_step (by exact Lz2 HB GE687 GE707) hb); (try clear hb); (try clear ho0)) | ((with_reducible refine gate_callee (f := 36) rfl ?_); refine goesM_ (some 46) rfl rfl Try.func36 (by kernel_rfl) rfl #[.slice A2 l2.length c2] rfl ?_; (with_reducible refine (laws_toIntS.calls kj9 _ _ l2 t711 _ ?side1 ?side2 A20.out).mono ?_); (case side1 => exact Cz ((Kd.C_below HR2.out HB.out))); (case side2 => exact HC2.out); rintro e w38 ⟨v712, rfl, ho0, hb⟩; refine ⟨_, rfl, ?_⟩; replace HO692 := Aside0.mk (Kd.R_below (Rz HO692) hb); replace HO706 := Aside0.mk (Kd.R_below (Rz HO706) hb); have HO713 := Aside0.mk (Kd.R_lower (Kd.R_new' (Kd.R_new' (Kd.R_new' (Kd.R_new' ho0 (Kd.R_lt (Rz HO695))) (Kd.R_lt (Rz HO698))) (Kd.R_lt (Rz HO701))) (Kd.R_lt (Rz HO710))) (below_size (by exact Lz2 HB GE687 GE707))); replace HO695 := Aside0.mk (Kd.R_elder' (Rz HO695) (Kd.R_base ho0) hb); replace HO698 := Aside0.mk (Kd.R_elder' (Rz HO698) (Kd.R_base ho0) hb); replace HO701 := Aside0.mk (Kd.R_elder' (Rz HO701) (Kd.R_base ho0) hb); replace HO710 := Aside0.mk (Kd.R_elder' (Rz HO710) (Kd.R_base ho0) hb); replace BK687 := Aside0.mk (blk_below (g := gb687) (o := .cells #[.int .i64 a0_0, .slice A0_1 l0_1.length c0_1] 33 (0, 0)) (Bz BK687) hb); replace BK707 := Aside0.mk (blk_below (g := gb707) (o := .cells #[.int .i64 t703, .slice Ao36 t704.length co36] 37 (0, 0)) (Bz BK707) hb); replace HB := Aside0.mk (below_step (by exact Lz2 HB GE687 GE707) hb); (try clear hb); (try clear ho0); have hcz39_0 : w38.cell? ⟨gb707, 0, none⟩ = some (.int .i64 t703) := (blk_cell BK707.out 0).trans rfl; have hcz39_1 : w38.cell? ⟨gb707, 1, none⟩ = some (.slice Ao36 t704.length co36) := (blk_cell BK707.out 1).trans rfl; have hfz39_0 := blk_frozen BK707.out 0; have hfz39_1 := blk_frozen BK707.out 1; obtain ⟨Ao40, co40, eo40⟩ := Kd.R_slice HO710.out; subst eo40; obtain ⟨Ao41, co41, eo41⟩ := Kd.R_slice HO713.out; subst eo41) | ((with_reducible refine gate_callee (f := 41) rfl ?_); refine goesM_ (some 51) rfl rfl Try.func41 (by kernel_rfl) rfl #[.agg #[.int .i64 t703, .slice Ao36 t704.length co36], .slice Ao40 t708.length co40, .slice Ao41 t711.length co41] rfl ?_; (with_reducible refine (impl_FireSet.calls kj9 t703 _ _ t704 _ _ t708 _ _ t711 t714 t717 _ ?side1 ?side2 ?side3 ?side4 ?side5 ?side6 A21.out).mono ?_); (case side1 => exact Cz ((Kd.R_reads' HO706.out).2.2)); (case side2 => exact (Kd.R_reads' HO706.out).2.1); (case side3 => exact Cz ((Kd.R_reads' HO710.out).2.2)); (case side4 => exact (Kd.R_reads' HO710.out).2.1); (case side5 => exact Cz ((Kd.R_reads' HO713.out).2.2)); (case side6 => exact (Kd.R_reads' HO713.out).2.1); rintro e w42 ⟨v715, rfl, ho0, hb⟩; refine ⟨_, rfl, ?_⟩; replace HO692 := Aside0.mk (Kd.R_below (Rz HO692) hb); replace HO706 := Aside0.mk (Kd.R_below (Rz HO706) hb); have HO716 := Aside0.mk (Kd.R_lower (Kd.R_new' (Kd.R_new' (Kd.R_new' (Kd.R_new' (Kd.R_new' ho0 (Kd.R_lt (Rz HO695))) (Kd.R_lt (Rz HO698))) (Kd.R_lt (Rz HO701))) (Kd.R_lt (Rz HO710))) (Kd.R_lt (Rz HO713))) (below_size (by exact Lz2 HB GE687 GE707))); replace HO695 := Aside0.mk (Kd.R_elder' (Rz HO695) (Kd.R_base ho0) hb); replace HO698 := Aside0.mk (Kd.R_elder' (Rz HO698) (Kd.R_base ho0) hb); replace HO701 := Aside0.mk (Kd.R_elder' (Rz HO701) (Kd.R_base ho0) hb); replace HO710 := Aside0.mk (Kd.R_elder' (Rz HO710) (Kd.R_base ho0) hb); replace HO713 := Aside0.mk (Kd.R_elder' (Rz HO713) (Kd.R_base ho0) hb); replace BK687 := Aside0.mk (blk_below (g := gb687) (o := .cells #[.int .i64 a0_0, .slice A0_1 l0_1.length c0_1] 33 (0, 0)) (Bz BK687) hb); replace BK707 := Aside0.mk (blk_below (g := gb707) (o := .cells #[.int .i64 t703, .slice Ao36 t704.length co36] 37 (0, 0)) (Bz BK707) hb); replace HB := Aside0.mk (below_step (by exact Lz2 HB GE687 GE707) hb); (try clear hb); (try clear ho0)))
       (try simp only [Act.put, List.setIfInBounds_toArray, List.set_cons_zero, List.set_cons_succ])
       go_cut [62] (fun v62 wc => ∃ (kq : Nat) (x62_21 : Bool), v62 = .bool x62_21 ∧ Aside0 (laws_FnExactFireSet.j3 kq l1 l2 t699 t702 t708 t711 t714 t717 x62_21 a0_0 l0_1 t703 t704 = some r) ∧ Aside0 (kq ≤ kj9) ∧ Aside0 (Kd.R (Kd.int .i64) 3 wc w.heap.size (fun k_ => some k_ ≠ ((.slice Ao40 t708.length co40) : Value).ownBlock ∧ some k_ ≠ ((.slice Ao41 t711.length co41) : Value).ownBlock ∧ some k_ ≠ (v715 : Value).ownBlock) v700 t699) ∧ Aside0 (Kd.R (Kd.int .i64) 3 wc w.heap.size (fun k_ => some k_ ≠ (v700 : Value).ownBlock ∧ some k_ ≠ ((.slice Ao41 t711.length co41) : Value).ownBlock ∧ some k_ ≠ (v715 : Value).ownBlock) (.slice Ao40 t708.length co40) t708) ∧ Aside0 (Kd.R (Kd.int .i64) 3 wc w.heap.size (fun k_ => some k_ ≠ (v700 : Value).ownBlock ∧ some k_ ≠ ((.slice Ao40 t708.length co40) : Value).ownBlock ∧ some k_ ≠ (v715 : Value).ownBlock) (.slice Ao41 t711.length co41) t711) ∧ Aside0 (Kd.R (Kd.int .i64) 3 wc w.heap.size (fun k_ => some k_ ≠ (v700 : Value).ownBlock ∧ some k_ ≠ ((.slice Ao40 t708.length co40) : Value).ownBlock ∧ some k_ ≠ ((.slice Ao41 t711.length co41) : Value).ownBlock) v715 t714) ∧ Aside0 (Kd.R k68 68 wc w.heap.size (fun _ => True) (.slice Ao36 t704.length co36) t704) ∧ Aside0 (wc.heap[gb687]? = some (.cells #[.int .i64 a0_0, (.slice A0_1 l0_1.length c0_1)] 33 (0, 0))) ∧ Aside0 (wc.heap[gb707]? = some (.cells #[.int .i64 t703, (.slice Ao36 t704.length co36)] 37 (0, 0))) ∧ Aside0 (Below w.heap.size w wc))
       case first =>
        have H := HC22.out
        clear HC22
        replace H := Option.bind_eq_some_iff.mp H
        obtain ⟨t718, A430, H⟩ := H
        replace H : (if t718 = true then (laws_FnExactFireSet.j3 kj9 l1 l2 t699 t702 t708 t711 t714 t717 (t717 != t702) a0_0 l0_1 t703 t704) else (laws_FnExactFireSet.j3 kj9 l1 l2 t699 t702 t708 t711 t714 t717 true a0_0 l0_1 t703 t704)) = some r := H
        have A43 := Aside0.mk A430
        clear A430
        by_cases c44 : t718 = true
        ·subst c44
         have H1 : (laws_FnExactFireSet.j3 kj9 l1 l2 t699 t702 t708 t711 t714 t717 (t717 != t702) a0_0 l0_1 t703 t704) = some r := by rw [if_pos rfl] at H; exact H
         clear H
         have H := H1
         clear H1
         have H' := Aside0.mk H
         clear H
         obtain ⟨Ao45, co45, eo45⟩ := Kd.R_slice HO716.out
         subst eo45
         obtain ⟨Ao46, co46, eo46⟩ := Kd.R_slice HO701.out
         subst eo46
         go_wp2_with (first | ((with_reducible refine gate_callee (f := 19) rfl ?_); refine goesM_ (some 56) rfl rfl Try.func19 (by kernel_rfl) rfl #[.slice Ao45 t714.length co45, .slice Ao46 t699.length co46] rfl ?_; (with_reducible refine (laws_eqIntS.calls kj9 _ _ t714 _ _ t699 true _ ?side1 ?side2 ?side3 ?side4 A43.out).mono ?_); (case side1 => exact Cz ((Kd.R_reads' HO716.out).2.2)); (case side2 => exact (Kd.R_reads' HO716.out).2.1); (case side3 => exact Cz ((Kd.R_reads' HO701.out).2.2)); (case side4 => exact (Kd.R_reads' HO701.out).2.1); rintro e w' ⟨rfl, ⟨nd, rfl⟩⟩; refine ⟨_, rfl, ?_⟩))
         go_meet
         case rel => exact ⟨_, ((t717 != t702)), (by first | rfl | (simp; done) | (simp [*]; done)), H', ⟨by have := HJ3.out; have := HJ6.out; have := HJ9.out; first | omega | exact Nat.le_refl _⟩, ⟨by (with_reducible repeat (first | apply Kd.R_alloc | apply Kd.R_drewN | apply Kd.R_drew)); exact Kd.R_mono HO701.out (fun _ hk => ⟨hk.1.1.2, ⟨hk.1.2, hk.2⟩⟩)⟩, ⟨by (with_reducible repeat (first | apply Kd.R_alloc | apply Kd.R_drewN | apply Kd.R_drew)); exact Kd.R_mono HO710.out (fun _ hk => ⟨hk.1.1.2, ⟨hk.1.2, hk.2⟩⟩)⟩, ⟨by (with_reducible repeat (first | apply Kd.R_alloc | apply Kd.R_drewN | apply Kd.R_drew)); exact Kd.R_mono HO713.out (fun _ hk => ⟨hk.1.1.2, ⟨hk.1.2, hk.2⟩⟩)⟩, ⟨by (with_reducible repeat (first | apply Kd.R_alloc | apply Kd.R_drewN | apply Kd.R_drew)); exact Kd.R_mono HO716.out (fun _ hk => ⟨hk.1.1.2, ⟨hk.1.2, hk.2⟩⟩)⟩, ⟨by (with_reducible repeat (first | apply Kd.R_alloc | apply Kd.R_drewN | apply Kd.R_drew)); exact Kd.R_mono HO706.out (fun _ hk => trivial)⟩, ⟨by exact Bz BK687⟩, ⟨by exact Bz BK707⟩, ⟨by exact Lz2 HB GE687 GE707⟩⟩
        replace c44 := Bool.eq_false_iff.mpr c44
        subst c44
        have H1 : (laws_FnExactFireSet.j3 kj9 l1 l2 t699 t702 t708 t711 t714 t717 true a0_0 l0_1 t703 t704) = some r := by rw [if_neg (show ¬ (false = true) by decide)] at H; exact H
        clear H
        have H := H1
        clear H1
        have H' := Aside0.mk H
        clear H
        obtain ⟨Ao47, co47, eo47⟩ := Kd.R_slice HO716.out
        subst eo47
        obtain ⟨Ao48, co48, eo48⟩ := Kd.R_slice HO701.out
        subst eo48
        go_wp2_with (first | ((with_reducible refine gate_callee (f := 19) rfl ?_); refine goesM_ (some 56) rfl rfl Try.func19 (by kernel_rfl) rfl #[.slice Ao47 t714.length co47, .slice Ao48 t699.length co48] rfl ?_; (with_reducible refine (laws_eqIntS.calls kj9 _ _ t714 _ _ t699 false _ ?side1 ?side2 ?side3 ?side4 A43.out).mono ?_); (case side1 => exact Cz ((Kd.R_reads' HO716.out).2.2)); (case side2 => exact (Kd.R_reads' HO716.out).2.1); (case side3 => exact Cz ((Kd.R_reads' HO701.out).2.2)); (case side4 => exact (Kd.R_reads' HO701.out).2.1); rintro e w' ⟨rfl, ⟨nd, rfl⟩⟩; refine ⟨_, rfl, ?_⟩))
        go_meet
        case rel => exact ⟨_, (true), (by first | rfl | (simp; done) | (simp [*]; done)), H', ⟨by have := HJ3.out; have := HJ6.out; have := HJ9.out; first | omega | exact Nat.le_refl _⟩, ⟨by (with_reducible repeat (first | apply Kd.R_alloc | apply Kd.R_drewN | apply Kd.R_drew)); exact Kd.R_mono HO701.out (fun _ hk => ⟨hk.1.1.2, ⟨hk.1.2, hk.2⟩⟩)⟩, ⟨by (with_reducible repeat (first | apply Kd.R_alloc | apply Kd.R_drewN | apply Kd.R_drew)); exact Kd.R_mono HO710.out (fun _ hk => ⟨hk.1.1.2, ⟨hk.1.2, hk.2⟩⟩)⟩, ⟨by (with_reducible repeat (first | apply Kd.R_alloc | apply Kd.R_drewN | apply Kd.R_drew)); exact Kd.R_mono HO713.out (fun _ hk => ⟨hk.1.1.2, ⟨hk.1.2, hk.2⟩⟩)⟩, ⟨by (with_reducible repeat (first | apply Kd.R_alloc | apply Kd.R_drewN | apply Kd.R_drew)); exact Kd.R_mono HO716.out (fun _ hk => ⟨hk.1.1.2, ⟨hk.1.2, hk.2⟩⟩)⟩, ⟨by (with_reducible repeat (first | apply Kd.R_alloc | apply Kd.R_drewN | apply Kd.R_drew)); exact Kd.R_mono HO706.out (fun _ hk => trivial)⟩, ⟨by exact Bz BK687⟩, ⟨by exact Bz BK707⟩, ⟨by exact Lz2 HB GE687 GE707⟩⟩
       case rest =>
        clear HC22
        try clear c1
        try clear c2
        try clear c6
        try clear c6b0
        try clear c6b1
        try clear c8
        try clear c8b0
        try clear c8b1
        try clear c13
        try clear c13b0
        try clear c44
        obtain ⟨kq, x62_21, rfl, HA, HJ21, HO_8, HO_11, HO_12, HO_13, HO_708001, BK687, BK707, HB⟩ := hcut
        cases kq with
        | zero => exact absurd HA.out (by simp [laws_FnExactFireSet.j3])
        | succ kj21 =>
         have H := HA.out
         clear HA
         simp only [laws_FnExactFireSet.j3] at H
         have HC49 := Aside0.mk H
         clear H
         go_upto_if 62 with (fail)
         go_cut [] (fun wc => ∃ (kq : Nat), Aside0 (laws_FnExactFireSet.j4 kq l1 l2 t699 t702 t708 t711 t714 t717 a0_0 l0_1 t703 t704 = some r) ∧ Aside0 (kq ≤ kj21) ∧ Aside0 (Kd.R (Kd.int .i64) 3 wc w.heap.size (fun k_ => some k_ ≠ ((.slice Ao40 t708.length co40) : Value).ownBlock ∧ some k_ ≠ ((.slice Ao41 t711.length co41) : Value).ownBlock ∧ some k_ ≠ (v715 : Value).ownBlock) v700 t699) ∧ Aside0 (Kd.R (Kd.int .i64) 3 wc w.heap.size (fun k_ => some k_ ≠ (v700 : Value).ownBlock ∧ some k_ ≠ ((.slice Ao41 t711.length co41) : Value).ownBlock ∧ some k_ ≠ (v715 : Value).ownBlock) (.slice Ao40 t708.length co40) t708) ∧ Aside0 (Kd.R (Kd.int .i64) 3 wc w.heap.size (fun k_ => some k_ ≠ (v700 : Value).ownBlock ∧ some k_ ≠ ((.slice Ao40 t708.length co40) : Value).ownBlock ∧ some k_ ≠ (v715 : Value).ownBlock) (.slice Ao41 t711.length co41) t711) ∧ Aside0 (Kd.R (Kd.int .i64) 3 wc w.heap.size (fun k_ => some k_ ≠ (v700 : Value).ownBlock ∧ some k_ ≠ ((.slice Ao40 t708.length co40) : Value).ownBlock ∧ some k_ ≠ ((.slice Ao41 t711.length co41) : Value).ownBlock) v715 t714) ∧ Aside0 (Kd.R k68 68 wc w.heap.size (fun _ => True) (.slice Ao36 t704.length co36) t704) ∧ Aside0 (wc.heap[gb687]? = some (.cells #[.int .i64 a0_0, (.slice A0_1 l0_1.length c0_1)] 33 (0, 0))) ∧ Aside0 (wc.heap[gb707]? = some (.cells #[.int .i64 t703, (.slice Ao36 t704.length co36)] 37 (0, 0))) ∧ Aside0 (Below w.heap.size w wc))
         case first =>
          have H := HC49.out
          clear HC49
          by_cases c50 : x62_21 = true
          ·subst c50
           have H1 : (some false) = some r := by rw [if_pos rfl] at H; exact H
           clear H
           have H := H1
           clear H1
           obtain rfl := Option.some.inj H
           go_wp2
           go_ret
           exact ⟨by first | rfl | (simp [errW_none, errW_some] <;> rfl) | (simp [*, errW_none, errW_some] <;> rfl), by exact Lz2 HB GE687 GE707⟩
          replace c50 := Bool.eq_false_iff.mpr c50
          subst c50
          have H1 : (laws_FnExactFireSet.j4 kj21 l1 l2 t699 t702 t708 t711 t714 t717 a0_0 l0_1 t703 t704) = some r := by rw [if_neg (show ¬ (false = true) by decide)] at H; exact H
          clear H
          have H := H1
          clear H1
          have H' := Aside0.mk H
          clear H
          go_wp2
          go_meet
          case rel => exact ⟨_, H', ⟨by have := HJ3.out; have := HJ6.out; have := HJ9.out; have := HJ21.out; first | omega | exact Nat.le_refl _⟩, ⟨by exact Rz HO_8⟩, ⟨by exact Rz HO_11⟩, ⟨by exact Rz HO_12⟩, ⟨by exact Rz HO_13⟩, ⟨by exact Rz HO_708001⟩, ⟨by exact Bz BK687⟩, ⟨by exact Bz BK707⟩, ⟨by exact Lz2 HB GE687 GE707⟩⟩
         case rest =>
          clear HC49
          try clear c1
          try clear c2
          try clear c6
          try clear c6b0
          try clear c6b1
          try clear c8
          try clear c8b0
          try clear c8b1
          try clear c13
          try clear c13b0
          try clear c44
          try clear c50
          obtain ⟨kq, HA, HJ48, HO_8, HO_11, HO_12, HO_13, HO_708001, BK687, BK707, HB⟩ := hcut
          cases kq with
          | zero => exact absurd HA.out (by simp [laws_FnExactFireSet.j4])
          | succ kj48 =>
           have H := HA.out
           clear HA
           simp only [laws_FnExactFireSet.j4] at H
           replace H := Option.bind_eq_some_iff.mp H
           obtain ⟨⟨t719, t720⟩, A510, H⟩ := H
           replace H : ((laws_eqGraph.f kj48 t703 t704 t719 t720).bind fun t723 => (if t723 = true then (laws_FnExactFireSet.j5 kj48 l1 l2 t699 t702 t708 t711 t714 t717 a0_0 l0_1 t703 t704) else (some false))) = some r := H
           have A51 := Aside0.mk A510
           clear A510
           replace H := Option.bind_eq_some_iff.mp H
           obtain ⟨t723, A520, H⟩ := H
           replace H : (if t723 = true then (laws_FnExactFireSet.j5 kj48 l1 l2 t699 t702 t708 t711 t714 t717 a0_0 l0_1 t703 t704) else (some false)) = some r := H
           have A52 := Aside0.mk A520
           clear A520
           have HC53 := Aside0.mk H
           clear H
           try go_wp2
           replace HO_8 := Aside0.mk (Kd.R_drew HO_8.out)
           replace HO_11 := Aside0.mk (Kd.R_drew HO_11.out)
           replace HO_12 := Aside0.mk (Kd.R_drew HO_12.out)
           replace HO_13 := Aside0.mk (Kd.R_drew HO_13.out)
           replace HO_708001 := Aside0.mk (Kd.R_drew HO_708001.out)
           replace BK687 := Aside0.mk (blk_drew BK687.out)
           replace BK707 := Aside0.mk (blk_drew BK707.out)
           replace HB := Aside0.mk (below_drew1 HB.out)
           refine start_ (n := 5) (S := fun w' => w'.cell? ⟨gb707, 0, none⟩ = some (.int .i64 t703) ∧ w'.cell? ⟨gb707, 1, none⟩ = some (.slice Ao36 t704.length co36) ∧ w'.cell? ⟨gb687, 0, none⟩ = some (.int .i64 a0_0) ∧ w'.cell? ⟨gb687, 1, none⟩ = some (.slice A0_1 l0_1.length c0_1)) (ds := []) #[false, false, false, false, false] (by kernel_rfl) rfl rfl ⟨(blk_cell BK707.out 0).trans rfl, (blk_cell BK707.out 1).trans rfl, (blk_cell BK687.out 0).trans rfl, (blk_cell BK687.out 1).trans rfl⟩ (fun hHeld => ?_)
           generalize wc.drew = w54 at HO_8 HO_11 HO_12 HO_13 HO_708001 BK687 BK707 HB hHeld ⊢
           refine take_ (i := 0) (N := some 63) (v := ?_) (a' := ?_) #[true, false, false, false, false] rfl rfl (by kernel_rfl) (fun _ _ _ h => h) (Or.inl ⟨by rfl, ?_⟩) hHeld ?_ ?_
           rotate_left
           ·rintro w' ⟨s0, s1, s2, s3⟩
            go_simp
            with_reducible rfl
           rotate_left
           ·simp only [Act.put, List.setIfInBounds_toArray, List.set_cons_zero, List.set_cons_succ, i64_w, i32_w]
            rfl
           refine take_ (i := 1) (N := some 64) (v := ?_) (a' := ?_) #[true, true, false, false, false] rfl rfl (by kernel_rfl) (fun _ _ _ h => h) (Or.inl ⟨by rfl, ?_⟩) hHeld ?_ ?_
           rotate_left
           ·rintro w' ⟨s0, s1, s2, s3⟩
            go_simp
            with_reducible rfl
           rotate_left
           ·simp only [Act.put, List.setIfInBounds_toArray, List.set_cons_zero, List.set_cons_succ, i64_w, i32_w]
            rfl
           refine one_ (i := 2) (N := some 65) #[true, true, true, false, false] rfl rfl (by kernel_rfl) (by decide) (fun K hK => ?_)
           refine goes_ Try.func26 (by kernel_rfl) rfl #[.agg #[.int .i64 a0_0, .slice A0_1 l0_1.length c0_1]] (by rfl) rfl rfl (by (try simp only [List.map_toArray, List.map_cons, List.map_nil]); first | done | rfl | (simp only [List.length_drop, List.length_take]; rfl)) ?_
           with_reducible refine (laws_toGraph.calls kj48 a0_0 _ _ l0_1 t719 t720 _ ?side1 ?side2 A51.out).mono ?_
           (case side1 => exact Cz ((Kd.C_below HR0_1.out HB.out)))
           (case side2 => exact HC0_1.out)
           rintro e w55 ⟨v721, rfl, ho0, hb⟩
           refine ⟨_, rfl, ?_⟩
           replace HO_8 := Aside0.mk (Kd.R_below (Rz HO_8) hb)
           replace HO_11 := Aside0.mk (Kd.R_below (Rz HO_11) hb)
           replace HO_12 := Aside0.mk (Kd.R_below (Rz HO_12) hb)
           replace HO_13 := Aside0.mk (Kd.R_below (Rz HO_13) hb)
           have HO722 := Aside0.mk (Kd.R_lower (Kd.R_new' ho0 (Kd.R_lt (Rz HO_708001))) (below_size (by exact Lz2 HB GE687 GE707)))
           replace HO_708001 := Aside0.mk (Kd.R_elder' (Rz HO_708001) (Kd.R_base ho0) hb)
           replace BK687 := Aside0.mk (blk_below (g := gb687) (o := .cells #[.int .i64 a0_0, .slice A0_1 l0_1.length c0_1] 33 (0, 0)) (Bz BK687) hb)
           replace BK707 := Aside0.mk (blk_below (g := gb707) (o := .cells #[.int .i64 t703, .slice Ao36 t704.length co36] 37 (0, 0)) (Bz BK707) hb)
           replace HB := Aside0.mk (below_step (by exact Lz2 HB GE687 GE707) hb)
           (try clear hb)
           (try clear hb2)
           (try clear hk)
           (try clear hi)
           (try clear ho0)
           obtain ⟨Ao56, co56, eo56⟩ := Kd.R_slice HO722.out
           (first | subst eo56 | (injection eo56 with f1_ f2_ f3_; have f4_ := f1_.symm; have f5_ := f3_.symm; clear f1_ f2_ f3_; subst f4_; subst f5_))
           refine hK.out _ _ ⟨(blk_cell BK707.out 0).trans rfl, (blk_cell BK707.out 1).trans rfl, (blk_cell BK687.out 0).trans rfl, (blk_cell BK687.out 1).trans rfl⟩ (fun hHeld => ?_)
           clear hK K
           refine norm_ (a' := ?_) ?_ ?_
           rotate_left
           ·show Act.put _ (some 65) _ = _
            simp only [Act.put, List.setIfInBounds_toArray, List.set_cons_zero, List.set_cons_succ, i64_w, i32_w]
            rfl
           refine one_ (i := 3) (N := some 66) #[true, true, true, true, false] rfl rfl (by kernel_rfl) (by decide) (fun K hK => ?_)
           refine goes_ Try.func28 (by kernel_rfl) rfl #[.agg #[.int .i64 t703, .slice Ao36 t704.length co36], .agg #[.int .i64 t719, .slice Ao56 t720.length co56]] (by rfl) rfl rfl (by (try simp only [List.map_toArray, List.map_cons, List.map_nil]); first | done | rfl | (simp only [List.length_drop, List.length_take]; rfl)) ?_
           with_reducible refine (laws_eqGraph.calls kj48 t703 _ _ t704 t719 _ _ t720 t723 _ ?side1 ?side2 ?side3 ?side4 A52.out).mono ?_
           (case side1 => exact Cz ((Kd.R_reads' HO_708001.out).2.2))
           (case side2 => exact (Kd.R_reads' HO_708001.out).2.1)
           (case side3 => exact Cz ((Kd.R_reads' HO722.out).2.2))
           (case side4 => exact (Kd.R_reads' HO722.out).2.1)
           rintro e w57 ⟨rfl, hb⟩
           refine ⟨_, rfl, ?_⟩
           replace HO_8 := Aside0.mk (Kd.R_below (Rz HO_8) hb)
           replace HO_11 := Aside0.mk (Kd.R_below (Rz HO_11) hb)
           replace HO_12 := Aside0.mk (Kd.R_below (Rz HO_12) hb)
           replace HO_13 := Aside0.mk (Kd.R_below (Rz HO_13) hb)
           replace HO_708001 := Aside0.mk (Kd.R_below (Rz HO_708001) hb)
           replace HO722 := Aside0.mk (Kd.R_below (Rz HO722) hb)
           replace BK687 := Aside0.mk (blk_below (g := gb687) (o := .cells #[.int .i64 a0_0, .slice A0_1 l0_1.length c0_1] 33 (0, 0)) (Bz BK687) hb)
           replace BK707 := Aside0.mk (blk_below (g := gb707) (o := .cells #[.int .i64 t703, .slice Ao36 t704.length co36] 37 (0, 0)) (Bz BK707) hb)
           replace HB := Aside0.mk (below_step (by exact Lz2 HB GE687 GE707) hb)
           (try clear hb)
           (try clear hb2)
           (try clear hk)
           (try clear hi)
           refine hK.out _ _ ⟨(blk_cell BK707.out 0).trans rfl, (blk_cell BK707.out 1).trans rfl, (blk_cell BK687.out 0).trans rfl, (blk_cell BK687.out 1).trans rfl⟩ (fun hHeld => ?_)
           clear hK K
           refine norm_ (a' := ?_) ?_ ?_
           rotate_left
           ·show Act.put _ (some 66) _ = _
            simp only [Act.put, List.setIfInBounds_toArray, List.set_cons_zero, List.set_cons_succ, i64_w, i32_w]
            rfl
           refine pure_ (i := 4) (N := some 67) (v := ?_) (a' := ?_) #[true, true, true, true, true] rfl rfl (by kernel_rfl) (fun _ _ _ h => h) (Or.inl ⟨by rfl, ?_⟩) ?_ ?_
           rotate_left
           ·intro w'
            go_simp
            with_reducible rfl
           rotate_left
           ·simp only [Act.put, List.setIfInBounds_toArray, List.set_cons_zero, List.set_cons_succ, i64_w, i32_w]
            rfl
           refine done_ (by kernel_rfl) ?_
           go_upto_if 67 with (fail)
           go_cut [] (fun wc => ∃ (kq : Nat), Aside0 (laws_FnExactFireSet.j5 kq l1 l2 t699 t702 t708 t711 t714 t717 a0_0 l0_1 t703 t704 = some r) ∧ Aside0 (kq ≤ kj48) ∧ Aside0 (Kd.R (Kd.int .i64) 3 wc w.heap.size (fun k_ => some k_ ≠ ((.slice Ao40 t708.length co40) : Value).ownBlock ∧ some k_ ≠ ((.slice Ao41 t711.length co41) : Value).ownBlock ∧ some k_ ≠ (v715 : Value).ownBlock) v700 t699) ∧ Aside0 (Kd.R (Kd.int .i64) 3 wc w.heap.size (fun k_ => some k_ ≠ (v700 : Value).ownBlock ∧ some k_ ≠ ((.slice Ao41 t711.length co41) : Value).ownBlock ∧ some k_ ≠ (v715 : Value).ownBlock) (.slice Ao40 t708.length co40) t708) ∧ Aside0 (Kd.R (Kd.int .i64) 3 wc w.heap.size (fun k_ => some k_ ≠ (v700 : Value).ownBlock ∧ some k_ ≠ ((.slice Ao40 t708.length co40) : Value).ownBlock ∧ some k_ ≠ (v715 : Value).ownBlock) (.slice Ao41 t711.length co41) t711) ∧ Aside0 (Kd.R (Kd.int .i64) 3 wc w.heap.size (fun k_ => some k_ ≠ (v700 : Value).ownBlock ∧ some k_ ≠ ((.slice Ao40 t708.length co40) : Value).ownBlock ∧ some k_ ≠ ((.slice Ao41 t711.length co41) : Value).ownBlock) v715 t714) ∧ Aside0 (Kd.R k68 68 wc w.heap.size (fun _ => True) (.slice Ao36 t704.length co36) t704) ∧ Aside0 (wc.heap[gb687]? = some (.cells #[.int .i64 a0_0, (.slice A0_1 l0_1.length c0_1)] 33 (0, 0))) ∧ Aside0 (wc.heap[gb707]? = some (.cells #[.int .i64 t703, (.slice Ao36 t704.length co36)] 37 (0, 0))) ∧ Aside0 (Below w.heap.size w wc))
           case first =>
            have H := HC53.out
            clear HC53
            by_cases c58 : t723 = true
            ·subst c58
             have H1 : (laws_FnExactFireSet.j5 kj48 l1 l2 t699 t702 t708 t711 t714 t717 a0_0 l0_1 t703 t704) = some r := by rw [if_pos rfl] at H; exact H
             clear H
             have H := H1
             clear H1
             have H' := Aside0.mk H
             clear H
             go_wp2
             go_meet
             case rel => exact ⟨_, H', ⟨by have := HJ3.out; have := HJ6.out; have := HJ9.out; have := HJ21.out; have := HJ48.out; first | omega | exact Nat.le_refl _⟩, ⟨by exact Rz HO_8⟩, ⟨by exact Rz HO_11⟩, ⟨by exact Rz HO_12⟩, ⟨by exact Rz HO_13⟩, ⟨by (with_reducible repeat (first | apply Kd.R_alloc | apply Kd.R_drewN | apply Kd.R_drew)); exact Kd.R_mono HO_708001.out (fun _ hk => trivial)⟩, ⟨by exact Bz BK687⟩, ⟨by exact Bz BK707⟩, ⟨by exact Lz2 HB GE687 GE707⟩⟩
            replace c58 := Bool.eq_false_iff.mpr c58
            subst c58
            have H1 : (some false) = some r := by rw [if_neg (show ¬ (false = true) by decide)] at H; exact H
            clear H
            have H := H1
            clear H1
            obtain rfl := Option.some.inj H
            go_wp2
            go_ret
            exact ⟨by first | rfl | (simp [errW_none, errW_some] <;> rfl) | (simp [*, errW_none, errW_some] <;> rfl), by exact Lz2 HB GE687 GE707⟩
           case rest =>
            clear HC53
            try clear c1
            try clear c2
            try clear c6
            try clear c6b0
            try clear c6b1
            try clear c8
            try clear c8b0
            try clear c8b1
            try clear c13
            try clear c13b0
            try clear c44
            try clear c50
            try clear c58
            obtain ⟨kq, HA, HJ52, HO_8, HO_11, HO_12, HO_13, HO_708001, BK687, BK707, HB⟩ := hcut
            cases kq with
            | zero => exact absurd HA.out (by simp [laws_FnExactFireSet.j5])
            | succ kj52 =>
             have H := HA.out
             clear HA
             simp only [laws_FnExactFireSet.j5] at H
             replace H := Option.bind_eq_some_iff.mp H
             obtain ⟨t724, A590, H⟩ := H
             replace H : ((laws_eqIntS.f kj52 t708 t724).bind fun t727 => (if t727 = true then (laws_FnExactFireSet.j6 kj52 l1 l2 t699 t702 t708 t711 t714 t717 a0_0 l0_1 t703 t704) else (some false))) = some r := H
             have A59 := Aside0.mk A590
             clear A590
             replace H := Option.bind_eq_some_iff.mp H
             obtain ⟨t727, A600, H⟩ := H
             replace H : (if t727 = true then (laws_FnExactFireSet.j6 kj52 l1 l2 t699 t702 t708 t711 t714 t717 a0_0 l0_1 t703 t704) else (some false)) = some r := H
             have A60 := Aside0.mk A600
             clear A600
             have HC61 := Aside0.mk H
             clear H
             go_upto_if 72 with (first | ((with_reducible refine gate_callee (f := 36) rfl ?_); refine goesM_ (some 70) rfl rfl Try.func36 (by kernel_rfl) rfl #[.slice A1 l1.length c1] rfl ?_; (with_reducible refine (laws_toIntS.calls kj52 _ _ l1 t724 _ ?side1 ?side2 A59.out).mono ?_); (case side1 => exact Cz ((Kd.C_below HR1.out HB.out))); (case side2 => exact HC1.out); rintro e w62 ⟨v725, rfl, ho0, hb⟩; refine ⟨_, rfl, ?_⟩; replace HO_708001 := Aside0.mk (Kd.R_below (Rz HO_708001) hb); have HO726 := Aside0.mk (Kd.R_lower (Kd.R_new' (Kd.R_new' (Kd.R_new' (Kd.R_new' ho0 (Kd.R_lt (Rz HO_8))) (Kd.R_lt (Rz HO_11))) (Kd.R_lt (Rz HO_12))) (Kd.R_lt (Rz HO_13))) (below_size (by exact Lz2 HB GE687 GE707))); replace HO_8 := Aside0.mk (Kd.R_elder' (Rz HO_8) (Kd.R_base ho0) hb); replace HO_11 := Aside0.mk (Kd.R_elder' (Rz HO_11) (Kd.R_base ho0) hb); replace HO_12 := Aside0.mk (Kd.R_elder' (Rz HO_12) (Kd.R_base ho0) hb); replace HO_13 := Aside0.mk (Kd.R_elder' (Rz HO_13) (Kd.R_base ho0) hb); replace BK687 := Aside0.mk (blk_below (g := gb687) (o := .cells #[.int .i64 a0_0, .slice A0_1 l0_1.length c0_1] 33 (0, 0)) (Bz BK687) hb); replace BK707 := Aside0.mk (blk_below (g := gb707) (o := .cells #[.int .i64 t703, .slice Ao36 t704.length co36] 37 (0, 0)) (Bz BK707) hb); replace HB := Aside0.mk (below_step (by exact Lz2 HB GE687 GE707) hb); (try clear hb); (try clear ho0); obtain ⟨Ao63, co63, eo63⟩ := Kd.R_slice HO726.out; subst eo63) | ((with_reducible refine gate_callee (f := 19) rfl ?_); refine goesM_ (some 71) rfl rfl Try.func19 (by kernel_rfl) rfl #[.slice Ao40 t708.length co40, .slice Ao63 t724.length co63] rfl ?_; (with_reducible refine (laws_eqIntS.calls kj52 _ _ t708 _ _ t724 t727 _ ?side1 ?side2 ?side3 ?side4 A60.out).mono ?_); (case side1 => exact Cz ((Kd.R_reads' HO_11.out).2.2)); (case side2 => exact (Kd.R_reads' HO_11.out).2.1); (case side3 => exact Cz ((Kd.R_reads' HO726.out).2.2)); (case side4 => exact (Kd.R_reads' HO726.out).2.1); rintro e w' ⟨rfl, ⟨nd, rfl⟩⟩; refine ⟨_, rfl, ?_⟩))
             (try simp only [Act.put, List.setIfInBounds_toArray, List.set_cons_zero, List.set_cons_succ])
             go_cut [] (fun wc => ∃ (kq : Nat), Aside0 (laws_FnExactFireSet.j6 kq l1 l2 t699 t702 t708 t711 t714 t717 a0_0 l0_1 t703 t704 = some r) ∧ Aside0 (kq ≤ kj52) ∧ Aside0 (Kd.R (Kd.int .i64) 3 wc w.heap.size (fun k_ => some k_ ≠ ((.slice Ao40 t708.length co40) : Value).ownBlock ∧ some k_ ≠ ((.slice Ao41 t711.length co41) : Value).ownBlock ∧ some k_ ≠ (v715 : Value).ownBlock) v700 t699) ∧ Aside0 (Kd.R (Kd.int .i64) 3 wc w.heap.size (fun k_ => some k_ ≠ (v700 : Value).ownBlock ∧ some k_ ≠ ((.slice Ao41 t711.length co41) : Value).ownBlock ∧ some k_ ≠ (v715 : Value).ownBlock) (.slice Ao40 t708.length co40) t708) ∧ Aside0 (Kd.R (Kd.int .i64) 3 wc w.heap.size (fun k_ => some k_ ≠ (v700 : Value).ownBlock ∧ some k_ ≠ ((.slice Ao40 t708.length co40) : Value).ownBlock ∧ some k_ ≠ (v715 : Value).ownBlock) (.slice Ao41 t711.length co41) t711) ∧ Aside0 (Kd.R (Kd.int .i64) 3 wc w.heap.size (fun k_ => some k_ ≠ (v700 : Value).ownBlock ∧ some k_ ≠ ((.slice Ao40 t708.length co40) : Value).ownBlock ∧ some k_ ≠ ((.slice Ao41 t711.length co41) : Value).ownBlock) v715 t714) ∧ Aside0 (Kd.R k68 68 wc w.heap.size (fun _ => True) (.slice Ao36 t704.length co36) t704) ∧ Aside0 (wc.heap[gb687]? = some (.cells #[.int .i64 a0_0, (.slice A0_1 l0_1.length c0_1)] 33 (0, 0))) ∧ Aside0 (wc.heap[gb707]? = some (.cells #[.int .i64 t703, (.slice Ao36 t704.length co36)] 37 (0, 0))) ∧ Aside0 (Below w.heap.size w wc))
             case first =>
              have H := HC61.out
              clear HC61
              by_cases c64 : t727 = true
              ·subst c64
               have H1 : (laws_FnExactFireSet.j6 kj52 l1 l2 t699 t702 t708 t711 t714 t717 a0_0 l0_1 t703 t704) = some r := by rw [if_pos rfl] at H; exact H
               clear H
               have H := H1
               clear H1
               have H' := Aside0.mk H
               clear H
               go_wp2
               go_meet
               case rel => exact ⟨_, H', ⟨by have := HJ3.out; have := HJ6.out; have := HJ9.out; have := HJ21.out; have := HJ48.out; have := HJ52.out; first | omega | exact Nat.le_refl _⟩, ⟨by (with_reducible repeat (first | apply Kd.R_alloc | apply Kd.R_drewN | apply Kd.R_drew)); exact Kd.R_mono HO_8.out (fun _ hk => ⟨hk.1.1, ⟨hk.1.2.1, hk.1.2.2⟩⟩)⟩, ⟨by (with_reducible repeat (first | apply Kd.R_alloc | apply Kd.R_drewN | apply Kd.R_drew)); exact Kd.R_mono HO_11.out (fun _ hk => ⟨hk.1.1, ⟨hk.1.2.1, hk.1.2.2⟩⟩)⟩, ⟨by (with_reducible repeat (first | apply Kd.R_alloc | apply Kd.R_drewN | apply Kd.R_drew)); exact Kd.R_mono HO_12.out (fun _ hk => ⟨hk.1.1, ⟨hk.1.2.1, hk.1.2.2⟩⟩)⟩, ⟨by (with_reducible repeat (first | apply Kd.R_alloc | apply Kd.R_drewN | apply Kd.R_drew)); exact Kd.R_mono HO_13.out (fun _ hk => ⟨hk.1.1, ⟨hk.1.2.1, hk.1.2.2⟩⟩)⟩, ⟨by exact Rz HO_708001⟩, ⟨by exact Bz BK687⟩, ⟨by exact Bz BK707⟩, ⟨by exact Lz2 HB GE687 GE707⟩⟩
              replace c64 := Bool.eq_false_iff.mpr c64
              subst c64
              have H1 : (some false) = some r := by rw [if_neg (show ¬ (false = true) by decide)] at H; exact H
              clear H
              have H := H1
              clear H1
              obtain rfl := Option.some.inj H
              go_wp2
              go_ret
              exact ⟨by first | rfl | (simp [errW_none, errW_some] <;> rfl) | (simp [*, errW_none, errW_some] <;> rfl), by exact Lz2 HB GE687 GE707⟩
             case rest =>
              clear HC61
              try clear c1
              try clear c2
              try clear c6
              try clear c6b0
              try clear c6b1
              try clear c8
              try clear c8b0
              try clear c8b1
              try clear c13
              try clear c13b0
              try clear c44
              try clear c50
              try clear c58
              try clear c64
              obtain ⟨kq, HA, HJ60, HO_8, HO_11, HO_12, HO_13, HO_708001, BK687, BK707, HB⟩ := hcut
              cases kq with
              | zero => exact absurd HA.out (by simp [laws_FnExactFireSet.j6])
              | succ kj60 =>
               have H := HA.out
               clear HA
               simp only [laws_FnExactFireSet.j6] at H
               replace H := Option.bind_eq_some_iff.mp H
               obtain ⟨t728, A650, H⟩ := H
               replace H : ((laws_eqIntS.f kj60 t711 t728).bind fun t731 => (if t731 = true then (laws_FnExactFireSet.j7 kj60 l1 l2 t699 t702 t708 t711 t714 t717 a0_0 l0_1 t703 t704) else (some false))) = some r := H
               have A65 := Aside0.mk A650
               clear A650
               replace H := Option.bind_eq_some_iff.mp H
               obtain ⟨t731, A660, H⟩ := H
               replace H : (if t731 = true then (laws_FnExactFireSet.j7 kj60 l1 l2 t699 t702 t708 t711 t714 t717 a0_0 l0_1 t703 t704) else (some false)) = some r := H
               have A66 := Aside0.mk A660
               clear A660
               have HC67 := Aside0.mk H
               clear H
               go_upto_if 77 with (first | ((with_reducible refine gate_callee (f := 36) rfl ?_); refine goesM_ (some 75) rfl rfl Try.func36 (by kernel_rfl) rfl #[.slice A2 l2.length c2] rfl ?_; (with_reducible refine (laws_toIntS.calls kj60 _ _ l2 t728 _ ?side1 ?side2 A65.out).mono ?_); (case side1 => exact Cz ((Kd.C_below HR2.out HB.out))); (case side2 => exact HC2.out); rintro e w68 ⟨v729, rfl, ho0, hb⟩; refine ⟨_, rfl, ?_⟩; replace HO_708001 := Aside0.mk (Kd.R_below (Rz HO_708001) hb); have HO730 := Aside0.mk (Kd.R_lower (Kd.R_new' (Kd.R_new' (Kd.R_new' (Kd.R_new' ho0 (Kd.R_lt (Rz HO_8))) (Kd.R_lt (Rz HO_11))) (Kd.R_lt (Rz HO_12))) (Kd.R_lt (Rz HO_13))) (below_size (by exact Lz2 HB GE687 GE707))); replace HO_8 := Aside0.mk (Kd.R_elder' (Rz HO_8) (Kd.R_base ho0) hb); replace HO_11 := Aside0.mk (Kd.R_elder' (Rz HO_11) (Kd.R_base ho0) hb); replace HO_12 := Aside0.mk (Kd.R_elder' (Rz HO_12) (Kd.R_base ho0) hb); replace HO_13 := Aside0.mk (Kd.R_elder' (Rz HO_13) (Kd.R_base ho0) hb); replace BK687 := Aside0.mk (blk_below (g := gb687) (o := .cells #[.int .i64 a0_0, .slice A0_1 l0_1.length c0_1] 33 (0, 0)) (Bz BK687) hb); replace BK707 := Aside0.mk (blk_below (g := gb707) (o := .cells #[.int .i64 t703, .slice Ao36 t704.length co36] 37 (0, 0)) (Bz BK707) hb); replace HB := Aside0.mk (below_step (by exact Lz2 HB GE687 GE707) hb); (try clear hb); (try clear ho0); obtain ⟨Ao69, co69, eo69⟩ := Kd.R_slice HO730.out; subst eo69) | ((with_reducible refine gate_callee (f := 19) rfl ?_); refine goesM_ (some 76) rfl rfl Try.func19 (by kernel_rfl) rfl #[.slice Ao41 t711.length co41, .slice Ao69 t728.length co69] rfl ?_; (with_reducible refine (laws_eqIntS.calls kj60 _ _ t711 _ _ t728 t731 _ ?side1 ?side2 ?side3 ?side4 A66.out).mono ?_); (case side1 => exact Cz ((Kd.R_reads' HO_12.out).2.2)); (case side2 => exact (Kd.R_reads' HO_12.out).2.1); (case side3 => exact Cz ((Kd.R_reads' HO730.out).2.2)); (case side4 => exact (Kd.R_reads' HO730.out).2.1); rintro e w' ⟨rfl, ⟨nd, rfl⟩⟩; refine ⟨_, rfl, ?_⟩))
               (try simp only [Act.put, List.setIfInBounds_toArray, List.set_cons_zero, List.set_cons_succ])
               go_cut [] (fun wc => ∃ (kq : Nat), Aside0 (laws_FnExactFireSet.j7 kq l1 l2 t699 t702 t708 t711 t714 t717 a0_0 l0_1 t703 t704 = some r) ∧ Aside0 (kq ≤ kj60) ∧ Aside0 (Kd.R (Kd.int .i64) 3 wc w.heap.size (fun k_ => some k_ ≠ ((.slice Ao40 t708.length co40) : Value).ownBlock ∧ some k_ ≠ ((.slice Ao41 t711.length co41) : Value).ownBlock ∧ some k_ ≠ (v715 : Value).ownBlock) v700 t699) ∧ Aside0 (Kd.R (Kd.int .i64) 3 wc w.heap.size (fun k_ => some k_ ≠ (v700 : Value).ownBlock ∧ some k_ ≠ ((.slice Ao41 t711.length co41) : Value).ownBlock ∧ some k_ ≠ (v715 : Value).ownBlock) (.slice Ao40 t708.length co40) t708) ∧ Aside0 (Kd.R (Kd.int .i64) 3 wc w.heap.size (fun k_ => some k_ ≠ (v700 : Value).ownBlock ∧ some k_ ≠ ((.slice Ao40 t708.length co40) : Value).ownBlock ∧ some k_ ≠ (v715 : Value).ownBlock) (.slice Ao41 t711.length co41) t711) ∧ Aside0 (Kd.R (Kd.int .i64) 3 wc w.heap.size (fun k_ => some k_ ≠ (v700 : Value).ownBlock ∧ some k_ ≠ ((.slice Ao40 t708.length co40) : Value).ownBlock ∧ some k_ ≠ ((.slice Ao41 t711.length co41) : Value).ownBlock) v715 t714) ∧ Aside0 (Kd.R k68 68 wc w.heap.size (fun _ => True) (.slice Ao36 t704.length co36) t704) ∧ Aside0 (wc.heap[gb687]? = some (.cells #[.int .i64 a0_0, (.slice A0_1 l0_1.length c0_1)] 33 (0, 0))) ∧ Aside0 (wc.heap[gb707]? = some (.cells #[.int .i64 t703, (.slice Ao36 t704.length co36)] 37 (0, 0))) ∧ Aside0 (Below w.heap.size w wc))
               case first =>
                have H := HC67.out
                clear HC67
                by_cases c70 : t731 = true
                ·subst c70
                 have H1 : (laws_FnExactFireSet.j7 kj60 l1 l2 t699 t702 t708 t711 t714 t717 a0_0 l0_1 t703 t704) = some r := by rw [if_pos rfl] at H; exact H
                 clear H
                 have H := H1
                 clear H1
                 have H' := Aside0.mk H
                 clear H
                 go_wp2
                 go_meet
                 case rel => exact ⟨_, H', ⟨by have := HJ3.out; have := HJ6.out; have := HJ9.out; have := HJ21.out; have := HJ48.out; have := HJ52.out; have := HJ60.out; first | omega | exact Nat.le_refl _⟩, ⟨by (with_reducible repeat (first | apply Kd.R_alloc | apply Kd.R_drewN | apply Kd.R_drew)); exact Kd.R_mono HO_8.out (fun _ hk => ⟨hk.1.1, ⟨hk.1.2.1, hk.1.2.2⟩⟩)⟩, ⟨by (with_reducible repeat (first | apply Kd.R_alloc | apply Kd.R_drewN | apply Kd.R_drew)); exact Kd.R_mono HO_11.out (fun _ hk => ⟨hk.1.1, ⟨hk.1.2.1, hk.1.2.2⟩⟩)⟩, ⟨by (with_reducible repeat (first | apply Kd.R_alloc | apply Kd.R_drewN | apply Kd.R_drew)); exact Kd.R_mono HO_12.out (fun _ hk => ⟨hk.1.1, ⟨hk.1.2.1, hk.1.2.2⟩⟩)⟩, ⟨by (with_reducible repeat (first | apply Kd.R_alloc | apply Kd.R_drewN | apply Kd.R_drew)); exact Kd.R_mono HO_13.out (fun _ hk => ⟨hk.1.1, ⟨hk.1.2.1, hk.1.2.2⟩⟩)⟩, ⟨by exact Rz HO_708001⟩, ⟨by exact Bz BK687⟩, ⟨by exact Bz BK707⟩, ⟨by exact Lz2 HB GE687 GE707⟩⟩
                replace c70 := Bool.eq_false_iff.mpr c70
                subst c70
                have H1 : (some false) = some r := by rw [if_neg (show ¬ (false = true) by decide)] at H; exact H
                clear H
                have H := H1
                clear H1
                obtain rfl := Option.some.inj H
                go_wp2
                go_ret
                exact ⟨by first | rfl | (simp [errW_none, errW_some] <;> rfl) | (simp [*, errW_none, errW_some] <;> rfl), by exact Lz2 HB GE687 GE707⟩
               case rest =>
                clear HC67
                try clear c1
                try clear c2
                try clear c6
                try clear c6b0
                try clear c6b1
                try clear c8
                try clear c8b0
                try clear c8b1
                try clear c13
                try clear c13b0
                try clear c44
                try clear c50
                try clear c58
                try clear c64
                try clear c70
                obtain ⟨kq, HA, HJ66, HO_8, HO_11, HO_12, HO_13, HO_708001, BK687, BK707, HB⟩ := hcut
                cases kq with
                | zero => exact absurd HA.out (by simp [laws_FnExactFireSet.j7])
                | succ kj66 =>
                 have H := HA.out
                 clear HA
                 simp only [laws_FnExactFireSet.j7] at H
                 replace H := Option.bind_eq_some_iff.mp H
                 obtain ⟨⟨t732, t733⟩, A710, H⟩ := H
                 replace H : ((laws_markIntS.f kj66 t708 t732).bind fun bt734 => ((laws_markIntS.f kj66 t711 bt734.1).bind fun bt736 => (if bt736.1 < 0 then (laws_FnExactFireSet.j8 kj66 l1 l2 t699 t702 t714 true a0_0 l0_1) else ((laws_eqIntS.f kj66 t714 t699).bind fun t738 => (if t738 = true then (laws_FnExactFireSet.j8 kj66 l1 l2 t699 t702 t714 (t717 != t702) a0_0 l0_1) else (laws_FnExactFireSet.j8 kj66 l1 l2 t699 t702 t714 true a0_0 l0_1)))))) = some r := H
                 have A71 := Aside0.mk A710
                 clear A710
                 replace H := Option.bind_eq_some_iff.mp H
                 obtain ⟨⟨t734, t735⟩, A720, H⟩ := H
                 replace H : ((laws_markIntS.f kj66 t711 t734).bind fun bt736 => (if bt736.1 < 0 then (laws_FnExactFireSet.j8 kj66 l1 l2 t699 t702 t714 true a0_0 l0_1) else ((laws_eqIntS.f kj66 t714 t699).bind fun t738 => (if t738 = true then (laws_FnExactFireSet.j8 kj66 l1 l2 t699 t702 t714 (t717 != t702) a0_0 l0_1) else (laws_FnExactFireSet.j8 kj66 l1 l2 t699 t702 t714 true a0_0 l0_1))))) = some r := H
                 have A72 := Aside0.mk A720
                 clear A720
                 replace H := Option.bind_eq_some_iff.mp H
                 obtain ⟨⟨t736, t737⟩, A730, H⟩ := H
                 replace H : (if t736 < 0 then (laws_FnExactFireSet.j8 kj66 l1 l2 t699 t702 t714 true a0_0 l0_1) else ((laws_eqIntS.f kj66 t714 t699).bind fun t738 => (if t738 = true then (laws_FnExactFireSet.j8 kj66 l1 l2 t699 t702 t714 (t717 != t702) a0_0 l0_1) else (laws_FnExactFireSet.j8 kj66 l1 l2 t699 t702 t714 true a0_0 l0_1)))) = some r := H
                 have A73 := Aside0.mk A730
                 clear A730
                 have HC74 := Aside0.mk H
                 clear H
                 have hnb75 := NB707_687.out
                 have hnc75 := NB687_707.out
                 have hcz76_0 : wc.cell? ⟨gb707, 0, none⟩ = some (.int .i64 t703) := (blk_cell BK707.out 0).trans rfl
                 have hcz76_1 : wc.cell? ⟨gb707, 1, none⟩ = some (.slice Ao36 t704.length co36) := (blk_cell BK707.out 1).trans rfl
                 have hfz76_0 := blk_frozen BK707.out 0
                 have hfz76_1 := blk_frozen BK707.out 1
                 go_upto_region 26 with (first | ((with_reducible refine gate_callee (f := 29) rfl ?_); refine goesM_ (some 80) rfl rfl Try.func29 (by kernel_rfl) rfl #[.agg #[.int .i64 t703, .slice Ao36 t704.length co36], .int .i64 1] rfl ?_; (with_reducible refine (laws_markGraph.calls kj66 t703 (fun k_ => some k_ = (.slice Ao36 t704.length co36 : Value).ownBlock) (.slice Ao36 t704.length co36) t704 1 t732 t733 w _ ?side1 ?side2 A71.out).mono ?_); (case side1 => exact Lz2 HB GE687 GE707); (case side2 => exact Kd.R_tight rfl HO_708001.out); rintro e w77 ⟨rfl, hy0, hb, hkp⟩; refine ⟨_, rfl, ?_⟩; replace HO_8 := Aside0.mk (Kd.R_mono (ok' := fun k_ => some k_ ≠ (.slice Ao40 t708.length co40 : Value).ownBlock ∧ some k_ ≠ (.slice Ao41 t711.length co41 : Value).ownBlock ∧ some k_ ≠ (v715 : Value).ownBlock) (Kd.R_keptB ((Kd.R_apart' HO_8.out (Kd.R_typed HO_708001.out) (by decide))) hkp (fun k_ hk_ hs_ => (hk_.2) hs_)) (fun k_ hk_ => ⟨hk_.1.1.1, hk_.1.1.2.1, hk_.1.1.2.2⟩)); replace HO_11 := Aside0.mk (Kd.R_mono (ok' := fun k_ => some k_ ≠ (v700 : Value).ownBlock ∧ some k_ ≠ (.slice Ao41 t711.length co41 : Value).ownBlock ∧ some k_ ≠ (v715 : Value).ownBlock) (Kd.R_keptB ((Kd.R_apart' HO_11.out (Kd.R_typed HO_708001.out) (by decide))) hkp (fun k_ hk_ hs_ => (hk_.2) hs_)) (fun k_ hk_ => ⟨hk_.1.1.1, hk_.1.1.2.1, hk_.1.1.2.2⟩)); replace HO_12 := Aside0.mk (Kd.R_mono (ok' := fun k_ => some k_ ≠ (v700 : Value).ownBlock ∧ some k_ ≠ (.slice Ao40 t708.length co40 : Value).ownBlock ∧ some k_ ≠ (v715 : Value).ownBlock) (Kd.R_keptB ((Kd.R_apart' HO_12.out (Kd.R_typed HO_708001.out) (by decide))) hkp (fun k_ hk_ hs_ => (hk_.2) hs_)) (fun k_ hk_ => ⟨hk_.1.1.1, hk_.1.1.2.1, hk_.1.1.2.2⟩)); replace HO_13 := Aside0.mk (Kd.R_mono (ok' := fun k_ => some k_ ≠ (v700 : Value).ownBlock ∧ some k_ ≠ (.slice Ao40 t708.length co40 : Value).ownBlock ∧ some k_ ≠ (.slice Ao41 t711.length co41 : Value).ownBlock) (Kd.R_keptB ((Kd.R_apart' HO_13.out (Kd.R_typed HO_708001.out) (by decide))) hkp (fun k_ hk_ hs_ => (hk_.2) hs_)) (fun k_ hk_ => ⟨hk_.1.1.1, hk_.1.1.2.1, hk_.1.1.2.2⟩)); replace BK687 := Aside0.mk (blk_kept (Bz BK687) hkp (fun hs_ => (fun e_ => (Kd.R_ne HO_708001.out BK687.out (by decide)) e_) hs_)); replace BK707 := Aside0.mk (blk_kept (Bz BK707) hkp (fun hs_ => (fun e_ => (Kd.R_ne HO_708001.out BK707.out (by decide)) e_) hs_)); replace HO_708001 := Aside0.mk (Kd.R_reok rfl hy0 (fun k_ e_ => HO_708001.out.1 k_ e_)); replace HB := Aside0.mk (hb); (try clear hb); (try clear hkp); (try clear hy0)) | ((with_reducible refine gate_callee (f := 22) rfl ?_); refine goesM_ (some 83) rfl rfl Try.func22 (by kernel_rfl) rfl #[.slice Ao40 t708.length co40, .int .i64 t732] rfl ?_; (with_reducible refine (laws_markIntS.calls kj66 (fun k_ => some k_ = (.slice Ao40 t708.length co40 : Value).ownBlock) (.slice Ao40 t708.length co40) t708 t732 t734 t735 w _ ?side1 ?side2 A72.out).mono ?_); (case side1 => exact Lz2 HB GE687 GE707); (case side2 => exact Kd.R_tight rfl HO_11.out); rintro e w78 ⟨rfl, hy0, hb, hkp⟩; refine ⟨_, rfl, ?_⟩; replace HO_8 := Aside0.mk (Kd.R_mono (ok' := fun k_ => some k_ ≠ (.slice Ao40 t708.length co40 : Value).ownBlock ∧ some k_ ≠ (.slice Ao41 t711.length co41 : Value).ownBlock ∧ some k_ ≠ (v715 : Value).ownBlock) (Kd.R_keptB (HO_8.out) hkp (fun k_ hk_ hs_ => (hk_.1) hs_)) (fun k_ hk_ => ⟨hk_.1.1, hk_.1.2.1, hk_.1.2.2⟩)); replace HO_12 := Aside0.mk (Kd.R_mono (ok' := fun k_ => some k_ ≠ (v700 : Value).ownBlock ∧ some k_ ≠ (.slice Ao40 t708.length co40 : Value).ownBlock ∧ some k_ ≠ (v715 : Value).ownBlock) (Kd.R_keptB (HO_12.out) hkp (fun k_ hk_ hs_ => (hk_.2.1) hs_)) (fun k_ hk_ => ⟨hk_.1.1, hk_.1.2.1, hk_.1.2.2⟩)); replace HO_13 := Aside0.mk (Kd.R_mono (ok' := fun k_ => some k_ ≠ (v700 : Value).ownBlock ∧ some k_ ≠ (.slice Ao40 t708.length co40 : Value).ownBlock ∧ some k_ ≠ (.slice Ao41 t711.length co41 : Value).ownBlock) (Kd.R_keptB (HO_13.out) hkp (fun k_ hk_ hs_ => (hk_.2.1) hs_)) (fun k_ hk_ => ⟨hk_.1.1, hk_.1.2.1, hk_.1.2.2⟩)); replace HO_708001 := Aside0.mk (Kd.R_mono (ok' := fun k_ => True) (Kd.R_keptB ((Kd.R_apart' HO_708001.out (Kd.R_typed HO_11.out) (by decide))) hkp (fun k_ hk_ hs_ => (hk_.2) hs_)) (fun k_ hk_ => trivial)); replace BK687 := Aside0.mk (blk_kept (Bz BK687) hkp (fun hs_ => (fun e_ => (Kd.R_ne HO_11.out BK687.out (by decide)) e_) hs_)); replace BK707 := Aside0.mk (blk_kept (Bz BK707) hkp (fun hs_ => (fun e_ => (Kd.R_ne HO_11.out BK707.out (by decide)) e_) hs_)); replace HO_11 := Aside0.mk (Kd.R_reok rfl hy0 (fun k_ e_ => HO_11.out.1 k_ e_)); replace HB := Aside0.mk (hb); (try clear hb); (try clear hkp); (try clear hy0)) | ((with_reducible refine gate_callee (f := 22) rfl ?_); refine goesM_ (some 86) rfl rfl Try.func22 (by kernel_rfl) rfl #[.slice Ao41 t711.length co41, .int .i64 t734] rfl ?_; (with_reducible refine (laws_markIntS.calls kj66 (fun k_ => some k_ = (.slice Ao41 t711.length co41 : Value).ownBlock) (.slice Ao41 t711.length co41) t711 t734 t736 t737 w _ ?side1 ?side2 A73.out).mono ?_); (case side1 => exact Lz2 HB GE687 GE707); (case side2 => exact Kd.R_tight rfl HO_12.out); rintro e w79 ⟨rfl, hy0, hb, hkp⟩; refine ⟨_, rfl, ?_⟩; replace HO_8 := Aside0.mk (Kd.R_mono (ok' := fun k_ => some k_ ≠ (.slice Ao40 t708.length co40 : Value).ownBlock ∧ some k_ ≠ (.slice Ao41 t711.length co41 : Value).ownBlock ∧ some k_ ≠ (v715 : Value).ownBlock) (Kd.R_keptB (HO_8.out) hkp (fun k_ hk_ hs_ => (hk_.2.1) hs_)) (fun k_ hk_ => ⟨hk_.1.1, hk_.1.2.1, hk_.1.2.2⟩)); replace HO_11 := Aside0.mk (Kd.R_mono (ok' := fun k_ => some k_ ≠ (v700 : Value).ownBlock ∧ some k_ ≠ (.slice Ao41 t711.length co41 : Value).ownBlock ∧ some k_ ≠ (v715 : Value).ownBlock) (Kd.R_keptB (HO_11.out) hkp (fun k_ hk_ hs_ => (hk_.2.1) hs_)) (fun k_ hk_ => ⟨hk_.1.1, hk_.1.2.1, hk_.1.2.2⟩)); replace HO_13 := Aside0.mk (Kd.R_mono (ok' := fun k_ => some k_ ≠ (v700 : Value).ownBlock ∧ some k_ ≠ (.slice Ao40 t708.length co40 : Value).ownBlock ∧ some k_ ≠ (.slice Ao41 t711.length co41 : Value).ownBlock) (Kd.R_keptB (HO_13.out) hkp (fun k_ hk_ hs_ => (hk_.2.2) hs_)) (fun k_ hk_ => ⟨hk_.1.1, hk_.1.2.1, hk_.1.2.2⟩)); replace HO_708001 := Aside0.mk (Kd.R_mono (ok' := fun k_ => True) (Kd.R_keptB ((Kd.R_apart' HO_708001.out (Kd.R_typed HO_12.out) (by decide))) hkp (fun k_ hk_ hs_ => (hk_.2) hs_)) (fun k_ hk_ => trivial)); replace BK687 := Aside0.mk (blk_kept (Bz BK687) hkp (fun hs_ => (fun e_ => (Kd.R_ne HO_12.out BK687.out (by decide)) e_) hs_)); replace BK707 := Aside0.mk (blk_kept (Bz BK707) hkp (fun hs_ => (fun e_ => (Kd.R_ne HO_12.out BK707.out (by decide)) e_) hs_)); replace HO_12 := Aside0.mk (Kd.R_reok rfl hy0 (fun k_ e_ => HO_12.out.1 k_ e_)); replace HB := Aside0.mk (hb); (try clear hb); (try clear hkp); (try clear hy0)))
                 (try simp only [Act.put, List.setIfInBounds_toArray, List.set_cons_zero, List.set_cons_succ])
                 go_cut [99] (fun v99 wc => ∃ (kq : Nat) (x99_73 : Bool), v99 = .bool x99_73 ∧ Aside0 (laws_FnExactFireSet.j8 kq l1 l2 t699 t702 t714 x99_73 a0_0 l0_1 = some r) ∧ Aside0 (kq ≤ kj66) ∧ Aside0 (Kd.R (Kd.int .i64) 3 wc w.heap.size (fun k_ => some k_ ≠ (v715 : Value).ownBlock) v700 t699) ∧ Aside0 (Kd.R (Kd.int .i64) 3 wc w.heap.size (fun k_ => some k_ ≠ (v700 : Value).ownBlock) v715 t714) ∧ Aside0 (Kd.R k68 68 wc w.heap.size (fun _ => True) (.slice Ao36 t704.length co36) t733) ∧ Aside0 (wc.heap[gb687]? = some (.cells #[.int .i64 a0_0, (.slice A0_1 l0_1.length c0_1)] 33 (0, 0))) ∧ Aside0 (wc.heap[gb707]? = some (.cells #[.int .i64 t703, (.slice Ao36 t704.length co36)] 37 (0, 0))) ∧ Aside0 (Below w.heap.size w wc))
                 case first =>
                  have H := HC74.out
                  clear HC74
                  by_cases c80 : t736 < 0
                  ·rw [if_pos c80] at H
                   have c80b0 : decide (t736 < 0) = true := decide_eq_true c80
                   clear c80
                   (first | rw [c80b0] | (simp only [i64_w, i32_w]; rw [c80b0]) | skip)
                   have H' := Aside0.mk H
                   clear H
                   go_wp2
                   go_meet
                   case rel => exact ⟨_, (true), (by first | rfl | (simp; done) | (simp [*]; done)), H', ⟨by have := HJ3.out; have := HJ6.out; have := HJ9.out; have := HJ21.out; have := HJ48.out; have := HJ52.out; have := HJ60.out; have := HJ66.out; first | omega | exact Nat.le_refl _⟩, ⟨by (with_reducible repeat (first | apply Kd.R_alloc | apply Kd.R_drewN | apply Kd.R_drew)); exact Kd.R_mono HO_8.out (fun _ hk => hk.2.2)⟩, ⟨by (with_reducible repeat (first | apply Kd.R_alloc | apply Kd.R_drewN | apply Kd.R_drew)); exact Kd.R_mono HO_13.out (fun _ hk => hk.1)⟩, ⟨by exact Rz HO_708001⟩, ⟨by exact Bz BK687⟩, ⟨by exact Bz BK707⟩, ⟨by exact Lz2 HB GE687 GE707⟩⟩
                  rw [if_neg c80] at H
                  have c80b0 : decide (t736 < 0) = false := decide_eq_false c80
                  clear c80
                  (first | rw [c80b0] | (simp only [i64_w, i32_w]; rw [c80b0]) | skip)
                  replace H := Option.bind_eq_some_iff.mp H
                  obtain ⟨t738, A810, H⟩ := H
                  replace H : (if t738 = true then (laws_FnExactFireSet.j8 kj66 l1 l2 t699 t702 t714 (t717 != t702) a0_0 l0_1) else (laws_FnExactFireSet.j8 kj66 l1 l2 t699 t702 t714 true a0_0 l0_1)) = some r := H
                  have A81 := Aside0.mk A810
                  clear A810
                  by_cases c82 : t738 = true
                  ·subst c82
                   have H1 : (laws_FnExactFireSet.j8 kj66 l1 l2 t699 t702 t714 (t717 != t702) a0_0 l0_1) = some r := by rw [if_pos rfl] at H; exact H
                   clear H
                   have H := H1
                   clear H1
                   have H' := Aside0.mk H
                   clear H
                   obtain ⟨Ao83, co83, eo83⟩ := Kd.R_slice HO_13.out
                   subst eo83
                   obtain ⟨Ao84, co84, eo84⟩ := Kd.R_slice HO_8.out
                   subst eo84
                   go_wp2_with (first | (go_at_call 19; (with_reducible refine (laws_eqIntS.calls kj66 _ _ t714 _ _ t699 true _ ?side1 ?side2 ?side3 ?side4 A81.out).mono ?_); (case side1 => exact Cz ((Kd.R_reads' HO_13.out).2.2)); (case side2 => exact (Kd.R_reads' HO_13.out).2.1); (case side3 => exact Cz ((Kd.R_reads' HO_8.out).2.2)); (case side4 => exact (Kd.R_reads' HO_8.out).2.1); rintro e w' ⟨rfl, ⟨nd, rfl⟩⟩))
                   go_meet
                   case rel => exact ⟨_, ((t717 != t702)), (by first | rfl | (simp; done) | (simp [*]; done)), H', ⟨by have := HJ3.out; have := HJ6.out; have := HJ9.out; have := HJ21.out; have := HJ48.out; have := HJ52.out; have := HJ60.out; have := HJ66.out; first | omega | exact Nat.le_refl _⟩, ⟨by (with_reducible repeat (first | apply Kd.R_alloc | apply Kd.R_drewN | apply Kd.R_drew)); exact Kd.R_mono HO_8.out (fun _ hk => hk.2.2)⟩, ⟨by (with_reducible repeat (first | apply Kd.R_alloc | apply Kd.R_drewN | apply Kd.R_drew)); exact Kd.R_mono HO_13.out (fun _ hk => hk.1)⟩, ⟨by exact Rz HO_708001⟩, ⟨by exact Bz BK687⟩, ⟨by exact Bz BK707⟩, ⟨by exact Lz2 HB GE687 GE707⟩⟩
                  replace c82 := Bool.eq_false_iff.mpr c82
                  subst c82
                  have H1 : (laws_FnExactFireSet.j8 kj66 l1 l2 t699 t702 t714 true a0_0 l0_1) = some r := by rw [if_neg (show ¬ (false = true) by decide)] at H; exact H
                  clear H
                  have H := H1
                  clear H1
                  have H' := Aside0.mk H
                  clear H
                  obtain ⟨Ao85, co85, eo85⟩ := Kd.R_slice HO_13.out
                  subst eo85
                  obtain ⟨Ao86, co86, eo86⟩ := Kd.R_slice HO_8.out
                  subst eo86
                  go_wp2_with (first | (go_at_call 19; (with_reducible refine (laws_eqIntS.calls kj66 _ _ t714 _ _ t699 false _ ?side1 ?side2 ?side3 ?side4 A81.out).mono ?_); (case side1 => exact Cz ((Kd.R_reads' HO_13.out).2.2)); (case side2 => exact (Kd.R_reads' HO_13.out).2.1); (case side3 => exact Cz ((Kd.R_reads' HO_8.out).2.2)); (case side4 => exact (Kd.R_reads' HO_8.out).2.1); rintro e w' ⟨rfl, ⟨nd, rfl⟩⟩))
                  go_meet
                  case rel => exact ⟨_, (true), (by first | rfl | (simp; done) | (simp [*]; done)), H', ⟨by have := HJ3.out; have := HJ6.out; have := HJ9.out; have := HJ21.out; have := HJ48.out; have := HJ52.out; have := HJ60.out; have := HJ66.out; first | omega | exact Nat.le_refl _⟩, ⟨by (with_reducible repeat (first | apply Kd.R_alloc | apply Kd.R_drewN | apply Kd.R_drew)); exact Kd.R_mono HO_8.out (fun _ hk => hk.2.2)⟩, ⟨by (with_reducible repeat (first | apply Kd.R_alloc | apply Kd.R_drewN | apply Kd.R_drew)); exact Kd.R_mono HO_13.out (fun _ hk => hk.1)⟩, ⟨by exact Rz HO_708001⟩, ⟨by exact Bz BK687⟩, ⟨by exact Bz BK707⟩, ⟨by exact Lz2 HB GE687 GE707⟩⟩
                 case rest =>
                  clear HC74
                  try clear c1
                  try clear c2
                  try clear c6
                  try clear c6b0
                  try clear c6b1
                  try clear c8
                  try clear c8b0
                  try clear c8b1
                  try clear c13
                  try clear c13b0
                  try clear c44
                  try clear c50
                  try clear c58
                  try clear c64
                  try clear c70
                  try clear c80
                  try clear c80b0
                  try clear c82
                  obtain ⟨kq, x99_73, rfl, HA, HJ73, HO_8, HO_13, HO_708001, BK687, BK707, HB⟩ := hcut
                  have hl708001_73 := (Kd.R_reads' HO_708001.out).1
                  rw [hl708001_73] at HO_708001
                  (try simp only [hl708001_73])
                  (try simp only [hl708001_73] at BK687)
                  (try simp only [hl708001_73] at BK707)
                  (try simp only [hl708001_73] at HO_8)
                  (try simp only [hl708001_73] at HO_13)
                  cases kq with
                  | zero => exact absurd HA.out (by simp [laws_FnExactFireSet.j8])
                  | succ kj73 =>
                   have H := HA.out
                   clear HA
                   simp only [laws_FnExactFireSet.j8] at H
                   have HC87 := Aside0.mk H
                   clear H
                   go_upto_if 99 with (fail)
                   go_cut [] (fun wc => ∃ (kq : Nat), Aside0 (laws_FnExactFireSet.j9 kq l1 l2 t699 t702 t714 a0_0 l0_1 = some r) ∧ Aside0 (kq ≤ kj73) ∧ Aside0 (Kd.R (Kd.int .i64) 3 wc w.heap.size (fun k_ => some k_ ≠ (v715 : Value).ownBlock) v700 t699) ∧ Aside0 (Kd.R (Kd.int .i64) 3 wc w.heap.size (fun k_ => some k_ ≠ (v700 : Value).ownBlock) v715 t714) ∧ Aside0 (Kd.R k68 68 wc w.heap.size (fun _ => True) (.slice Ao36 t733.length co36) t733) ∧ Aside0 (wc.heap[gb687]? = some (.cells #[.int .i64 a0_0, (.slice A0_1 l0_1.length c0_1)] 33 (0, 0))) ∧ Aside0 (wc.heap[gb707]? = some (.cells #[.int .i64 t703, (.slice Ao36 t733.length co36)] 37 (0, 0))) ∧ Aside0 (Below w.heap.size w wc))
                   case first =>
                    have H := HC87.out
                    clear HC87
                    by_cases c88 : x99_73 = true
                    ·subst c88
                     have H1 : (some false) = some r := by rw [if_pos rfl] at H; exact H
                     clear H
                     have H := H1
                     clear H1
                     obtain rfl := Option.some.inj H
                     go_wp2
                     go_ret
                     exact ⟨by first | rfl | (simp [errW_none, errW_some] <;> rfl) | (simp [*, errW_none, errW_some] <;> rfl), by exact Lz2 HB GE687 GE707⟩
                    replace c88 := Bool.eq_false_iff.mpr c88
                    subst c88
                    have H1 : (laws_FnExactFireSet.j9 kj73 l1 l2 t699 t702 t714 a0_0 l0_1) = some r := by rw [if_neg (show ¬ (false = true) by decide)] at H; exact H
                    clear H
                    have H := H1
                    clear H1
                    have H' := Aside0.mk H
                    clear H
                    go_wp2
                    go_meet
                    case rel => exact ⟨_, H', ⟨by have := HJ3.out; have := HJ6.out; have := HJ9.out; have := HJ21.out; have := HJ48.out; have := HJ52.out; have := HJ60.out; have := HJ66.out; have := HJ73.out; first | omega | exact Nat.le_refl _⟩, ⟨by (try simp only [hl708001_73]); exact Rz HO_8⟩, ⟨by (try simp only [hl708001_73]); exact Rz HO_13⟩, ⟨by (try simp only [hl708001_73]); exact Rz HO_708001⟩, ⟨by (try simp only [hl708001_73]); exact Bz BK687⟩, ⟨by (try simp only [hl708001_73]); exact Bz BK707⟩, ⟨by exact Lz2 HB GE687 GE707⟩⟩
                   case rest =>
                    clear HC87
                    try clear c1
                    try clear c2
                    try clear c6
                    try clear c6b0
                    try clear c6b1
                    try clear c8
                    try clear c8b0
                    try clear c8b1
                    try clear c13
                    try clear c13b0
                    try clear c44
                    try clear c50
                    try clear c58
                    try clear c64
                    try clear c70
                    try clear c80
                    try clear c80b0
                    try clear c82
                    try clear c88
                    obtain ⟨kq, HA, HJ86, HO_8, HO_13, HO_708001, BK687, BK707, HB⟩ := hcut
                    cases kq with
                    | zero => exact absurd HA.out (by simp [laws_FnExactFireSet.j9])
                    | succ kj86 =>
                     have H := HA.out
                     clear HA
                     simp only [laws_FnExactFireSet.j9] at H
                     replace H := Option.bind_eq_some_iff.mp H
                     obtain ⟨⟨t739, t740⟩, A890, H⟩ := H
                     replace H : ((laws_heldIntS.f kj86 t740 1).bind fun t741 => (if t741 < 0 then (some false) else (laws_FnExactFireSet.j10 kj86 l1 l2 t699 t702 t740 t739 t741 a0_0 l0_1))) = some r := H
                     have A89 := Aside0.mk A890
                     clear A890
                     replace H := Option.bind_eq_some_iff.mp H
                     obtain ⟨t741, A900, H⟩ := H
                     replace H : (if t741 < 0 then (some false) else (laws_FnExactFireSet.j10 kj86 l1 l2 t699 t702 t740 t739 t741 a0_0 l0_1)) = some r := H
                     have A90 := Aside0.mk A900
                     clear A900
                     have HC91 := Aside0.mk H
                     clear H
                     obtain ⟨Ao92, co92, eo92⟩ := Kd.R_slice HO_13.out
                     subst eo92
                     go_upto_if 107 with (first | ((with_reducible refine gate_callee (f := 22) rfl ?_); refine goesM_ (some 102) rfl rfl Try.func22 (by kernel_rfl) rfl #[.slice Ao92 t714.length co92, .int .i64 1] rfl ?_; (with_reducible refine (laws_markIntS.calls kj86 (fun k_ => some k_ = (.slice Ao92 t714.length co92 : Value).ownBlock) (.slice Ao92 t714.length co92) t714 1 t739 t740 w _ ?side1 ?side2 A89.out).mono ?_); (case side1 => exact Lz2 HB GE687 GE707); (case side2 => exact Kd.R_tight rfl HO_13.out); rintro e w93 ⟨rfl, hy0, hb, hkp⟩; refine ⟨_, rfl, ?_⟩; replace HO_8 := Aside0.mk (Kd.R_mono (ok' := fun k_ => some k_ ≠ (.slice Ao92 t714.length co92 : Value).ownBlock) (Kd.R_keptB (HO_8.out) hkp (fun k_ hk_ hs_ => (hk_) hs_)) (fun k_ hk_ => hk_.1)); replace HO_708001 := Aside0.mk (Kd.R_mono (ok' := fun k_ => True) (Kd.R_keptB ((Kd.R_apart' HO_708001.out (Kd.R_typed HO_13.out) (by decide))) hkp (fun k_ hk_ hs_ => (hk_.2) hs_)) (fun k_ hk_ => trivial)); replace BK687 := Aside0.mk (blk_kept (Bz BK687) hkp (fun hs_ => (fun e_ => (Kd.R_ne HO_13.out BK687.out (by decide)) e_) hs_)); replace BK707 := Aside0.mk (blk_kept (Bz BK707) hkp (fun hs_ => (fun e_ => (Kd.R_ne HO_13.out BK707.out (by decide)) e_) hs_)); replace HO_13 := Aside0.mk (Kd.R_reok rfl hy0 (fun k_ e_ => HO_13.out.1 k_ e_)); replace HB := Aside0.mk (hb); (try clear hb); (try clear hkp); (try clear hy0)) | ((with_reducible refine gate_callee (f := 23) rfl ?_); refine goesL_ (some 105) rfl rfl Try.func23 (by kernel_rfl) rfl #[.slice Ao92 t740.length co92, .int .i64 1] rfl (by (try simp only [List.map_toArray, List.map_cons, List.map_nil]); first | done | (rw [show t740.length = t714.length from (Kd.R_reads' HO_13.out).1.symm] <;> rfl) | rfl | (simp only [List.length_drop, List.length_take]; rfl)) ?_; (with_reducible refine (laws_heldIntS.calls kj86 _ _ t740 1 t741 _ ?side1 ?side2 A90.out).mono ?_); (case side1 => exact Cz ((Kd.R_reads' HO_13.out).2.2)); (case side2 => rw [show t740.length = t714.length from (Kd.R_reads' HO_13.out).1.symm]; exact (Kd.R_reads' HO_13.out).2.1); rintro e w' ⟨rfl, ⟨nd, rfl⟩⟩; refine ⟨_, rfl, ?_⟩))
                     (try simp only [Act.put, List.setIfInBounds_toArray, List.set_cons_zero, List.set_cons_succ])
                     go_cut [] (fun wc => ∃ (kq : Nat), Aside0 (laws_FnExactFireSet.j10 kq l1 l2 t699 t702 t740 t739 t741 a0_0 l0_1 = some r) ∧ Aside0 (kq ≤ kj86) ∧ Aside0 (Kd.R (Kd.int .i64) 3 wc w.heap.size (fun k_ => some k_ ≠ ((.slice Ao92 t714.length co92) : Value).ownBlock) v700 t699) ∧ Aside0 (Kd.R (Kd.int .i64) 3 wc w.heap.size (fun k_ => some k_ ≠ (v700 : Value).ownBlock) (.slice Ao92 t714.length co92) t740) ∧ Aside0 (Kd.R k68 68 wc w.heap.size (fun _ => True) (.slice Ao36 t733.length co36) t733) ∧ Aside0 (wc.heap[gb687]? = some (.cells #[.int .i64 a0_0, (.slice A0_1 l0_1.length c0_1)] 33 (0, 0))) ∧ Aside0 (wc.heap[gb707]? = some (.cells #[.int .i64 t703, (.slice Ao36 t733.length co36)] 37 (0, 0))) ∧ Aside0 (Below w.heap.size w wc))
                     case first =>
                      have H := HC91.out
                      clear HC91
                      by_cases c94 : t741 < 0
                      ·rw [if_pos c94] at H
                       have c94b0 : decide (t741 < 0) = true := decide_eq_true c94
                       clear c94
                       (first | rw [c94b0] | (simp only [i64_w, i32_w]; rw [c94b0]) | skip)
                       obtain rfl := Option.some.inj H
                       go_wp2
                       go_ret
                       exact ⟨by first | rfl | (simp [errW_none, errW_some] <;> rfl) | (simp [*, errW_none, errW_some] <;> rfl), by exact Lz2 HB GE687 GE707⟩
                      rw [if_neg c94] at H
                      have c94b0 : decide (t741 < 0) = false := decide_eq_false c94
                      clear c94
                      (first | rw [c94b0] | (simp only [i64_w, i32_w]; rw [c94b0]) | skip)
                      have H' := Aside0.mk H
                      clear H
                      go_wp2
                      go_meet
                      case rel => exact ⟨_, H', ⟨by have := HJ3.out; have := HJ6.out; have := HJ9.out; have := HJ21.out; have := HJ48.out; have := HJ52.out; have := HJ60.out; have := HJ66.out; have := HJ73.out; have := HJ86.out; first | omega | exact Nat.le_refl _⟩, ⟨by (try simp only [hl708001_73]); exact Rz HO_8⟩, ⟨by (try simp only [hl708001_73]); exact Rz HO_13⟩, ⟨by (try simp only [hl708001_73]); exact Rz HO_708001⟩, ⟨by (try simp only [hl708001_73]); exact Bz BK687⟩, ⟨by (try simp only [hl708001_73]); exact Bz BK707⟩, ⟨by exact Lz2 HB GE687 GE707⟩⟩
                     case rest =>
                      clear HC91
                      try clear c1
                      try clear c2
                      try clear c6
                      try clear c6b0
                      try clear c6b1
                      try clear c8
                      try clear c8b0
                      try clear c8b1
                      try clear c13
                      try clear c13b0
                      try clear c44
                      try clear c50
                      try clear c58
                      try clear c64
                      try clear c70
                      try clear c80
                      try clear c80b0
                      try clear c82
                      try clear c88
                      try clear c94
                      try clear c94b0
                      obtain ⟨kq, HA, HJ90, HO_8, HO_13, HO_708001, BK687, BK707, HB⟩ := hcut
                      have hl13_90 := (Kd.R_reads' HO_13.out).1
                      rw [hl13_90] at HO_13
                      (try simp only [hl13_90])
                      (try simp only [hl13_90] at BK687)
                      (try simp only [hl13_90] at BK707)
                      (try simp only [hl13_90] at HO_8)
                      (try simp only [hl13_90] at HO_708001)
                      cases kq with
                      | zero => exact absurd HA.out (by simp [laws_FnExactFireSet.j10])
                      | succ kj90 =>
                       have H := HA.out
                       clear HA
                       simp only [laws_FnExactFireSet.j10] at H
                       have HC95 := Aside0.mk H
                       clear H
                       go_upto_if 110 with (fail)
                       go_cut [] (fun wc => ∃ (kq : Nat), Aside0 (laws_FnExactFireSet.j11 kq l1 l2 t699 t702 t740 t739 a0_0 l0_1 = some r) ∧ Aside0 (kq ≤ kj90) ∧ Aside0 (Kd.R (Kd.int .i64) 3 wc w.heap.size (fun k_ => some k_ ≠ ((.slice Ao92 t740.length co92) : Value).ownBlock) v700 t699) ∧ Aside0 (Kd.R (Kd.int .i64) 3 wc w.heap.size (fun k_ => some k_ ≠ (v700 : Value).ownBlock) (.slice Ao92 t740.length co92) t740) ∧ Aside0 (Kd.R k68 68 wc w.heap.size (fun _ => True) (.slice Ao36 t733.length co36) t733) ∧ Aside0 (wc.heap[gb687]? = some (.cells #[.int .i64 a0_0, (.slice A0_1 l0_1.length c0_1)] 33 (0, 0))) ∧ Aside0 (wc.heap[gb707]? = some (.cells #[.int .i64 t703, (.slice Ao36 t733.length co36)] 37 (0, 0))) ∧ Aside0 (Below w.heap.size w wc))
                       case first =>
                        have H := HC95.out
                        clear HC95
                        by_cases c96 : t741 = t739
                        ·rw [if_pos c96] at H
                         have c96b0 : (t741 == t739) = true := beq_iff_eq.mpr c96
                         have c96b1 : (t741 != t739) = false := bne_eq_false_iff_eq.mpr c96
                         clear c96
                         (first | rw [c96b0] | (simp only [i64_w, i32_w]; rw [c96b0]) | skip)
                         have H' := Aside0.mk H
                         clear H
                         go_wp2
                         go_meet
                         case rel => exact ⟨_, H', ⟨by have := HJ3.out; have := HJ6.out; have := HJ9.out; have := HJ21.out; have := HJ48.out; have := HJ52.out; have := HJ60.out; have := HJ66.out; have := HJ73.out; have := HJ86.out; have := HJ90.out; first | omega | exact Nat.le_refl _⟩, ⟨by (try simp only [hl708001_73]); (try simp only [hl13_90]); exact Rz HO_8⟩, ⟨by (try simp only [hl708001_73]); (try simp only [hl13_90]); exact Rz HO_13⟩, ⟨by (try simp only [hl708001_73]); (try simp only [hl13_90]); exact Rz HO_708001⟩, ⟨by (try simp only [hl708001_73]); (try simp only [hl13_90]); exact Bz BK687⟩, ⟨by (try simp only [hl708001_73]); (try simp only [hl13_90]); exact Bz BK707⟩, ⟨by exact Lz2 HB GE687 GE707⟩⟩
                        rw [if_neg c96] at H
                        have c96b0 : (t741 == t739) = false := beq_eq_false_iff_ne.mpr c96
                        have c96b1 : (t741 != t739) = true := bne_iff_ne.mpr c96
                        (first | rw [c96b0] | (simp only [i64_w, i32_w]; rw [c96b0]) | skip)
                        obtain rfl := Option.some.inj H
                        go_wp2
                        go_ret
                        exact ⟨by first | rfl | (simp [errW_none, errW_some] <;> rfl) | (simp [*, errW_none, errW_some] <;> rfl), by exact Lz2 HB GE687 GE707⟩
                       case rest =>
                        clear HC95
                        try clear c1
                        try clear c2
                        try clear c6
                        try clear c6b0
                        try clear c6b1
                        try clear c8
                        try clear c8b0
                        try clear c8b1
                        try clear c13
                        try clear c13b0
                        try clear c44
                        try clear c50
                        try clear c58
                        try clear c64
                        try clear c70
                        try clear c80
                        try clear c80b0
                        try clear c82
                        try clear c88
                        try clear c94
                        try clear c94b0
                        try clear c96
                        try clear c96b0
                        try clear c96b1
                        obtain ⟨kq, HA, HJ94, HO_8, HO_13, HO_708001, BK687, BK707, HB⟩ := hcut
                        cases kq with
                        | zero => exact absurd HA.out (by simp [laws_FnExactFireSet.j11])
                        | succ kj94 =>
                         have H := HA.out
                         clear HA
                         simp only [laws_FnExactFireSet.j11] at H
                         replace H := Option.bind_eq_some_iff.mp H
                         obtain ⟨⟨t742, t743⟩, A970, H⟩ := H
                         replace H : ((laws_toIntS.f kj94 l1).bind fun t746 => ((laws_toIntS.f kj94 l2).bind fun t749 => ((impl_FireSet.f kj94 t742 t743 t746 t749).bind fun bt752 => ((laws_eqIntS.f kj94 bt752.1 t699).bind fun t756 => (if t756 = true then (laws_FnExactFireSet.j12 kj94 t740 t739 (bt752.2 != t702)) else (laws_FnExactFireSet.j12 kj94 t740 t739 true)))))) = some r := H
                         have A97 := Aside0.mk A970
                         clear A970
                         replace H := Option.bind_eq_some_iff.mp H
                         obtain ⟨t746, A980, H⟩ := H
                         replace H : ((laws_toIntS.f kj94 l2).bind fun t749 => ((impl_FireSet.f kj94 t742 t743 t746 t749).bind fun bt752 => ((laws_eqIntS.f kj94 bt752.1 t699).bind fun t756 => (if t756 = true then (laws_FnExactFireSet.j12 kj94 t740 t739 (bt752.2 != t702)) else (laws_FnExactFireSet.j12 kj94 t740 t739 true))))) = some r := H
                         have A98 := Aside0.mk A980
                         clear A980
                         replace H := Option.bind_eq_some_iff.mp H
                         obtain ⟨t749, A990, H⟩ := H
                         replace H : ((impl_FireSet.f kj94 t742 t743 t746 t749).bind fun bt752 => ((laws_eqIntS.f kj94 bt752.1 t699).bind fun t756 => (if t756 = true then (laws_FnExactFireSet.j12 kj94 t740 t739 (bt752.2 != t702)) else (laws_FnExactFireSet.j12 kj94 t740 t739 true)))) = some r := H
                         have A99 := Aside0.mk A990
                         clear A990
                         replace H := Option.bind_eq_some_iff.mp H
                         obtain ⟨⟨t752, t755⟩, A1000, H⟩ := H
                         replace H : ((laws_eqIntS.f kj94 t752 t699).bind fun t756 => (if t756 = true then (laws_FnExactFireSet.j12 kj94 t740 t739 (t755 != t702)) else (laws_FnExactFireSet.j12 kj94 t740 t739 true))) = some r := H
                         have A100 := Aside0.mk A1000
                         clear A1000
                         have HC101 := Aside0.mk H
                         clear H
                         have hnb102 := NB687_707.out
                         have hnc102 := NB707_687.out
                         have hcz103_0 : wc.cell? ⟨gb687, 0, none⟩ = some (.int .i64 a0_0) := (blk_cell BK687.out 0).trans rfl
                         have hcz103_1 : wc.cell? ⟨gb687, 1, none⟩ = some (.slice A0_1 l0_1.length c0_1) := (blk_cell BK687.out 1).trans rfl
                         have hfz103_0 := blk_frozen BK687.out 0
                         have hfz103_1 := blk_frozen BK687.out 1
                         go_upto_region 37 with (first | ((with_reducible refine gate_callee (f := 26) rfl ?_); refine goesM_ (some 113) rfl rfl Try.func26 (by kernel_rfl) rfl #[.agg #[.int .i64 a0_0, .slice A0_1 l0_1.length c0_1]] rfl ?_; (with_reducible refine (laws_toGraph.calls kj94 a0_0 _ _ l0_1 t742 t743 _ ?side1 ?side2 A97.out).mono ?_); (case side1 => exact Cz ((Kd.C_below HR0_1.out HB.out))); (case side2 => exact HC0_1.out); rintro e w104 ⟨v744, rfl, ho0, hb⟩; refine ⟨_, rfl, ?_⟩; replace HO_8 := Aside0.mk (Kd.R_below (Rz HO_8) hb); replace HO_13 := Aside0.mk (Kd.R_below (Rz HO_13) hb); have HO745 := Aside0.mk (Kd.R_lower (Kd.R_new' ho0 (Kd.R_lt (Rz HO_708001))) (below_size (by exact Lz2 HB GE687 GE707))); replace HO_708001 := Aside0.mk (Kd.R_elder' (Rz HO_708001) (Kd.R_base ho0) hb); replace BK687 := Aside0.mk (blk_below (g := gb687) (o := .cells #[.int .i64 a0_0, .slice A0_1 l0_1.length c0_1] 33 (0, 0)) (Bz BK687) hb); replace BK707 := Aside0.mk (blk_below (g := gb707) (o := .cells #[.int .i64 t703, .slice Ao36 t733.length co36] 37 (0, 0)) (Bz BK707) hb); replace HB := Aside0.mk (below_step (by exact Lz2 HB GE687 GE707) hb); (try clear hb); (try clear ho0)) | ((with_reducible refine gate_callee (f := 36) rfl ?_); refine goesM_ (some 115) rfl rfl Try.func36 (by kernel_rfl) rfl #[.slice A1 l1.length c1] rfl ?_; (with_reducible refine (laws_toIntS.calls kj94 _ _ l1 t746 _ ?side1 ?side2 A98.out).mono ?_); (case side1 => exact Cz ((Kd.C_below HR1.out HB.out))); (case side2 => exact HC1.out); rintro e w105 ⟨v747, rfl, ho0, hb⟩; refine ⟨_, rfl, ?_⟩; replace HO_708001 := Aside0.mk (Kd.R_below (Rz HO_708001) hb); replace HO745 := Aside0.mk (Kd.R_below (Rz HO745) hb); have HO748 := Aside0.mk (Kd.R_lower (Kd.R_new' (Kd.R_new' ho0 (Kd.R_lt (Rz HO_8))) (Kd.R_lt (Rz HO_13))) (below_size (by exact Lz2 HB GE687 GE707))); replace HO_8 := Aside0.mk (Kd.R_elder' (Rz HO_8) (Kd.R_base ho0) hb); replace HO_13 := Aside0.mk (Kd.R_elder' (Rz HO_13) (Kd.R_base ho0) hb); replace BK687 := Aside0.mk (blk_below (g := gb687) (o := .cells #[.int .i64 a0_0, .slice A0_1 l0_1.length c0_1] 33 (0, 0)) (Bz BK687) hb); replace BK707 := Aside0.mk (blk_below (g := gb707) (o := .cells #[.int .i64 t703, .slice Ao36 t733.length co36] 37 (0, 0)) (Bz BK707) hb); replace HB := Aside0.mk (below_step (by exact Lz2 HB GE687 GE707) hb); (try clear hb); (try clear ho0)) | ((with_reducible refine gate_callee (f := 36) rfl ?_); refine goesM_ (some 117) rfl rfl Try.func36 (by kernel_rfl) rfl #[.slice A2 l2.length c2] rfl ?_; (with_reducible refine (laws_toIntS.calls kj94 _ _ l2 t749 _ ?side1 ?side2 A99.out).mono ?_); (case side1 => exact Cz ((Kd.C_below HR2.out HB.out))); (case side2 => exact HC2.out); rintro e w106 ⟨v750, rfl, ho0, hb⟩; refine ⟨_, rfl, ?_⟩; replace HO_708001 := Aside0.mk (Kd.R_below (Rz HO_708001) hb); replace HO745 := Aside0.mk (Kd.R_below (Rz HO745) hb); have HO751 := Aside0.mk (Kd.R_lower (Kd.R_new' (Kd.R_new' (Kd.R_new' ho0 (Kd.R_lt (Rz HO_8))) (Kd.R_lt (Rz HO_13))) (Kd.R_lt (Rz HO748))) (below_size (by exact Lz2 HB GE687 GE707))); replace HO_8 := Aside0.mk (Kd.R_elder' (Rz HO_8) (Kd.R_base ho0) hb); replace HO_13 := Aside0.mk (Kd.R_elder' (Rz HO_13) (Kd.R_base ho0) hb); replace HO748 := Aside0.mk (Kd.R_elder' (Rz HO748) (Kd.R_base ho0) hb); replace BK687 := Aside0.mk (blk_below (g := gb687) (o := .cells #[.int .i64 a0_0, .slice A0_1 l0_1.length c0_1] 33 (0, 0)) (Bz BK687) hb); replace BK707 := Aside0.mk (blk_below (g := gb707) (o := .cells #[.int .i64 t703, .slice Ao36 t733.length co36] 37 (0, 0)) (Bz BK707) hb); replace HB := Aside0.mk (below_step (by exact Lz2 HB GE687 GE707) hb); (try clear hb); (try clear ho0); obtain ⟨Ao107, co107, eo107⟩ := Kd.R_slice HO745.out; subst eo107; obtain ⟨Ao108, co108, eo108⟩ := Kd.R_slice HO748.out; subst eo108; obtain ⟨Ao109, co109, eo109⟩ := Kd.R_slice HO751.out; subst eo109) | ((with_reducible refine gate_callee (f := 41) rfl ?_); refine goesM_ (some 118) rfl rfl Try.func41 (by kernel_rfl) rfl #[.agg #[.int .i64 t742, .slice Ao107 t743.length co107], .slice Ao108 t746.length co108, .slice Ao109 t749.length co109] rfl ?_; (with_reducible refine (impl_FireSet.calls kj94 t742 _ _ t743 _ _ t746 _ _ t749 t752 t755 _ ?side1 ?side2 ?side3 ?side4 ?side5 ?side6 A100.out).mono ?_); (case side1 => exact Cz ((Kd.R_reads' HO745.out).2.2)); (case side2 => exact (Kd.R_reads' HO745.out).2.1); (case side3 => exact Cz ((Kd.R_reads' HO748.out).2.2)); (case side4 => exact (Kd.R_reads' HO748.out).2.1); (case side5 => exact Cz ((Kd.R_reads' HO751.out).2.2)); (case side6 => exact (Kd.R_reads' HO751.out).2.1); rintro e w110 ⟨v753, rfl, ho0, hb⟩; refine ⟨_, rfl, ?_⟩; replace HO_708001 := Aside0.mk (Kd.R_below (Rz HO_708001) hb); replace HO745 := Aside0.mk (Kd.R_below (Rz HO745) hb); have HO754 := Aside0.mk (Kd.R_lower (Kd.R_new' (Kd.R_new' (Kd.R_new' (Kd.R_new' ho0 (Kd.R_lt (Rz HO_8))) (Kd.R_lt (Rz HO_13))) (Kd.R_lt (Rz HO748))) (Kd.R_lt (Rz HO751))) (below_size (by exact Lz2 HB GE687 GE707))); replace HO_8 := Aside0.mk (Kd.R_elder' (Rz HO_8) (Kd.R_base ho0) hb); replace HO_13 := Aside0.mk (Kd.R_elder' (Rz HO_13) (Kd.R_base ho0) hb); replace HO748 := Aside0.mk (Kd.R_elder' (Rz HO748) (Kd.R_base ho0) hb); replace HO751 := Aside0.mk (Kd.R_elder' (Rz HO751) (Kd.R_base ho0) hb); replace BK687 := Aside0.mk (blk_below (g := gb687) (o := .cells #[.int .i64 a0_0, .slice A0_1 l0_1.length c0_1] 33 (0, 0)) (Bz BK687) hb); replace BK707 := Aside0.mk (blk_below (g := gb707) (o := .cells #[.int .i64 t703, .slice Ao36 t733.length co36] 37 (0, 0)) (Bz BK707) hb); replace HB := Aside0.mk (below_step (by exact Lz2 HB GE687 GE707) hb); (try clear hb); (try clear ho0)))
                         (try simp only [Act.put, List.setIfInBounds_toArray, List.set_cons_zero, List.set_cons_succ])
                         go_cut [129] (fun v129 wc => ∃ (kq : Nat) (x129_100 : Bool), v129 = .bool x129_100 ∧ Aside0 (laws_FnExactFireSet.j12 kq t740 t739 x129_100 = some r) ∧ Aside0 (kq ≤ kj94) ∧ Aside0 (Kd.R (Kd.int .i64) 3 wc w.heap.size (fun _ => True) (.slice Ao92 t740.length co92) t740) ∧ Aside0 (Kd.R k68 68 wc w.heap.size (fun _ => True) (.slice Ao36 t733.length co36) t733) ∧ Aside0 (wc.heap[gb687]? = some (.cells #[.int .i64 a0_0, (.slice A0_1 l0_1.length c0_1)] 33 (0, 0))) ∧ Aside0 (wc.heap[gb707]? = some (.cells #[.int .i64 t703, (.slice Ao36 t733.length co36)] 37 (0, 0))) ∧ Aside0 (Below w.heap.size w wc))
                         case first =>
                          have H := HC101.out
                          clear HC101
                          replace H := Option.bind_eq_some_iff.mp H
                          obtain ⟨t756, A1110, H⟩ := H
                          replace H : (if t756 = true then (laws_FnExactFireSet.j12 kj94 t740 t739 (t755 != t702)) else (laws_FnExactFireSet.j12 kj94 t740 t739 true)) = some r := H
                          have A111 := Aside0.mk A1110
                          clear A1110
                          by_cases c112 : t756 = true
                          ·subst c112
                           have H1 : (laws_FnExactFireSet.j12 kj94 t740 t739 (t755 != t702)) = some r := by rw [if_pos rfl] at H; exact H
                           clear H
                           have H := H1
                           clear H1
                           have H' := Aside0.mk H
                           clear H
                           obtain ⟨Ao113, co113, eo113⟩ := Kd.R_slice HO754.out
                           subst eo113
                           obtain ⟨Ao114, co114, eo114⟩ := Kd.R_slice HO_8.out
                           subst eo114
                           go_wp2_with (first | ((with_reducible refine gate_callee (f := 19) rfl ?_); refine goesM_ (some 123) rfl rfl Try.func19 (by kernel_rfl) rfl #[.slice Ao113 t752.length co113, .slice Ao114 t699.length co114] rfl ?_; (with_reducible refine (laws_eqIntS.calls kj94 _ _ t752 _ _ t699 true _ ?side1 ?side2 ?side3 ?side4 A111.out).mono ?_); (case side1 => exact Cz ((Kd.R_reads' HO754.out).2.2)); (case side2 => exact (Kd.R_reads' HO754.out).2.1); (case side3 => exact Cz ((Kd.R_reads' HO_8.out).2.2)); (case side4 => exact (Kd.R_reads' HO_8.out).2.1); rintro e w' ⟨rfl, ⟨nd, rfl⟩⟩; refine ⟨_, rfl, ?_⟩))
                           go_meet
                           case rel => exact ⟨_, ((t755 != t702)), (by first | rfl | (simp; done) | (simp [*]; done)), H', ⟨by have := HJ3.out; have := HJ6.out; have := HJ9.out; have := HJ21.out; have := HJ48.out; have := HJ52.out; have := HJ60.out; have := HJ66.out; have := HJ73.out; have := HJ86.out; have := HJ90.out; have := HJ94.out; first | omega | exact Nat.le_refl _⟩, ⟨by (try simp only [hl708001_73]); (try simp only [hl13_90]); (with_reducible repeat (first | apply Kd.R_alloc | apply Kd.R_drewN | apply Kd.R_drew)); exact Kd.R_mono HO_13.out (fun _ hk => trivial)⟩, ⟨by (try simp only [hl708001_73]); (try simp only [hl13_90]); (with_reducible repeat (first | apply Kd.R_alloc | apply Kd.R_drewN | apply Kd.R_drew)); exact Kd.R_mono HO_708001.out (fun _ hk => trivial)⟩, ⟨by (try simp only [hl708001_73]); (try simp only [hl13_90]); exact Bz BK687⟩, ⟨by (try simp only [hl708001_73]); (try simp only [hl13_90]); exact Bz BK707⟩, ⟨by exact Lz2 HB GE687 GE707⟩⟩
                          replace c112 := Bool.eq_false_iff.mpr c112
                          subst c112
                          have H1 : (laws_FnExactFireSet.j12 kj94 t740 t739 true) = some r := by rw [if_neg (show ¬ (false = true) by decide)] at H; exact H
                          clear H
                          have H := H1
                          clear H1
                          have H' := Aside0.mk H
                          clear H
                          obtain ⟨Ao115, co115, eo115⟩ := Kd.R_slice HO754.out
                          subst eo115
                          obtain ⟨Ao116, co116, eo116⟩ := Kd.R_slice HO_8.out
                          subst eo116
                          go_wp2_with (first | ((with_reducible refine gate_callee (f := 19) rfl ?_); refine goesM_ (some 123) rfl rfl Try.func19 (by kernel_rfl) rfl #[.slice Ao115 t752.length co115, .slice Ao116 t699.length co116] rfl ?_; (with_reducible refine (laws_eqIntS.calls kj94 _ _ t752 _ _ t699 false _ ?side1 ?side2 ?side3 ?side4 A111.out).mono ?_); (case side1 => exact Cz ((Kd.R_reads' HO754.out).2.2)); (case side2 => exact (Kd.R_reads' HO754.out).2.1); (case side3 => exact Cz ((Kd.R_reads' HO_8.out).2.2)); (case side4 => exact (Kd.R_reads' HO_8.out).2.1); rintro e w' ⟨rfl, ⟨nd, rfl⟩⟩; refine ⟨_, rfl, ?_⟩))
                          go_meet
                          case rel => exact ⟨_, (true), (by first | rfl | (simp; done) | (simp [*]; done)), H', ⟨by have := HJ3.out; have := HJ6.out; have := HJ9.out; have := HJ21.out; have := HJ48.out; have := HJ52.out; have := HJ60.out; have := HJ66.out; have := HJ73.out; have := HJ86.out; have := HJ90.out; have := HJ94.out; first | omega | exact Nat.le_refl _⟩, ⟨by (try simp only [hl708001_73]); (try simp only [hl13_90]); (with_reducible repeat (first | apply Kd.R_alloc | apply Kd.R_drewN | apply Kd.R_drew)); exact Kd.R_mono HO_13.out (fun _ hk => trivial)⟩, ⟨by (try simp only [hl708001_73]); (try simp only [hl13_90]); (with_reducible repeat (first | apply Kd.R_alloc | apply Kd.R_drewN | apply Kd.R_drew)); exact Kd.R_mono HO_708001.out (fun _ hk => trivial)⟩, ⟨by (try simp only [hl708001_73]); (try simp only [hl13_90]); exact Bz BK687⟩, ⟨by (try simp only [hl708001_73]); (try simp only [hl13_90]); exact Bz BK707⟩, ⟨by exact Lz2 HB GE687 GE707⟩⟩
                         case rest =>
                          clear HC101
                          try clear c1
                          try clear c2
                          try clear c6
                          try clear c6b0
                          try clear c6b1
                          try clear c8
                          try clear c8b0
                          try clear c8b1
                          try clear c13
                          try clear c13b0
                          try clear c44
                          try clear c50
                          try clear c58
                          try clear c64
                          try clear c70
                          try clear c80
                          try clear c80b0
                          try clear c82
                          try clear c88
                          try clear c94
                          try clear c94b0
                          try clear c96
                          try clear c96b0
                          try clear c96b1
                          try clear c112
                          obtain ⟨kq, x129_100, rfl, HA, HJ100, HO_13, HO_708001, BK687, BK707, HB⟩ := hcut
                          cases kq with
                          | zero => exact absurd HA.out (by simp [laws_FnExactFireSet.j12])
                          | succ kj100 =>
                           have H := HA.out
                           clear HA
                           simp only [laws_FnExactFireSet.j12] at H
                           have HC117 := Aside0.mk H
                           clear H
                           go_upto_if 129 with (fail)
                           go_cut [] (fun wc => ∃ (kq : Nat), Aside0 (laws_FnExactFireSet.j13 kq t740 t739 = some r) ∧ Aside0 (kq ≤ kj100) ∧ Aside0 (Kd.R (Kd.int .i64) 3 wc w.heap.size (fun _ => True) (.slice Ao92 t740.length co92) t740) ∧ Aside0 (Kd.R k68 68 wc w.heap.size (fun _ => True) (.slice Ao36 t733.length co36) t733) ∧ Aside0 (wc.heap[gb687]? = some (.cells #[.int .i64 a0_0, (.slice A0_1 l0_1.length c0_1)] 33 (0, 0))) ∧ Aside0 (wc.heap[gb707]? = some (.cells #[.int .i64 t703, (.slice Ao36 t733.length co36)] 37 (0, 0))) ∧ Aside0 (Below w.heap.size w wc))
                           case first =>
                            have H := HC117.out
                            clear HC117
                            by_cases c118 : x129_100 = true
                            ·subst c118
                             have H1 : (some false) = some r := by rw [if_pos rfl] at H; exact H
                             clear H
                             have H := H1
                             clear H1
                             obtain rfl := Option.some.inj H
                             go_wp2
                             go_ret
                             exact ⟨by first | rfl | (simp [errW_none, errW_some] <;> rfl) | (simp [*, errW_none, errW_some] <;> rfl), by exact Lz2 HB GE687 GE707⟩
                            replace c118 := Bool.eq_false_iff.mpr c118
                            subst c118
                            have H1 : (laws_FnExactFireSet.j13 kj100 t740 t739) = some r := by rw [if_neg (show ¬ (false = true) by decide)] at H; exact H
                            clear H
                            have H := H1
                            clear H1
                            have H' := Aside0.mk H
                            clear H
                            go_wp2
                            go_meet
                            case rel => exact ⟨_, H', ⟨by have := HJ3.out; have := HJ6.out; have := HJ9.out; have := HJ21.out; have := HJ48.out; have := HJ52.out; have := HJ60.out; have := HJ66.out; have := HJ73.out; have := HJ86.out; have := HJ90.out; have := HJ94.out; have := HJ100.out; first | omega | exact Nat.le_refl _⟩, ⟨by (try simp only [hl708001_73]); (try simp only [hl13_90]); exact Rz HO_13⟩, ⟨by (try simp only [hl708001_73]); (try simp only [hl13_90]); exact Rz HO_708001⟩, ⟨by (try simp only [hl708001_73]); (try simp only [hl13_90]); exact Bz BK687⟩, ⟨by (try simp only [hl708001_73]); (try simp only [hl13_90]); exact Bz BK707⟩, ⟨by exact Lz2 HB GE687 GE707⟩⟩
                           case rest =>
                            clear HC117
                            try clear c1
                            try clear c2
                            try clear c6
                            try clear c6b0
                            try clear c6b1
                            try clear c8
                            try clear c8b0
                            try clear c8b1
                            try clear c13
                            try clear c13b0
                            try clear c44
                            try clear c50
                            try clear c58
                            try clear c64
                            try clear c70
                            try clear c80
                            try clear c80b0
                            try clear c82
                            try clear c88
                            try clear c94
                            try clear c94b0
                            try clear c96
                            try clear c96b0
                            try clear c96b1
                            try clear c112
                            try clear c118
                            obtain ⟨kq, HA, HJ116, HO_13, HO_708001, BK687, BK707, HB⟩ := hcut
                            cases kq with
                            | zero => exact absurd HA.out (by simp [laws_FnExactFireSet.j13])
                            | succ kj116 =>
                             have H := HA.out
                             clear HA
                             simp only [laws_FnExactFireSet.j13] at H
                             replace H := Option.bind_eq_some_iff.mp H
                             obtain ⟨t757, A1190, H⟩ := H
                             replace H : (if t757 < 0 then (some false) else (laws_FnExactFireSet.j14 kj116 t739 t757)) = some r := H
                             have A119 := Aside0.mk A1190
                             clear A1190
                             have HC120 := Aside0.mk H
                             clear H
                             go_upto_if 134 with (first | ((with_reducible refine gate_callee (f := 23) rfl ?_); refine goesM_ (some 132) rfl rfl Try.func23 (by kernel_rfl) rfl #[.slice Ao92 t740.length co92, .int .i64 1] rfl ?_; (with_reducible refine (laws_heldIntS.calls kj116 _ _ t740 1 t757 _ ?side1 ?side2 A119.out).mono ?_); (case side1 => exact Cz ((Kd.R_reads' HO_13.out).2.2)); (case side2 => exact (Kd.R_reads' HO_13.out).2.1); rintro e w' ⟨rfl, ⟨nd, rfl⟩⟩; refine ⟨_, rfl, ?_⟩))
                             (try simp only [Act.put, List.setIfInBounds_toArray, List.set_cons_zero, List.set_cons_succ])
                             go_cut [] (fun wc => ∃ (kq : Nat), Aside0 (laws_FnExactFireSet.j14 kq t739 t757 = some r) ∧ Aside0 (kq ≤ kj116) ∧ Aside0 (Kd.R k68 68 wc w.heap.size (fun _ => True) (.slice Ao36 t733.length co36) t733) ∧ Aside0 (wc.heap[gb687]? = some (.cells #[.int .i64 a0_0, (.slice A0_1 l0_1.length c0_1)] 33 (0, 0))) ∧ Aside0 (wc.heap[gb707]? = some (.cells #[.int .i64 t703, (.slice Ao36 t733.length co36)] 37 (0, 0))) ∧ Aside0 (Below w.heap.size w wc))
                             case first =>
                              have H := HC120.out
                              clear HC120
                              by_cases c121 : t757 < 0
                              ·rw [if_pos c121] at H
                               have c121b0 : decide (t757 < 0) = true := decide_eq_true c121
                               clear c121
                               (first | rw [c121b0] | (simp only [i64_w, i32_w]; rw [c121b0]) | skip)
                               obtain rfl := Option.some.inj H
                               go_wp2
                               go_ret
                               exact ⟨by first | rfl | (simp [errW_none, errW_some] <;> rfl) | (simp [*, errW_none, errW_some] <;> rfl), by exact Lz2 HB GE687 GE707⟩
                              rw [if_neg c121] at H
                              have c121b0 : decide (t757 < 0) = false := decide_eq_false c121
                              clear c121
                              (first | rw [c121b0] | (simp only [i64_w, i32_w]; rw [c121b0]) | skip)
                              have H' := Aside0.mk H
                              clear H
                              go_wp2
                              go_meet
                              case rel => exact ⟨_, H', ⟨by have := HJ3.out; have := HJ6.out; have := HJ9.out; have := HJ21.out; have := HJ48.out; have := HJ52.out; have := HJ60.out; have := HJ66.out; have := HJ73.out; have := HJ86.out; have := HJ90.out; have := HJ94.out; have := HJ100.out; have := HJ116.out; first | omega | exact Nat.le_refl _⟩, ⟨by (try simp only [hl708001_73]); (try simp only [hl13_90]); exact Rz HO_708001⟩, ⟨by (try simp only [hl708001_73]); (try simp only [hl13_90]); exact Bz BK687⟩, ⟨by (try simp only [hl708001_73]); (try simp only [hl13_90]); exact Bz BK707⟩, ⟨by exact Lz2 HB GE687 GE707⟩⟩
                             case rest =>
                              clear HC120
                              try clear c1
                              try clear c2
                              try clear c6
                              try clear c6b0
                              try clear c6b1
                              try clear c8
                              try clear c8b0
                              try clear c8b1
                              try clear c13
                              try clear c13b0
                              try clear c44
                              try clear c50
                              try clear c58
                              try clear c64
                              try clear c70
                              try clear c80
                              try clear c80b0
                              try clear c82
                              try clear c88
                              try clear c94
                              try clear c94b0
                              try clear c96
                              try clear c96b0
                              try clear c96b1
                              try clear c112
                              try clear c118
                              try clear c121
                              try clear c121b0
                              obtain ⟨kq, HA, HJ119, HO_708001, BK687, BK707, HB⟩ := hcut
                              cases kq with
                              | zero => exact absurd HA.out (by simp [laws_FnExactFireSet.j14])
                              | succ kj119 =>
                               have H := HA.out
                               clear HA
                               simp only [laws_FnExactFireSet.j14] at H
                               by_cases c122 : t757 = t739
                               ·rw [if_pos c122] at H
                                have c122b0 : (t757 == t739) = true := beq_iff_eq.mpr c122
                                have c122b1 : (t757 != t739) = false := bne_eq_false_iff_eq.mpr c122
                                clear c122
                                obtain rfl := Option.some.inj H
                                go_wp2
                                go_ret
                                exact ⟨by first | rfl | (simp [errW_none, errW_some] <;> rfl) | (simp [*, errW_none, errW_some] <;> rfl), by exact Lz2 HB GE687 GE707⟩
                               rw [if_neg c122] at H
                               have c122b0 : (t757 == t739) = false := beq_eq_false_iff_ne.mpr c122
                               have c122b1 : (t757 != t739) = true := bne_iff_ne.mpr c122
                               obtain rfl := Option.some.inj H
                               go_wp2
                               go_ret
                               exact ⟨by first | rfl | (simp [errW_none, errW_some] <;> rfl) | (simp [*, errW_none, errW_some] <;> rfl), by exact Lz2 HB GE687 GE707⟩

end Go.Proofs.Ytfpcgccnhpfcnaa.P
