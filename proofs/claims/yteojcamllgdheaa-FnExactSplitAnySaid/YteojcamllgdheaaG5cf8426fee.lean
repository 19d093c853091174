/- Functions of the program as plain Lean functions and that the machine's calls answer as they do, the words of the print that these use, lemmas and plain proofs of laws. Put together by a program of this work that leaves out what nothing uses; Lean checks it. -/
import Derived.Test.YteojcamllgdheaaGe602c294c9
import Derived.Test.YteojcamllgdheaaG2bfacb37b5
section
namespace Go.Proofs.Yteojcamllgdheaa.P
open Go.RowKit Go.Proofs.YteojcamllgdheaaW.PrintWords Go.Proofs.YteojcamllgdheaaW.PrintLast Go.Proofs.YteojcamllgdheaaW.PrintMore
attribute [local go_sem] max2_int min2_int max_two min_two max_three min_three max_four min_four
set_option linter.unusedVariables false
set_option linter.unusedSimpArgs false
mutual
def laws_FnExactSplitAny.j0 : Nat → ByteArray → ByteArray → Option (Bool)
 | 0, _, _ => none
 | k + 1, x0, x1 => if (x1.size : Int) > 1048576 then (some true) else (laws_FnExactSplitAny.j1 k x0 x1)
def laws_FnExactSplitAny.j1 : Nat → ByteArray → ByteArray → Option (Bool)
 | 0, _, _ => none
 | k + 1, x0, x1 => (spec_SplitAny.f k x0 x1).bind fun t126 => ((impl_SplitAny.f k x0 x1).bind fun t129 => ((laws_eqStringS.f k t129 t126).bind fun t132 => (if t132 = true then (laws_FnExactSplitAny.j2 k x0 x1 t126 t129) else (some false))))
def laws_FnExactSplitAny.j2 : Nat → ByteArray → ByteArray → List ByteArray → List ByteArray → Option (Bool)
 | 0, _, _, _, _ => none
 | k + 1, x0, x1, x5, x6 => (laws_markStringS.f k x6 1).bind fun bt133 => ((laws_heldStringS.f k bt133.2 1).bind fun t135 => (if t135 < 0 then (some false) else (laws_FnExactSplitAny.j3 k x0 x1 x5 bt133.2 bt133.1 t135)))
def laws_FnExactSplitAny.j3 : Nat → ByteArray → ByteArray → List ByteArray → List ByteArray → Int → Int → Option (Bool)
 | 0, _, _, _, _, _, _ => none
 | k + 1, x0, x1, x5, x6, x7, x8 => if x8 = x7 then (laws_FnExactSplitAny.j4 k x0 x1 x5 x6 x7) else (some false)
def laws_FnExactSplitAny.j4 : Nat → ByteArray → ByteArray → List ByteArray → List ByteArray → Int → Option (Bool)
 | 0, _, _, _, _, _ => none
 | k + 1, x0, x1, x5, x6, x7 => (impl_SplitAny.f k x0 x1).bind fun t136 => ((laws_eqStringS.f k t136 x5).bind fun t139 => (if t139 = true then (laws_FnExactSplitAny.j5 k x6 x7) else (some false)))
def laws_FnExactSplitAny.j5 : Nat → List ByteArray → Int → Option (Bool)
 | 0, _, _ => none
 | k + 1, x6, x7 => (laws_heldStringS.f k x6 1).bind fun t140 => (if t140 < 0 then (some false) else (laws_FnExactSplitAny.j6 k x7 t140))
def laws_FnExactSplitAny.j6 : Nat → Int → Int → Option (Bool)
 | 0, _, _ => none
 | k + 1, x7, x8 => if x8 = x7 then (some true) else (some false)
end
def laws_FnExactSplitAny.f (k : Nat) (a0 : ByteArray) (a1 : ByteArray) : Option (Bool) := if (a0.size : Int) > 1048576 then (some true) else (laws_FnExactSplitAny.j0 k a0 a1)
set_option maxHeartbeats 8000000 in
set_option maxRecDepth 100000 in
theorem laws_FnExactSplitAny.calls (k : Nat) (a0 : ByteArray) (a1 : ByteArray) (r : Bool) (w : World) (h : laws_FnExactSplitAny.f k a0 a1 = some r) (hR_ : r = true := by rfl) :
  Calls Try.prog 3 #[.string a0, .string a1] w fun e w' => e = .returned (.bool r) ∧ Below w.heap.size w w' := by
 have HR_ := Aside0.mk hR_
 clear hR_
 have HB := Aside0.mk (Below.refl w.heap.size w)
 have H : (if (a0.size : Int) > 1048576 then (some true) else (laws_FnExactSplitAny.j0 k a0 a1)) = some r := h
 clear h
 have HC3 := Aside0.mk H
 clear H
 go_enter Try.func3, Try.ntmps3
 go_upto_if 12 with (fail)
 go_cut [] (fun wc => ∃ (kq : Nat), Aside0 (laws_FnExactSplitAny.j0 kq a0 a1 = some r) ∧ Aside0 (kq ≤ k) ∧ Aside0 (Below w.heap.size w wc))
 case first =>
  have H := HC3.out
  clear HC3
  by_cases c4 : (a0.size : Int) > 1048576
  ·rw [if_pos c4] at H
   have c4b0 : decide (1048576 < (a0.size : Int)) = true := decide_eq_true c4
   have c4b1 : decide (1048576 < a0.size) = true := decide_eq_true (by omega)
   clear c4
   (first | rw [c4b0] | (simp only [i64_w, i32_w]; rw [c4b0]) | skip)
   obtain rfl := Option.some.inj H
   go_wp2
   go_ret
   exact ⟨by first | rfl | (simp [errW_none, errW_some] <;> rfl) | (simp [*, errW_none, errW_some] <;> rfl), by exact Lz HB⟩
  rw [if_neg c4] at H
  have c4b0 : decide (1048576 < (a0.size : Int)) = false := decide_eq_false c4
  have c4b1 : decide (1048576 < a0.size) = false := decide_eq_false (by omega)
  clear c4
  (first | rw [c4b0] | (simp only [i64_w, i32_w]; rw [c4b0]) | skip)
  have H' := Aside0.mk H
  clear H
  go_wp2
  go_meet
  case rel => exact ⟨_, H', ⟨by first | omega | exact Nat.le_refl _⟩, ⟨by exact Lz HB⟩⟩
 case rest =>
  clear HC3
  try clear c4
  try clear c4b0
  try clear c4b1
  obtain ⟨kq, HA, HJ2, HB⟩ := hcut
  cases kq with
  | zero => exact absurd HA.out (by simp [laws_FnExactSplitAny.j0])
  | succ kj2 =>
   have H := HA.out
   clear HA
   simp only [laws_FnExactSplitAny.j0] at H
   have HC5 := Aside0.mk H
   clear H
   go_upto_if 15 with (fail)
   go_cut [] (fun wc => ∃ (kq : Nat), Aside0 (laws_FnExactSplitAny.j1 kq a0 a1 = some r) ∧ Aside0 (kq ≤ kj2) ∧ Aside0 (Below w.heap.size w wc))
   case first =>
    have H := HC5.out
    clear HC5
    by_cases c6 : (a1.size : Int) > 1048576
    ·rw [if_pos c6] at H
     have c6b0 : decide (1048576 < (a1.size : Int)) = true := decide_eq_true c6
     have c6b1 : decide (1048576 < a1.size) = true := decide_eq_true (by omega)
     clear c6
     (first | rw [c6b0] | (simp only [i64_w, i32_w]; rw [c6b0]) | skip)
     obtain rfl := Option.some.inj H
     go_wp2
     go_ret
     exact ⟨by first | rfl | (simp [errW_none, errW_some] <;> rfl) | (simp [*, errW_none, errW_some] <;> rfl), by exact Lz HB⟩
    rw [if_neg c6] at H
    have c6b0 : decide (1048576 < (a1.size : Int)) = false := decide_eq_false c6
    have c6b1 : decide (1048576 < a1.size) = false := decide_eq_false (by omega)
    clear c6
    (first | rw [c6b0] | (simp only [i64_w, i32_w]; rw [c6b0]) | skip)
    have H' := Aside0.mk H
    clear H
    go_wp2
    go_meet
    case rel => exact ⟨_, H', ⟨by have := HJ2.out; first | omega | exact Nat.le_refl _⟩, ⟨by exact Lz HB⟩⟩
   case rest =>
    clear HC5
    try clear c4
    try clear c4b0
    try clear c4b1
    try clear c6
    try clear c6b0
    try clear c6b1
    obtain ⟨kq, HA, HJ4, HB⟩ := hcut
    cases kq with
    | zero => exact absurd HA.out (by simp [laws_FnExactSplitAny.j1])
    | succ kj4 =>
     have H := HA.out
     clear HA
     simp only [laws_FnExactSplitAny.j1] at H
     replace H := Option.bind_eq_some_iff.mp H
     obtain ⟨t126, A70, H⟩ := H
     replace H : ((impl_SplitAny.f kj4 a0 a1).bind fun t129 => ((laws_eqStringS.f kj4 t129 t126).bind fun t132 => (if t132 = true then (laws_FnExactSplitAny.j2 kj4 a0 a1 t126 t129) else (some false)))) = some r := H
     have A7 := Aside0.mk A70
     clear A70
     replace H := Option.bind_eq_some_iff.mp H
     obtain ⟨t129, A80, H⟩ := H
     replace H : ((laws_eqStringS.f kj4 t129 t126).bind fun t132 => (if t132 = true then (laws_FnExactSplitAny.j2 kj4 a0 a1 t126 t129) else (some false))) = some r := H
     have A8 := Aside0.mk A80
     clear A80
     replace H := Option.bind_eq_some_iff.mp H
     obtain ⟨t132, A90, H⟩ := H
     replace H : (if t132 = true then (laws_FnExactSplitAny.j2 kj4 a0 a1 t126 t129) else (some false)) = some r := H
     have A9 := Aside0.mk A90
     clear A90
     have HC10 := Aside0.mk H
     clear H
     go_upto_if 25 with (first | ((with_reducible refine gate_callee (f := 7) rfl ?_); refine goesM_ (some 18) rfl rfl Try.func7 (by kernel_rfl) rfl #[.string a0, .string a1] rfl ?_; (with_reducible refine (spec_SplitAny.calls kj4 a0 a1 t126 _ A7.out).mono ?_); rintro e w11 ⟨v127, rfl, ho0, hb⟩; refine ⟨_, rfl, ?_⟩; have HO128 := Aside0.mk (Kd.R_lower ho0 (below_size (Lz HB))); replace HB := Aside0.mk (below_step (Lz HB) hb); (try clear hb); (try clear ho0)) | ((with_reducible refine gate_callee (f := 8) rfl ?_); refine goesM_ (some 21) rfl rfl Try.func8 (by kernel_rfl) rfl #[.string a0, .string a1] rfl ?_; (with_reducible refine (impl_SplitAny.calls kj4 a0 a1 t129 _ A8.out).mono ?_); rintro e w12 ⟨v130, rfl, ho0, hb⟩; refine ⟨_, rfl, ?_⟩; have HO131 := Aside0.mk (Kd.R_lower (Kd.R_new' ho0 (Kd.R_lt (Rz HO128))) (below_size (Lz HB))); replace HO128 := Aside0.mk (Kd.R_elder' (Rz HO128) (Kd.R_base ho0) hb); replace HB := Aside0.mk (below_step (Lz HB) hb); (try clear hb); (try clear ho0); obtain ⟨Ao13, co13, eo13⟩ := Kd.R_slice HO131.out; subst eo13; obtain ⟨Ao14, co14, eo14⟩ := Kd.R_slice HO128.out; subst eo14) | ((with_reducible refine gate_callee (f := 9) rfl ?_); refine goesM_ (some 24) rfl rfl Try.func9 (by kernel_rfl) rfl #[.slice Ao13 t129.length co13, .slice Ao14 t126.length co14] rfl ?_; (with_reducible refine (laws_eqStringS.calls kj4 _ _ t129 _ _ t126 t132 _ ?side1 ?side2 ?side3 ?side4 A9.out).mono ?_); (case side1 => exact Cz ((Kd.R_reads' HO131.out).2.2)); (case side2 => exact (Kd.R_reads' HO131.out).2.1); (case side3 => exact Cz ((Kd.R_reads' HO128.out).2.2)); (case side4 => exact (Kd.R_reads' HO128.out).2.1); rintro e w' ⟨rfl, ⟨nd, rfl⟩⟩; refine ⟨_, rfl, ?_⟩))
     (try simp only [Act.put, List.setIfInBounds_toArray, List.set_cons_zero, List.set_cons_succ])
     go_cut [] (fun wc => ∃ (kq : Nat), Aside0 (laws_FnExactSplitAny.j2 kq a0 a1 t126 t129 = some r) ∧ Aside0 (kq ≤ kj4) ∧ Aside0 (Kd.R Kd.string 9 wc w.heap.size (fun k_ => some k_ ≠ ((.slice Ao13 t129.length co13) : Value).ownBlock) (.slice Ao14 t126.length co14) t126) ∧ Aside0 (Kd.R Kd.string 9 wc w.heap.size (fun k_ => some k_ ≠ ((.slice Ao14 t126.length co14) : Value).ownBlock) (.slice Ao13 t129.length co13) t129) ∧ Aside0 (Below w.heap.size w wc))
     case first =>
      have H := HC10.out
      clear HC10
      by_cases c15 : t132 = true
      ·subst c15
       have H1 : (laws_FnExactSplitAny.j2 kj4 a0 a1 t126 t129) = some r := by rw [if_pos rfl] at H; exact H
       clear H
       have H := H1
       clear H1
       have H' := Aside0.mk H
       clear H
       go_wp2
       go_meet
       case rel => exact ⟨_, H', ⟨by have := HJ2.out; have := HJ4.out; first | omega | exact Nat.le_refl _⟩, ⟨by (with_reducible repeat (first | apply Kd.R_alloc | apply Kd.R_drewN | apply Kd.R_drew)); exact Kd.R_mono HO128.out (fun _ hk => hk.2)⟩, ⟨by (with_reducible repeat (first | apply Kd.R_alloc | apply Kd.R_drewN | apply Kd.R_drew)); exact Kd.R_mono HO131.out (fun _ hk => hk.2)⟩, ⟨by exact Lz HB⟩⟩
      replace c15 := Bool.eq_false_iff.mpr c15
      subst c15
      have H1 : (some false) = some r := by rw [if_neg (show ¬ (false = true) by decide)] at H; exact H
      clear H
      have H := H1
      clear H1
      exact absurd (Option.some.inj H) (by rw [HR_.out]; decide)
     case rest =>
      clear HC10
      try clear c4
      try clear c4b0
      try clear c4b1
      try clear c6
      try clear c6b0
      try clear c6b1
      try clear c15
      obtain ⟨kq, HA, HJ9, HO_5, HO_6, HB⟩ := hcut
      cases kq with
      | zero => exact absurd HA.out (by simp [laws_FnExactSplitAny.j2])
      | succ kj9 =>
       have H := HA.out
       clear HA
       simp only [laws_FnExactSplitAny.j2] at H
       replace H := Option.bind_eq_some_iff.mp H
       obtain ⟨⟨t133, t134⟩, A160, H⟩ := H
       replace H : ((laws_heldStringS.f kj9 t134 1).bind fun t135 => (if t135 < 0 then (some false) else (laws_FnExactSplitAny.j3 kj9 a0 a1 t126 t134 t133 t135))) = some r := H
       have A16 := Aside0.mk A160
       clear A160
       replace H := Option.bind_eq_some_iff.mp H
       obtain ⟨t135, A170, H⟩ := H
       replace H : (if t135 < 0 then (some false) else (laws_FnExactSplitAny.j3 kj9 a0 a1 t126 t134 t133 t135)) = some r := H
       have A17 := Aside0.mk A170
       clear A170
       have HC18 := Aside0.mk H
       clear H
       go_upto_if 33 with (first | ((with_reducible refine gate_callee (f := 10) rfl ?_); refine goesM_ (some 28) rfl rfl Try.func10 (by kernel_rfl) rfl #[.slice Ao13 t129.length co13, .int .i64 1] rfl ?_; (with_reducible refine (laws_markStringS.calls kj9 (fun k_ => some k_ = (.slice Ao13 t129.length co13 : Value).ownBlock) (.slice Ao13 t129.length co13) t129 1 t133 t134 w _ ?side1 ?side2 A16.out).mono ?_); (case side1 => exact Lz HB); (case side2 => exact Kd.R_tight rfl HO_6.out); rintro e w19 ⟨rfl, hy0, hb, hkp⟩; refine ⟨_, rfl, ?_⟩; replace HO_5 := Aside0.mk (Kd.R_mono (ok' := fun k_ => some k_ ≠ (.slice Ao13 t129.length co13 : Value).ownBlock) (Kd.R_keptB (HO_5.out) hkp (fun k_ hk_ hs_ => (hk_) hs_)) (fun k_ hk_ => hk_.1)); replace HO_6 := Aside0.mk (Kd.R_reok rfl hy0 (fun k_ e_ => HO_6.out.1 k_ e_)); replace HB := Aside0.mk (hb); (try clear hb); (try clear hkp); (try clear hy0)) | ((with_reducible refine gate_callee (f := 11) rfl ?_); refine goesL_ (some 31) rfl rfl Try.func11 (by kernel_rfl) rfl #[.slice Ao13 t134.length co13, .int .i64 1] rfl (by (try simp only [List.map_toArray, List.map_cons, List.map_nil]); first | done | (rw [show t134.length = t129.length from (Kd.R_reads' HO_6.out).1.symm] <;> rfl) | rfl | (simp only [List.length_drop, List.length_take]; rfl)) ?_; (with_reducible refine (laws_heldStringS.calls kj9 _ _ t134 1 t135 _ ?side1 ?side2 A17.out).mono ?_); (case side1 => exact Cz ((Kd.R_reads' HO_6.out).2.2)); (case side2 => rw [show t134.length = t129.length from (Kd.R_reads' HO_6.out).1.symm]; exact (Kd.R_reads' HO_6.out).2.1); rintro e w20 ⟨rfl, hb⟩; refine ⟨_, rfl, ?_⟩; replace HO_5 := Aside0.mk (Kd.R_below (Rz HO_5) hb); replace HO_6 := Aside0.mk (Kd.R_below (Rz HO_6) hb); replace HB := Aside0.mk (below_step (Lz HB) hb); (try clear hb); (try clear hb2); (try clear hk); (try clear hi)))
       (try simp only [Act.put, List.setIfInBounds_toArray, List.set_cons_zero, List.set_cons_succ])
       go_cut [] (fun wc => ∃ (kq : Nat), Aside0 (laws_FnExactSplitAny.j3 kq a0 a1 t126 t134 t133 t135 = some r) ∧ Aside0 (kq ≤ kj9) ∧ Aside0 (Kd.R Kd.string 9 wc w.heap.size (fun k_ => some k_ ≠ ((.slice Ao13 t129.length co13) : Value).ownBlock) (.slice Ao14 t126.length co14) t126) ∧ Aside0 (Kd.R Kd.string 9 wc w.heap.size (fun k_ => some k_ ≠ ((.slice Ao14 t126.length co14) : Value).ownBlock) (.slice Ao13 t129.length co13) t134) ∧ Aside0 (Below w.heap.size w wc))
       case first =>
        have H := HC18.out
        clear HC18
        by_cases c21 : t135 < 0
        ·rw [if_pos c21] at H
         have c21b0 : decide (t135 < 0) = true := decide_eq_true c21
         clear c21
         (first | rw [c21b0] | (simp only [i64_w, i32_w]; rw [c21b0]) | skip)
         obtain rfl := Option.some.inj H
         go_wp2
         go_ret
         exact ⟨by first | rfl | (simp [errW_none, errW_some] <;> rfl) | (simp [*, errW_none, errW_some] <;> rfl), by exact Lz HB⟩
        rw [if_neg c21] at H
        have c21b0 : decide (t135 < 0) = false := decide_eq_false c21
        clear c21
        (first | rw [c21b0] | (simp only [i64_w, i32_w]; rw [c21b0]) | skip)
        have H' := Aside0.mk H
        clear H
        go_wp2
        go_meet
        case rel => exact ⟨_, H', ⟨by have := HJ2.out; have := HJ4.out; have := HJ9.out; first | omega | exact Nat.le_refl _⟩, ⟨by exact Rz HO_5⟩, ⟨by exact Rz HO_6⟩, ⟨by exact Lz HB⟩⟩
       case rest =>
        clear HC18
        try clear c4
        try clear c4b0
        try clear c4b1
        try clear c6
        try clear c6b0
        try clear c6b1
        try clear c15
        try clear c21
        try clear c21b0
        obtain ⟨kq, HA, HJ17, HO_5, HO_6, HB⟩ := hcut
        have hl6_17 := (Kd.R_reads' HO_6.out).1
        rw [hl6_17] at HO_6
        (try simp only [hl6_17])
        (try simp only [hl6_17] at HO_5)
        cases kq with
        | zero => exact absurd HA.out (by simp [laws_FnExactSplitAny.j3])
        | succ kj17 =>
         have H := HA.out
         clear HA
         simp only [laws_FnExactSplitAny.j3] at H
         have HC22 := Aside0.mk H
         clear H
         go_upto_if 36 with (fail)
         go_cut [] (fun wc => ∃ (kq : Nat), Aside0 (laws_FnExactSplitAny.j4 kq a0 a1 t126 t134 t133 = some r) ∧ Aside0 (kq ≤ kj17) ∧ Aside0 (Kd.R Kd.string 9 wc w.heap.size (fun k_ => some k_ ≠ ((.slice Ao13 t134.length co13) : Value).ownBlock) (.slice Ao14 t126.length co14) t126) ∧ Aside0 (Kd.R Kd.string 9 wc w.heap.size (fun k_ => some k_ ≠ ((.slice Ao14 t126.length co14) : Value).ownBlock) (.slice Ao13 t134.length co13) t134) ∧ Aside0 (Below w.heap.size w wc))
         case first =>
          have H := HC22.out
          clear HC22
          by_cases c23 : t135 = t133
          ·rw [if_pos c23] at H
           have c23b0 : (t135 == t133) = true := beq_iff_eq.mpr c23
           have c23b1 : (t135 != t133) = false := bne_eq_false_iff_eq.mpr c23
           clear c23
           (first | rw [c23b0] | (simp only [i64_w, i32_w]; rw [c23b0]) | skip)
           have H' := Aside0.mk H
           clear H
           go_wp2
           go_meet
           case rel => exact ⟨_, H', ⟨by have := HJ2.out; have := HJ4.out; have := HJ9.out; have := HJ17.out; first | omega | exact Nat.le_refl _⟩, ⟨by (try simp only [hl6_17]); exact Rz HO_5⟩, ⟨by (try simp only [hl6_17]); exact Rz HO_6⟩, ⟨by exact Lz HB⟩⟩
          rw [if_neg c23] at H
          have c23b0 : (t135 == t133) = false := beq_eq_false_iff_ne.mpr c23
          have c23b1 : (t135 != t133) = true := bne_iff_ne.mpr c23
          (first | rw [c23b0] | (simp only [i64_w, i32_w]; rw [c23b0]) | skip)
          obtain rfl := Option.some.inj H
          go_wp2
          go_ret
          exact ⟨by first | rfl | (simp [errW_none, errW_some] <;> rfl) | (simp [*, errW_none, errW_some] <;> rfl), by exact Lz HB⟩
         case rest =>
          clear HC22
          try clear c4
          try clear c4b0
          try clear c4b1
          try clear c6
          try clear c6b0
          try clear c6b1
          try clear c15
          try clear c21
          try clear c21b0
          try clear c23
          try clear c23b0
          try clear c23b1
          obtain ⟨kq, HA, HJ21, HO_5, HO_6, HB⟩ := hcut
          cases kq with
          | zero => exact absurd HA.out (by simp [laws_FnExactSplitAny.j4])
          | succ kj21 =>
           have H := HA.out
           clear HA
           simp only [laws_FnExactSplitAny.j4] at H
           replace H := Option.bind_eq_some_iff.mp H
           obtain ⟨t136, A240, H⟩ := H
           replace H : ((laws_eqStringS.f kj21 t136 t126).bind fun t139 => (if t139 = true then (laws_FnExactSplitAny.j5 kj21 t134 t133) else (some false))) = some r := H
           have A24 := Aside0.mk A240
           clear A240
           replace H := Option.bind_eq_some_iff.mp H
           obtain ⟨t139, A250, H⟩ := H
           replace H : (if t139 = true then (laws_FnExactSplitAny.j5 kj21 t134 t133) else (some false)) = some r := H
           have A25 := Aside0.mk A250
           clear A250
           have HC26 := Aside0.mk H
           clear H
           go_upto_if 43 with (first | ((with_reducible refine gate_callee (f := 8) rfl ?_); refine goesM_ (some 39) rfl rfl Try.func8 (by kernel_rfl) rfl #[.string a0, .string a1] rfl ?_; (with_reducible refine (impl_SplitAny.calls kj21 a0 a1 t136 _ A24.out).mono ?_); rintro e w27 ⟨v137, rfl, ho0, hb⟩; refine ⟨_, rfl, ?_⟩; have HO138 := Aside0.mk (Kd.R_lower (Kd.R_new' (Kd.R_new' ho0 (Kd.R_lt (Rz HO_5))) (Kd.R_lt (Rz HO_6))) (below_size (Lz HB))); replace HO_5 := Aside0.mk (Kd.R_elder' (Rz HO_5) (Kd.R_base ho0) hb); replace HO_6 := Aside0.mk (Kd.R_elder' (Rz HO_6) (Kd.R_base ho0) hb); replace HB := Aside0.mk (below_step (Lz HB) hb); (try clear hb); (try clear ho0); obtain ⟨Ao28, co28, eo28⟩ := Kd.R_slice HO138.out; subst eo28) | ((with_reducible refine gate_callee (f := 9) rfl ?_); refine goesM_ (some 42) rfl rfl Try.func9 (by kernel_rfl) rfl #[.slice Ao28 t136.length co28, .slice Ao14 t126.length co14] rfl ?_; (with_reducible refine (laws_eqStringS.calls kj21 _ _ t136 _ _ t126 t139 _ ?side1 ?side2 ?side3 ?side4 A25.out).mono ?_); (case side1 => exact Cz ((Kd.R_reads' HO138.out).2.2)); (case side2 => exact (Kd.R_reads' HO138.out).2.1); (case side3 => exact Cz ((Kd.R_reads' HO_5.out).2.2)); (case side4 => exact (Kd.R_reads' HO_5.out).2.1); rintro e w' ⟨rfl, ⟨nd, rfl⟩⟩; refine ⟨_, rfl, ?_⟩))
           (try simp only [Act.put, List.setIfInBounds_toArray, List.set_cons_zero, List.set_cons_succ])
           go_cut [] (fun wc => ∃ (kq : Nat), Aside0 (laws_FnExactSplitAny.j5 kq t134 t133 = some r) ∧ Aside0 (kq ≤ kj21) ∧ Aside0 (Kd.R Kd.string 9 wc w.heap.size (fun _ => True) (.slice Ao13 t134.length co13) t134) ∧ Aside0 (Below w.heap.size w wc))
           case first =>
            have H := HC26.out
            clear HC26
            by_cases c29 : t139 = true
            ·subst c29
             have H1 : (laws_FnExactSplitAny.j5 kj21 t134 t133) = some r := by rw [if_pos rfl] at H; exact H
             clear H
             have H := H1
             clear H1
             have H' := Aside0.mk H
             clear H
             go_wp2
             go_meet
             case rel => exact ⟨_, H', ⟨by have := HJ2.out; have := HJ4.out; have := HJ9.out; have := HJ17.out; have := HJ21.out; first | omega | exact Nat.le_refl _⟩, ⟨by (try simp only [hl6_17]); (with_reducible repeat (first | apply Kd.R_alloc | apply Kd.R_drewN | apply Kd.R_drew)); exact Kd.R_mono HO_6.out (fun _ hk => trivial)⟩, ⟨by exact Lz HB⟩⟩
            replace c29 := Bool.eq_false_iff.mpr c29
            subst c29
            have H1 : (some false) = some r := by rw [if_neg (show ¬ (false = true) by decide)] at H; exact H
            clear H
            have H := H1
            clear H1
            exact absurd (Option.some.inj H) (by rw [HR_.out]; decide)
           case rest =>
            clear HC26
            try clear c4
            try clear c4b0
            try clear c4b1
            try clear c6
            try clear c6b0
            try clear c6b1
            try clear c15
            try clear c21
            try clear c21b0
            try clear c23
            try clear c23b0
            try clear c23b1
            try clear c29
            obtain ⟨kq, HA, HJ25, HO_6, HB⟩ := hcut
            cases kq with
            | zero => exact absurd HA.out (by simp [laws_FnExactSplitAny.j5])
            | succ kj25 =>
             have H := HA.out
             clear HA
             simp only [laws_FnExactSplitAny.j5] at H
             replace H := Option.bind_eq_some_iff.mp H
             obtain ⟨t140, A300, H⟩ := H
             replace H : (if t140 < 0 then (some false) else (laws_FnExactSplitAny.j6 kj25 t133 t140)) = some r := H
             have A30 := Aside0.mk A300
             clear A300
             have HC31 := Aside0.mk H
             clear H
             go_upto_if 48 with (first | ((with_reducible refine gate_callee (f := 11) rfl ?_); refine goesM_ (some 46) rfl rfl Try.func11 (by kernel_rfl) rfl #[.slice Ao13 t134.length co13, .int .i64 1] rfl ?_; (with_reducible refine (laws_heldStringS.calls kj25 _ _ t134 1 t140 _ ?side1 ?side2 A30.out).mono ?_); (case side1 => exact Cz ((Kd.R_reads' HO_6.out).2.2)); (case side2 => exact (Kd.R_reads' HO_6.out).2.1); rintro e w32 ⟨rfl, hb⟩; refine ⟨_, rfl, ?_⟩; replace HO_6 := Aside0.mk (Kd.R_below (Rz HO_6) hb); replace HB := Aside0.mk (below_step (Lz HB) hb); (try clear hb); (try clear hb2); (try clear hk); (try clear hi)))
             (try simp only [Act.put, List.setIfInBounds_toArray, List.set_cons_zero, List.set_cons_succ])
             go_cut [] (fun wc => ∃ (kq : Nat), Aside0 (laws_FnExactSplitAny.j6 kq t133 t140 = some r) ∧ Aside0 (kq ≤ kj25) ∧ Aside0 (Below w.heap.size w wc))
             case first =>
              have H := HC31.out
              clear HC31
              by_cases c33 : t140 < 0
              ·rw [if_pos c33] at H
               have c33b0 : decide (t140 < 0) = true := decide_eq_true c33
               clear c33
               (first | rw [c33b0] | (simp only [i64_w, i32_w]; rw [c33b0]) | skip)
               obtain rfl := Option.some.inj H
               go_wp2
               go_ret
               exact ⟨by first | rfl | (simp [errW_none, errW_some] <;> rfl) | (simp [*, errW_none, errW_some] <;> rfl), by exact Lz HB⟩
              rw [if_neg c33] at H
              have c33b0 : decide (t140 < 0) = false := decide_eq_false c33
              clear c33
              (first | rw [c33b0] | (simp only [i64_w, i32_w]; rw [c33b0]) | skip)
              have H' := Aside0.mk H
              clear H
              go_wp2
              go_meet
              case rel => exact ⟨_, H', ⟨by have := HJ2.out; have := HJ4.out; have := HJ9.out; have := HJ17.out; have := HJ21.out; have := HJ25.out; first | omega | exact Nat.le_refl _⟩, ⟨by exact Lz HB⟩⟩
             case rest =>
              clear HC31
              try clear c4
              try clear c4b0
              try clear c4b1
              try clear c6
              try clear c6b0
              try clear c6b1
              try clear c15
              try clear c21
              try clear c21b0
              try clear c23
              try clear c23b0
              try clear c23b1
              try clear c29
              try clear c33
              try clear c33b0
              obtain ⟨kq, HA, HJ30, HB⟩ := hcut
              cases kq with
              | zero => exact absurd HA.out (by simp [laws_FnExactSplitAny.j6])
              | succ kj30 =>
               have H := HA.out
               clear HA
               simp only [laws_FnExactSplitAny.j6] at H
               by_cases c34 : t140 = t133
               ·rw [if_pos c34] at H
                have c34b0 : (t140 == t133) = true := beq_iff_eq.mpr c34
                have c34b1 : (t140 != t133) = false := bne_eq_false_iff_eq.mpr c34
                clear c34
                obtain rfl := Option.some.inj H
                go_wp2
                go_ret
                exact ⟨by first | rfl | (simp [errW_none, errW_some] <;> rfl) | (simp [*, errW_none, errW_some] <;> rfl), by exact Lz HB⟩
               rw [if_neg c34] at H
               have c34b0 : (t140 == t133) = false := beq_eq_false_iff_ne.mpr c34
               have c34b1 : (t140 != t133) = true := bne_iff_ne.mpr c34
               obtain rfl := Option.some.inj H
               go_wp2
               go_ret
               exact ⟨by first | rfl | (simp [errW_none, errW_some] <;> rfl) | (simp [*, errW_none, errW_some] <;> rfl), by exact Lz HB⟩
def laws_FnExactSplitAny.Pure : Prop := ∀ (a0 : ByteArray) (a1 : ByteArray), a0.size ≤ 140737488351232 → a1.size ≤ 140737488351232 → ∃ k, laws_FnExactSplitAny.f k a0 a1 = some true
end Go.Proofs.Yteojcamllgdheaa.P
end
section
namespace Go.Proofs.Yteojcamllgdheaa.Pure
open Go.RowKit Go.Proofs.Yteojcamllgdheaa.P Go.Proofs.YteojcamllgdheaaW.PrintWords Go.Proofs.YteojcamllgdheaaW.PrintLast Go.Proofs.YteojcamllgdheaaW.PrintMore
def StatFnExactSplitAny : Prop := ∀ (a0 : ByteArray) (a1 : ByteArray), a0.size ≤ maxLen → a1.size ≤ maxLen → ∃ k, laws_FnExactSplitAny.f k a0 a1 = some true
end Go.Proofs.Yteojcamllgdheaa.Pure
end
section
set_option linter.unusedVariables false
set_option linter.unusedSimpArgs false
namespace Go.Proofs.Yteojcamllgdheaa.Pure
open Go.RowKit Go.Proofs.Yteojcamllgdheaa.P Go.Proofs.YteojcamllgdheaaW.PrintWords Go.Proofs.YteojcamllgdheaaW.PrintLast Go.Proofs.YteojcamllgdheaaW.PrintMore Go.Proofs.Yteojcamllgdheaa.Base Go.Proofs.Yteojcamllgdheaa.Loops
theorem lawSplitAny (s b : ByteArray) : Ev (fun k => laws_FnExactSplitAny.f k s b) true := by
  simp only [laws_FnExactSplitAny.f]
  by_cases h1 : (s.size : Int) > 1048576
  · exact ev_ift h1 (Ev.now _)
  refine ev_ifn h1 (ev_succ ?_)
  simp only [laws_FnExactSplitAny.j0]
  by_cases h2 : (b.size : Int) > 1048576
  · exact ev_ift h2 (Ev.now _)
  refine ev_ifn h2 ?_
  have g1 := implSplit_ev s b (by omega)
  have g2 := specSplit_ev s b (by omega) (by omega)
  have hl := (cutF_len s b s.size 0 0 []).1
  have hl' : (cuts s b).length ≤ 1048577 := by unfold cuts; simp only [List.length_nil] at hl; omega
  have e := eqStr_ev (cuts s b) (by omega)
  have m := markStr_ev (cuts s b) (by omega)
  have h := heldStr_ev (cuts s b).length (by omega)
  repeat (first
    | exact Ev.now _
    | dsimp only
    | (with_reducible refine Ev.bind g1 ?_) | (with_reducible refine Ev.bind g2 ?_) | (with_reducible refine Ev.bind e ?_) | (with_reducible refine Ev.bind m ?_) | (with_reducible refine Ev.bind h ?_)
    | with_reducible refine ev_ift (by first | rfl | with_reducible exact True.intro | omega) ?_
    | with_reducible refine ev_ifn (by omega) ?_
    | (refine ev_succ ?_; simp only [if_true, laws_FnExactSplitAny.j1, laws_FnExactSplitAny.j2, laws_FnExactSplitAny.j3, laws_FnExactSplitAny.j4, laws_FnExactSplitAny.j5, laws_FnExactSplitAny.j6])
    )
theorem FnExactSplitAny : StatFnExactSplitAny := by
  intro s b _ _
  exact Ev.rounds (r := true) (lawSplitAny s b)
end Go.Proofs.Yteojcamllgdheaa.Pure
end
