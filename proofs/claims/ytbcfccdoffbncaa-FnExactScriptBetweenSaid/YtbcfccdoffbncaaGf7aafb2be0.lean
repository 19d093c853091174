/- Functions of the program as plain Lean functions and that the machine's calls answer as they do, the words of the print that these use, lemmas and plain proofs of laws. Put together by a program of this work that leaves out what nothing uses; Lean checks it. -/
import Derived.Test.YtbcfccdoffbncaaG91cfef8bc8
import Derived.Test.YtbcfccdoffbncaaGf5a3b49cd5
import Derived.Test.YtbcfccdoffbncaaGb6f675d6d4
import Derived.Test.YtbcfccdoffbncaaGaf92878072
import Derived.Test.YtbcfccdoffbncaaG5ad5ad0716
import Derived.Test.YtbcfccdoffbncaaG850dd489cc
import Derived.Test.YtbcfccdoffbncaaG659134c89a
section
namespace Go.Proofs.Ytbcfccdoffbncaa.P
open Go.RowKit Go.Proofs.YtbcfccdoffbncaaW.PrintWords Go.Proofs.YtbcfccdoffbncaaW.PrintLast Go.Proofs.YtbcfccdoffbncaaW.PrintMore
attribute [local go_sem] max2_int min2_int max_two min_two max_three min_three max_four min_four
set_option linter.unusedVariables false
set_option linter.unusedSimpArgs false
mutual
def laws_FnExactScriptBetween.j0 : Nat → List Int → List Int → Int → List (S96) → Option (Bool)
 | 0, _, _, _, _ => none
 | k + 1, x1, x2, x560000, x560001 => if (x2.length : Int) > 1048576 then (some true) else (laws_FnExactScriptBetween.j1 k x1 x2 x560000 x560001)
def laws_FnExactScriptBetween.j1 : Nat → List Int → List Int → Int → List (S96) → Option (Bool)
 | 0, _, _, _, _ => none
 | k + 1, x1, x2, x560000, x560001 => (laws_szGraph.f x560000 x560001 1048576).bind fun t560 => (if t560 < 0 then (some true) else (laws_FnExactScriptBetween.j2 k x1 x2 x560000 x560001))
def laws_FnExactScriptBetween.j2 : Nat → List Int → List Int → Int → List (S96) → Option (Bool)
 | 0, _, _, _, _ => none
 | k + 1, x1, x2, x560000, x560001 => (laws_toGraph.f k x560000 x560001).bind fun bt561 => ((laws_toIntS.f k x1).bind fun t565 => ((laws_toIntS.f k x2).bind fun t568 => ((spec_ScriptBetween.f k bt561.1 bt561.2 t565 t568).bind fun bt571 => ((laws_toGraph.f k x560000 x560001).bind fun bt575 => ((laws_toIntS.f k x1).bind fun t580 => ((laws_toIntS.f k x2).bind fun t583 => ((impl_ScriptBetween.f k bt575.1 bt575.2 t580 t583).bind fun bt586 => ((laws_eqIntS.f k bt586.1 bt571.1).bind fun t590 => (if t590 = true then (laws_FnExactScriptBetween.j3 k x1 x2 bt571.1 bt571.2 t580 t583 bt586.1 bt586.2 (bt586.2 != bt571.2) x560000 x560001 bt575.1 bt575.2) else (laws_FnExactScriptBetween.j3 k x1 x2 bt571.1 bt571.2 t580 t583 bt586.1 bt586.2 true x560000 x560001 bt575.1 bt575.2))))))))))
def laws_FnExactScriptBetween.j3 : Nat → List Int → List Int → List Int → Bool → List Int → List Int → List Int → Bool → Bool → Int → List (S96) → Int → List (S67) → Option (Bool)
 | 0, _, _, _, _, _, _, _, _, _, _, _, _, _ => none
 | k + 1, x1, x2, x8, x9, x11, x12, x13, x14, x62, x560000, x560001, x580000, x580001 => if x62 = true then (some false) else (laws_FnExactScriptBetween.j4 k x1 x2 x8 x9 x11 x12 x13 x14 x560000 x560001 x580000 x580001)
def laws_FnExactScriptBetween.j4 : Nat → List Int → List Int → List Int → Bool → List Int → List Int → List Int → Bool → Int → List (S96) → Int → List (S67) → Option (Bool)
 | 0, _, _, _, _, _, _, _, _, _, _, _, _ => none
 | k + 1, x1, x2, x8, x9, x11, x12, x13, x14, x560000, x560001, x580000, x580001 => (laws_toGraph.f k x560000 x560001).bind fun bt591 => ((laws_eqGraph.f k x580000 x580001 bt591.1 bt591.2).bind fun t595 => (if t595 = true then (laws_FnExactScriptBetween.j5 k x1 x2 x8 x9 x11 x12 x13 x14 x560000 x560001 x580000 x580001) else (some false)))
def laws_FnExactScriptBetween.j5 : Nat → List Int → List Int → List Int → Bool → List Int → List Int → List Int → Bool → Int → List (S96) → Int → List (S67) → Option (Bool)
 | 0, _, _, _, _, _, _, _, _, _, _, _, _ => none
 | k + 1, x1, x2, x8, x9, x11, x12, x13, x14, x560000, x560001, x580000, x580001 => (laws_toIntS.f k x1).bind fun t596 => ((laws_eqIntS.f k x11 t596).bind fun t599 => (if t599 = true then (laws_FnExactScriptBetween.j6 k x1 x2 x8 x9 x11 x12 x13 x14 x560000 x560001 x580000 x580001) else (some false)))
def laws_FnExactScriptBetween.j6 : Nat → List Int → List Int → List Int → Bool → List Int → List Int → List Int → Bool → Int → List (S96) → Int → List (S67) → Option (Bool)
 | 0, _, _, _, _, _, _, _, _, _, _, _, _ => none
 | k + 1, x1, x2, x8, x9, x11, x12, x13, x14, x560000, x560001, x580000, x580001 => (laws_toIntS.f k x2).bind fun t600 => ((laws_eqIntS.f k x12 t600).bind fun t603 => (if t603 = true then (laws_FnExactScriptBetween.j7 k x1 x2 x8 x9 x11 x12 x13 x14 x560000 x560001 x580000 x580001) else (some false)))
def laws_FnExactScriptBetween.j7 : Nat → List Int → List Int → List Int → Bool → List Int → List Int → List Int → Bool → Int → List (S96) → Int → List (S67) → Option (Bool)
 | 0, _, _, _, _, _, _, _, _, _, _, _, _ => none
 | k + 1, x1, x2, x8, x9, x11, x12, x13, x14, x560000, x560001, x580000, x580001 => (laws_markGraph.f k x580000 x580001 1).bind fun bt604 => ((laws_markIntS.f k x11 bt604.1).bind fun bt606 => ((laws_markIntS.f k x12 bt606.1).bind fun bt608 => (if bt608.1 < 0 then (laws_FnExactScriptBetween.j8 k x1 x2 x8 x9 x13 true x560000 x560001) else ((laws_eqIntS.f k x13 x8).bind fun t610 => (if t610 = true then (laws_FnExactScriptBetween.j8 k x1 x2 x8 x9 x13 (x14 != x9) x560000 x560001) else (laws_FnExactScriptBetween.j8 k x1 x2 x8 x9 x13 true x560000 x560001))))))
def laws_FnExactScriptBetween.j8 : Nat → List Int → List Int → List Int → Bool → List Int → Bool → Int → List (S96) → Option (Bool)
 | 0, _, _, _, _, _, _, _, _ => none
 | k + 1, x1, x2, x8, x9, x13, x99, x560000, x560001 => if x99 = true then (some false) else (laws_FnExactScriptBetween.j9 k x1 x2 x8 x9 x13 x560000 x560001)
def laws_FnExactScriptBetween.j9 : Nat → List Int → List Int → List Int → Bool → List Int → Int → List (S96) → Option (Bool)
 | 0, _, _, _, _, _, _, _ => none
 | k + 1, x1, x2, x8, x9, x13, x560000, x560001 => (laws_markIntS.f k x13 1).bind fun bt611 => ((laws_heldIntS.f k bt611.2 1).bind fun t613 => (if t613 < 0 then (some false) else (laws_FnExactScriptBetween.j10 k x1 x2 x8 x9 bt611.2 bt611.1 t613 x560000 x560001)))
def laws_FnExactScriptBetween.j10 : Nat → List Int → List Int → List Int → Bool → List Int → Int → Int → Int → List (S96) → Option (Bool)
 | 0, _, _, _, _, _, _, _, _, _ => none
 | k + 1, x1, x2, x8, x9, x13, x16, x17, x560000, x560001 => if x17 = x16 then (laws_FnExactScriptBetween.j11 k x1 x2 x8 x9 x13 x16 x560000 x560001) else (some false)
def laws_FnExactScriptBetween.j11 : Nat → List Int → List Int → List Int → Bool → List Int → Int → Int → List (S96) → Option (Bool)
 | 0, _, _, _, _, _, _, _, _ => none
 | k + 1, x1, x2, x8, x9, x13, x16, x560000, x560001 => (laws_toGraph.f k x560000 x560001).bind fun bt614 => ((laws_toIntS.f k x1).bind fun t618 => ((laws_toIntS.f k x2).bind fun t621 => ((impl_ScriptBetween.f k bt614.1 bt614.2 t618 t621).bind fun bt624 => ((laws_eqIntS.f k bt624.1 x8).bind fun t628 => (if t628 = true then (laws_FnExactScriptBetween.j12 k x13 x16 (bt624.2 != x9)) else (laws_FnExactScriptBetween.j12 k x13 x16 true))))))
def laws_FnExactScriptBetween.j12 : Nat → List Int → Int → Bool → Option (Bool)
 | 0, _, _, _ => none
 | k + 1, x13, x16, x129 => if x129 = true then (some false) else (laws_FnExactScriptBetween.j13 k x13 x16)
def laws_FnExactScriptBetween.j13 : Nat → List Int → Int → Option (Bool)
 | 0, _, _ => none
 | k + 1, x13, x16 => (laws_heldIntS.f k x13 1).bind fun t629 => (if t629 < 0 then (some false) else (laws_FnExactScriptBetween.j14 k x16 t629))
def laws_FnExactScriptBetween.j14 : Nat → Int → Int → Option (Bool)
 | 0, _, _ => none
 | k + 1, x16, x17 => if x17 = x16 then (some true) else (some false)
end
def laws_FnExactScriptBetween.f (k : Nat) (a0_0 : Int) (l0_1 : List (S96)) (l1 : List Int) (l2 : List Int) : Option (Bool) := if (l1.length : Int) > 1048576 then (some true) else (laws_FnExactScriptBetween.j0 k l1 l2 a0_0 l0_1)
set_option maxHeartbeats 8000000 in
set_option maxRecDepth 100000 in
theorem laws_FnExactScriptBetween.calls (k : Nat) (a0_0 : Int) (A0_1 : Option Addr) (c0_1 : Nat) (l0_1 : List (S96)) (A1 : Option Addr) (c1 : Nat) (l1 : List Int) (A2 : Option Addr) (c2 : Nat) (l2 : List Int) (r : Bool) (w : World) (hr0_1 : Kd.C k96 w A0_1 l0_1.length l0_1) (hc0_1 : l0_1.length ≤ c0_1) (hr1 : Kd.C (Kd.int .i64) w A1 l1.length l1) (hc1 : l1.length ≤ c1) (hr2 : Kd.C (Kd.int .i64) w A2 l2.length l2) (hc2 : l2.length ≤ c2) (h : laws_FnExactScriptBetween.f k a0_0 l0_1 l1 l2 = some r) :
  Calls Try.prog 4 #[.agg #[.int .i64 a0_0, .slice A0_1 l0_1.length c0_1], .slice A1 l1.length c1, .slice A2 l2.length c2] w fun e w' => e = .returned (.bool r) ∧ Below w.heap.size w w' := by
 have hu24 := Try.underlying24
 have hu31 := Try.underlying31
 have HR0_1 := Aside0.mk hr0_1
 have HC0_1 := Aside0.mk hc0_1
 clear hr0_1 hc0_1
 have HR1 := Aside0.mk hr1
 have HC1 := Aside0.mk hc1
 clear hr1 hc1
 have HR2 := Aside0.mk hr2
 have HC2 := Aside0.mk hc2
 clear hr2 hc2
 have HB := Aside0.mk (Below.refl w.heap.size w)
 have H : (if (l1.length : Int) > 1048576 then (some true) else (laws_FnExactScriptBetween.j0 k l1 l2 a0_0 l0_1)) = some r := h
 clear h
 have HC4 := Aside0.mk H
 clear H
 go_enter Try.func4, Try.ntmps4
 go_upto_if 22 with (first | ((with_reducible refine gate_dst (N := 3) rfl ?_); refine box_event ?hg (N := 3) ?hd (cs := #[.int .i64 a0_0, .slice A0_1 l0_1.length c0_1]) (t := 24) ?hr ?_; (case hd => rfl); (case hg => rfl); (case hr => first | (go_simp; done) | (go_simp; rfl)); intro gb559 hg w5 hbox hb; have BK559 := Aside0.mk (hbox); have GW559 := Aside0.mk ((by rw [hg]; exact (below_size (Lz HB)) : w.heap.size ≤ gb559)); have GE559 := Aside0.mk ((by rw [hg]; exact (below_size (Lz HB)) : w.heap.size ≤ gb559)); replace HB := Aside0.mk (below_step (Lz HB) hb); clear hb hbox hg))
 (try simp only [Act.put, List.setIfInBounds_toArray, List.set_cons_zero, List.set_cons_succ])
 go_cut [] (fun wc => ∃ (kq : Nat), Aside0 (laws_FnExactScriptBetween.j0 kq l1 l2 a0_0 l0_1 = some r) ∧ Aside0 (kq ≤ k) ∧ Aside0 (wc.heap[gb559]? = some (.cells #[.int .i64 a0_0, (.slice A0_1 l0_1.length c0_1)] 24 (0, 0))) ∧ Aside0 (Below w.heap.size w wc))
 case first =>
  have H := HC4.out
  clear HC4
  by_cases c6 : (l1.length : Int) > 1048576
  ·rw [if_pos c6] at H
   have c6b0 : decide (1048576 < (l1.length : Int)) = true := decide_eq_true c6
   (try simp only [hl580001_73, hl13_90] at c6b0)
   have c6b1 : decide (1048576 < l1.length) = true := decide_eq_true (by omega)
   (try simp only [hl580001_73, hl13_90] at c6b1)
   clear c6
   (first | rw [c6b0] | (simp only [i64_w, i32_w]; rw [c6b0]) | skip)
   obtain rfl := Option.some.inj H
   go_wp2
   go_ret
   exact ⟨by first | rfl | (simp [errW_none, errW_some] <;> rfl) | (simp [*, errW_none, errW_some] <;> rfl), by exact Lz1 HB GE559⟩
  rw [if_neg c6] at H
  have c6b0 : decide (1048576 < (l1.length : Int)) = false := decide_eq_false c6
  (try simp only [hl580001_73, hl13_90] at c6b0)
  have c6b1 : decide (1048576 < l1.length) = false := decide_eq_false (by omega)
  (try simp only [hl580001_73, hl13_90] at c6b1)
  clear c6
  (first | rw [c6b0] | (simp only [i64_w, i32_w]; rw [c6b0]) | skip)
  have H' := Aside0.mk H
  clear H
  go_wp2
  go_meet
  case rel => exact ⟨_, H', ⟨by first | omega | exact Nat.le_refl _⟩, ⟨by exact Bz BK559⟩, ⟨by exact Lz1 HB GE559⟩⟩
 case rest =>
  clear HC4
  try clear c1
  try clear c2
  try clear c6
  try clear c6b0
  try clear c6b1
  obtain ⟨kq, HA, HJ3, BK559, HB⟩ := hcut
  cases kq with
  | zero => exact absurd HA.out (by simp [laws_FnExactScriptBetween.j0])
  | succ kj3 =>
   have H := HA.out
   clear HA
   simp only [laws_FnExactScriptBetween.j0] at H
   have HC7 := Aside0.mk H
   clear H
   go_upto_if 25 with (fail)
   go_cut [] (fun wc => ∃ (kq : Nat), Aside0 (laws_FnExactScriptBetween.j1 kq l1 l2 a0_0 l0_1 = some r) ∧ Aside0 (kq ≤ kj3) ∧ Aside0 (wc.heap[gb559]? = some (.cells #[.int .i64 a0_0, (.slice A0_1 l0_1.length c0_1)] 24 (0, 0))) ∧ Aside0 (Below w.heap.size w wc))
   case first =>
    have H := HC7.out
    clear HC7
    by_cases c8 : (l2.length : Int) > 1048576
    ·rw [if_pos c8] at H
     have c8b0 : decide (1048576 < (l2.length : Int)) = true := decide_eq_true c8
     (try simp only [hl580001_73, hl13_90] at c8b0)
     have c8b1 : decide (1048576 < l2.length) = true := decide_eq_true (by omega)
     (try simp only [hl580001_73, hl13_90] at c8b1)
     clear c8
     (first | rw [c8b0] | (simp only [i64_w, i32_w]; rw [c8b0]) | skip)
     obtain rfl := Option.some.inj H
     go_wp2
     go_ret
     exact ⟨by first | rfl | (simp [errW_none, errW_some] <;> rfl) | (simp [*, errW_none, errW_some] <;> rfl), by exact Lz1 HB GE559⟩
    rw [if_neg c8] at H
    have c8b0 : decide (1048576 < (l2.length : Int)) = false := decide_eq_false c8
    (try simp only [hl580001_73, hl13_90] at c8b0)
    have c8b1 : decide (1048576 < l2.length) = false := decide_eq_false (by omega)
    (try simp only [hl580001_73, hl13_90] at c8b1)
    clear c8
    (first | rw [c8b0] | (simp only [i64_w, i32_w]; rw [c8b0]) | skip)
    have H' := Aside0.mk H
    clear H
    go_wp2
    go_meet
    case rel => exact ⟨_, H', ⟨by have := HJ3.out; first | omega | exact Nat.le_refl _⟩, ⟨by exact Bz BK559⟩, ⟨by exact Lz1 HB GE559⟩⟩
   case rest =>
    clear HC7
    try clear c1
    try clear c2
    try clear c6
    try clear c6b0
    try clear c6b1
    try clear c8
    try clear c8b0
    try clear c8b1
    obtain ⟨kq, HA, HJ6, BK559, HB⟩ := hcut
    cases kq with
    | zero => exact absurd HA.out (by simp [laws_FnExactScriptBetween.j1])
    | succ kj6 =>
     have H := HA.out
     clear HA
     simp only [laws_FnExactScriptBetween.j1] at H
     replace H := Option.bind_eq_some_iff.mp H
     obtain ⟨t560, A90, H⟩ := H
     replace H : (if t560 < 0 then (some true) else (laws_FnExactScriptBetween.j2 kj6 l1 l2 a0_0 l0_1)) = some r := H
     have A9 := Aside0.mk A90
     clear A90
     have HC10 := Aside0.mk H
     clear H
     have hcz11_0 : wc.cell? ⟨gb559, 0, none⟩ = some (.int .i64 a0_0) := (blk_cell BK559.out 0).trans rfl
     have hcz11_1 : wc.cell? ⟨gb559, 1, none⟩ = some (.slice A0_1 l0_1.length c0_1) := (blk_cell BK559.out 1).trans rfl
     have hfz11_0 := blk_frozen BK559.out 0
     have hfz11_1 := blk_frozen BK559.out 1
     go_upto_if 30 with (first | ((with_reducible refine gate_callee (f := 10) rfl ?_); refine goesM_ (some 28) rfl rfl Try.func10 (by kernel_rfl) rfl #[.agg #[.int .i64 a0_0, .slice A0_1 l0_1.length c0_1], .int .i64 1048576] rfl ?_; (with_reducible refine (laws_szGraph.calls a0_0 _ _ l0_1 1048576 t560 _ ?side1 ?side2 A9.out).mono ?_); (case side1 => exact Cz ((Kd.C_below HR0_1.out HB.out))); (case side2 => exact HC0_1.out); rintro e w12 ⟨rfl, hb⟩; refine ⟨_, rfl, ?_⟩; replace BK559 := Aside0.mk (blk_below (g := gb559) (o := .cells #[.int .i64 a0_0, .slice A0_1 l0_1.length c0_1] 24 (0, 0)) (Bz BK559) hb); replace HB := Aside0.mk (below_step (by exact Lz1 HB GE559) hb); (try clear hb); (try clear hb2); (try clear hk); (try clear hi)))
     (try simp only [Act.put, List.setIfInBounds_toArray, List.set_cons_zero, List.set_cons_succ])
     go_cut [] (fun wc => ∃ (kq : Nat), Aside0 (laws_FnExactScriptBetween.j2 kq l1 l2 a0_0 l0_1 = some r) ∧ Aside0 (kq ≤ kj6) ∧ Aside0 (wc.heap[gb559]? = some (.cells #[.int .i64 a0_0, (.slice A0_1 l0_1.length c0_1)] 24 (0, 0))) ∧ Aside0 (Below w.heap.size w wc))
     case first =>
      have H := HC10.out
      clear HC10
      by_cases c13 : t560 < 0
      ·rw [if_pos c13] at H
       have c13b0 : decide (t560 < 0) = true := decide_eq_true c13
       clear c13
       (first | rw [c13b0] | (simp only [i64_w, i32_w]; rw [c13b0]) | skip)
       obtain rfl := Option.some.inj H
       go_wp2
       go_ret
       exact ⟨by first | rfl | (simp [errW_none, errW_some] <;> rfl) | (simp [*, errW_none, errW_some] <;> rfl), by exact Lz1 HB GE559⟩
      rw [if_neg c13] at H
      have c13b0 : decide (t560 < 0) = false := decide_eq_false c13
      clear c13
      (first | rw [c13b0] | (simp only [i64_w, i32_w]; rw [c13b0]) | skip)
      have H' := Aside0.mk H
      clear H
      go_wp2
      go_meet
      case rel => exact ⟨_, H', ⟨by have := HJ3.out; have := HJ6.out; first | omega | exact Nat.le_refl _⟩, ⟨by exact Bz BK559⟩, ⟨by exact Lz1 HB GE559⟩⟩
     case rest =>
      clear HC10
      try clear c1
      try clear c2
      try clear c6
      try clear c6b0
      try clear c6b1
      try clear c8
      try clear c8b0
      try clear c8b1
      try clear c13
      try clear c13b0
      obtain ⟨kq, HA, HJ9, BK559, HB⟩ := hcut
      cases kq with
      | zero => exact absurd HA.out (by simp [laws_FnExactScriptBetween.j2])
      | succ kj9 =>
       have H := HA.out
       clear HA
       simp only [laws_FnExactScriptBetween.j2] at H
       replace H := Option.bind_eq_some_iff.mp H
       obtain ⟨⟨t561, t562⟩, A140, H⟩ := H
       replace H : ((laws_toIntS.f kj9 l1).bind fun t565 => ((laws_toIntS.f kj9 l2).bind fun t568 => ((spec_ScriptBetween.f kj9 t561 t562 t565 t568).bind fun bt571 => ((laws_toGraph.f kj9 a0_0 l0_1).bind fun bt575 => ((laws_toIntS.f kj9 l1).bind fun t580 => ((laws_toIntS.f kj9 l2).bind fun t583 => ((impl_ScriptBetween.f kj9 bt575.1 bt575.2 t580 t583).bind fun bt586 => ((laws_eqIntS.f kj9 bt586.1 bt571.1).bind fun t590 => (if t590 = true then (laws_FnExactScriptBetween.j3 kj9 l1 l2 bt571.1 bt571.2 t580 t583 bt586.1 bt586.2 (bt586.2 != bt571.2) a0_0 l0_1 bt575.1 bt575.2) else (laws_FnExactScriptBetween.j3 kj9 l1 l2 bt571.1 bt571.2 t580 t583 bt586.1 bt586.2 true a0_0 l0_1 bt575.1 bt575.2)))))))))) = some r := H
       have A14 := Aside0.mk A140
       clear A140
       replace H := Option.bind_eq_some_iff.mp H
       obtain ⟨t565, A150, H⟩ := H
       replace H : ((laws_toIntS.f kj9 l2).bind fun t568 => ((spec_ScriptBetween.f kj9 t561 t562 t565 t568).bind fun bt571 => ((laws_toGraph.f kj9 a0_0 l0_1).bind fun bt575 => ((laws_toIntS.f kj9 l1).bind fun t580 => ((laws_toIntS.f kj9 l2).bind fun t583 => ((impl_ScriptBetween.f kj9 bt575.1 bt575.2 t580 t583).bind fun bt586 => ((laws_eqIntS.f kj9 bt586.1 bt571.1).bind fun t590 => (if t590 = true then (laws_FnExactScriptBetween.j3 kj9 l1 l2 bt571.1 bt571.2 t580 t583 bt586.1 bt586.2 (bt586.2 != bt571.2) a0_0 l0_1 bt575.1 bt575.2) else (laws_FnExactScriptBetween.j3 kj9 l1 l2 bt571.1 bt571.2 t580 t583 bt586.1 bt586.2 true a0_0 l0_1 bt575.1 bt575.2))))))))) = some r := H
       have A15 := Aside0.mk A150
       clear A150
       replace H := Option.bind_eq_some_iff.mp H
       obtain ⟨t568, A160, H⟩ := H
       replace H : ((spec_ScriptBetween.f kj9 t561 t562 t565 t568).bind fun bt571 => ((laws_toGraph.f kj9 a0_0 l0_1).bind fun bt575 => ((laws_toIntS.f kj9 l1).bind fun t580 => ((laws_toIntS.f kj9 l2).bind fun t583 => ((impl_ScriptBetween.f kj9 bt575.1 bt575.2 t580 t583).bind fun bt586 => ((laws_eqIntS.f kj9 bt586.1 bt571.1).bind fun t590 => (if t590 = true then (laws_FnExactScriptBetween.j3 kj9 l1 l2 bt571.1 bt571.2 t580 t583 bt586.1 bt586.2 (bt586.2 != bt571.2) a0_0 l0_1 bt575.1 bt575.2) else (laws_FnExactScriptBetween.j3 kj9 l1 l2 bt571.1 bt571.2 t580 t583 bt586.1 bt586.2 true a0_0 l0_1 bt575.1 bt575.2)))))))) = some r := H
       have A16 := Aside0.mk A160
       clear A160
       replace H := Option.bind_eq_some_iff.mp H
       obtain ⟨⟨t571, t574⟩, A170, H⟩ := H
       replace H : ((laws_toGraph.f kj9 a0_0 l0_1).bind fun bt575 => ((laws_toIntS.f kj9 l1).bind fun t580 => ((laws_toIntS.f kj9 l2).bind fun t583 => ((impl_ScriptBetween.f kj9 bt575.1 bt575.2 t580 t583).bind fun bt586 => ((laws_eqIntS.f kj9 bt586.1 t571).bind fun t590 => (if t590 = true then (laws_FnExactScriptBetween.j3 kj9 l1 l2 t571 t574 t580 t583 bt586.1 bt586.2 (bt586.2 != t574) a0_0 l0_1 bt575.1 bt575.2) else (laws_FnExactScriptBetween.j3 kj9 l1 l2 t571 t574 t580 t583 bt586.1 bt586.2 true a0_0 l0_1 bt575.1 bt575.2))))))) = some r := H
       have A17 := Aside0.mk A170
       clear A170
       replace H := Option.bind_eq_some_iff.mp H
       obtain ⟨⟨t575, t576⟩, A180, H⟩ := H
       replace H : ((laws_toIntS.f kj9 l1).bind fun t580 => ((laws_toIntS.f kj9 l2).bind fun t583 => ((impl_ScriptBetween.f kj9 t575 t576 t580 t583).bind fun bt586 => ((laws_eqIntS.f kj9 bt586.1 t571).bind fun t590 => (if t590 = true then (laws_FnExactScriptBetween.j3 kj9 l1 l2 t571 t574 t580 t583 bt586.1 bt586.2 (bt586.2 != t574) a0_0 l0_1 t575 t576) else (laws_FnExactScriptBetween.j3 kj9 l1 l2 t571 t574 t580 t583 bt586.1 bt586.2 true a0_0 l0_1 t575 t576)))))) = some r := H
       have A18 := Aside0.mk A180
       clear A180
       replace H := Option.bind_eq_some_iff.mp H
       obtain ⟨t580, A190, H⟩ := H
       replace H : ((laws_toIntS.f kj9 l2).bind fun t583 => ((impl_ScriptBetween.f kj9 t575 t576 t580 t583).bind fun bt586 => ((laws_eqIntS.f kj9 bt586.1 t571).bind fun t590 => (if t590 = true then (laws_FnExactScriptBetween.j3 kj9 l1 l2 t571 t574 t580 t583 bt586.1 bt586.2 (bt586.2 != t574) a0_0 l0_1 t575 t576) else (laws_FnExactScriptBetween.j3 kj9 l1 l2 t571 t574 t580 t583 bt586.1 bt586.2 true a0_0 l0_1 t575 t576))))) = some r := H
       have A19 := Aside0.mk A190
       clear A190
       replace H := Option.bind_eq_some_iff.mp H
       obtain ⟨t583, A200, H⟩ := H
       replace H : ((impl_ScriptBetween.f kj9 t575 t576 t580 t583).bind fun bt586 => ((laws_eqIntS.f kj9 bt586.1 t571).bind fun t590 => (if t590 = true then (laws_FnExactScriptBetween.j3 kj9 l1 l2 t571 t574 t580 t583 bt586.1 bt586.2 (bt586.2 != t574) a0_0 l0_1 t575 t576) else (laws_FnExactScriptBetween.j3 kj9 l1 l2 t571 t574 t580 t583 bt586.1 bt586.2 true a0_0 l0_1 t575 t576)))) = some r := H
       have A20 := Aside0.mk A200
       clear A200
       replace H := Option.bind_eq_some_iff.mp H
       obtain ⟨⟨t586, t589⟩, A210, H⟩ := H
       replace H : ((laws_eqIntS.f kj9 t586 t571).bind fun t590 => (if t590 = true then (laws_FnExactScriptBetween.j3 kj9 l1 l2 t571 t574 t580 t583 t586 t589 (t589 != t574) a0_0 l0_1 t575 t576) else (laws_FnExactScriptBetween.j3 kj9 l1 l2 t571 t574 t580 t583 t586 t589 true a0_0 l0_1 t575 t576))) = some r := H
       have A21 := Aside0.mk A210
       clear A210
       have HC22 := Aside0.mk H
       clear H
       have hcz23_0 : wc.cell? ⟨gb559, 0, none⟩ = some (.int .i64 a0_0) := (blk_cell BK559.out 0).trans rfl
       have hcz23_1 : wc.cell? ⟨gb559, 1, none⟩ = some (.slice A0_1 l0_1.length c0_1) := (blk_cell BK559.out 1).trans rfl
       have hfz23_0 := blk_frozen BK559.out 0
       have hfz23_1 := blk_frozen BK559.out 1
       go_upto_region 14 with (first | ((with_reducible refine gate_callee (f := 12) rfl ?_); refine goesM_ (some 33) rfl rfl Try.func12 (by kernel_rfl) rfl #[.agg #[.int .i64 a0_0, .slice A0_1 l0_1.length c0_1]] rfl ?_; (with_reducible refine (laws_toGraph.calls kj9 a0_0 _ _ l0_1 t561 t562 _ ?side1 ?side2 A14.out).mono ?_); (case side1 => exact Cz ((Kd.C_below HR0_1.out HB.out))); (case side2 => exact HC0_1.out); rintro e w24 ⟨v563, rfl, ho0, hb⟩; refine ⟨_, rfl, ?_⟩; have HO564 := Aside0.mk (Kd.R_lower ho0 (below_size (by exact Lz1 HB GE559))); replace BK559 := Aside0.mk (blk_below (g := gb559) (o := .cells #[.int .i64 a0_0, .slice A0_1 l0_1.length c0_1] 24 (0, 0)) (Bz BK559) hb); replace HB := Aside0.mk (below_step (by exact Lz1 HB GE559) hb); (try clear hb); (try clear ho0)) | ((with_reducible refine gate_callee (f := 13) rfl ?_); refine goesM_ (some 35) rfl rfl Try.func13 (by kernel_rfl) rfl #[.slice A1 l1.length c1] rfl ?_; (with_reducible refine (laws_toIntS.calls kj9 _ _ l1 t565 _ ?side1 ?side2 A15.out).mono ?_); (case side1 => exact Cz ((Kd.C_below HR1.out HB.out))); (case side2 => exact HC1.out); rintro e w25 ⟨v566, rfl, ho0, hb⟩; refine ⟨_, rfl, ?_⟩; replace HO564 := Aside0.mk (Kd.R_below (Rz HO564) hb); have HO567 := Aside0.mk (Kd.R_lower ho0 (below_size (by exact Lz1 HB GE559))); replace BK559 := Aside0.mk (blk_below (g := gb559) (o := .cells #[.int .i64 a0_0, .slice A0_1 l0_1.length c0_1] 24 (0, 0)) (Bz BK559) hb); replace HB := Aside0.mk (below_step (by exact Lz1 HB GE559) hb); (try clear hb); (try clear ho0)) | ((with_reducible refine gate_callee (f := 13) rfl ?_); refine goesM_ (some 37) rfl rfl Try.func13 (by kernel_rfl) rfl #[.slice A2 l2.length c2] rfl ?_; (with_reducible refine (laws_toIntS.calls kj9 _ _ l2 t568 _ ?side1 ?side2 A16.out).mono ?_); (case side1 => exact Cz ((Kd.C_below HR2.out HB.out))); (case side2 => exact HC2.out); rintro e w26 ⟨v569, rfl, ho0, hb⟩; refine ⟨_, rfl, ?_⟩; replace HO564 := Aside0.mk (Kd.R_below (Rz HO564) hb); have HO570 := Aside0.mk (Kd.R_lower (Kd.R_new' ho0 (Kd.R_lt (Rz HO567))) (below_size (by exact Lz1 HB GE559))); replace HO567 := Aside0.mk (Kd.R_elder' (Rz HO567) (Kd.R_base ho0) hb); replace BK559 := Aside0.mk (blk_below (g := gb559) (o := .cells #[.int .i64 a0_0, .slice A0_1 l0_1.length c0_1] 24 (0, 0)) (Bz BK559) hb); replace HB := Aside0.mk (below_step (by exact Lz1 HB GE559) hb); (try clear hb); (try clear ho0); obtain ⟨Ao27, co27, eo27⟩ := Kd.R_slice HO564.out; subst eo27; obtain ⟨Ao28, co28, eo28⟩ := Kd.R_slice HO567.out; subst eo28; obtain ⟨Ao29, co29, eo29⟩ := Kd.R_slice HO570.out; subst eo29) | ((with_reducible refine gate_callee (f := 20) rfl ?_); refine goesM_ (some 38) rfl rfl Try.func20 (by kernel_rfl) rfl #[.agg #[.int .i64 t561, .slice Ao27 t562.length co27], .slice Ao28 t565.length co28, .slice Ao29 t568.length co29] rfl ?_; (with_reducible refine (spec_ScriptBetween.calls kj9 t561 _ _ t562 _ _ t565 _ _ t568 t571 t574 _ ?side1 ?side2 ?side3 ?side4 ?side5 ?side6 A17.out).mono ?_); (case side1 => exact Cz ((Kd.R_reads' HO564.out).2.2)); (case side2 => exact (Kd.R_reads' HO564.out).2.1); (case side3 => exact Cz ((Kd.R_reads' HO567.out).2.2)); (case side4 => exact (Kd.R_reads' HO567.out).2.1); (case side5 => exact Cz ((Kd.R_reads' HO570.out).2.2)); (case side6 => exact (Kd.R_reads' HO570.out).2.1); rintro e w30 ⟨v572, rfl, ho0, hb⟩; refine ⟨_, rfl, ?_⟩; replace HO564 := Aside0.mk (Kd.R_below (Rz HO564) hb); have HO573 := Aside0.mk (Kd.R_lower (Kd.R_new' (Kd.R_new' ho0 (Kd.R_lt (Rz HO567))) (Kd.R_lt (Rz HO570))) (below_size (by exact Lz1 HB GE559))); replace HO567 := Aside0.mk (Kd.R_elder' (Rz HO567) (Kd.R_base ho0) hb); replace HO570 := Aside0.mk (Kd.R_elder' (Rz HO570) (Kd.R_base ho0) hb); replace BK559 := Aside0.mk (blk_below (g := gb559) (o := .cells #[.int .i64 a0_0, .slice A0_1 l0_1.length c0_1] 24 (0, 0)) (Bz BK559) hb); replace HB := Aside0.mk (below_step (by exact Lz1 HB GE559) hb); (try clear hb); (try clear ho0); have hcz31_0 : w30.cell? ⟨gb559, 0, none⟩ = some (.int .i64 a0_0) := (blk_cell BK559.out 0).trans rfl; have hcz31_1 : w30.cell? ⟨gb559, 1, none⟩ = some (.slice A0_1 l0_1.length c0_1) := (blk_cell BK559.out 1).trans rfl; have hfz31_0 := blk_frozen BK559.out 0; have hfz31_1 := blk_frozen BK559.out 1) | ((with_reducible refine gate_callee (f := 12) rfl ?_); refine goesM_ (some 42) rfl rfl Try.func12 (by kernel_rfl) rfl #[.agg #[.int .i64 a0_0, .slice A0_1 l0_1.length c0_1]] rfl ?_; (with_reducible refine (laws_toGraph.calls kj9 a0_0 _ _ l0_1 t575 t576 _ ?side1 ?side2 A18.out).mono ?_); (case side1 => exact Cz ((Kd.C_below HR0_1.out HB.out))); (case side2 => exact HC0_1.out); rintro e w32 ⟨v577, rfl, ho0, hb⟩; refine ⟨_, rfl, ?_⟩; replace HO567 := Aside0.mk (Kd.R_below (Rz HO567) hb); replace HO570 := Aside0.mk (Kd.R_below (Rz HO570) hb); replace HO573 := Aside0.mk (Kd.R_below (Rz HO573) hb); have HO578 := Aside0.mk (Kd.R_lower (Kd.R_new' ho0 (Kd.R_lt (Rz HO564))) (below_size (by exact Lz1 HB GE559))); replace HO564 := Aside0.mk (Kd.R_elder' (Rz HO564) (Kd.R_base ho0) hb); replace BK559 := Aside0.mk (blk_below (g := gb559) (o := .cells #[.int .i64 a0_0, .slice A0_1 l0_1.length c0_1] 24 (0, 0)) (Bz BK559) hb); replace HB := Aside0.mk (below_step (by exact Lz1 HB GE559) hb); (try clear hb); (try clear ho0)) | ((with_reducible refine gate_dst (N := 10) rfl ?_); refine box_event ?hg (N := 10) ?hd (cs := #[.int .i64 0, .slice none 0 0]) (t := 31) ?hr ?_; (case hd => rfl); (case hg => rfl); (case hr => first | (go_simp; done) | (go_simp; rfl)); intro gb579 hg w33 hbox hb; replace HO564 := Aside0.mk (Kd.R_below (Rz HO564) hb); replace HO567 := Aside0.mk (Kd.R_below (Rz HO567) hb); replace HO570 := Aside0.mk (Kd.R_below (Rz HO570) hb); replace HO573 := Aside0.mk (Kd.R_below (Rz HO573) hb); replace HO578 := Aside0.mk (Kd.R_below (Rz HO578) hb); have BK579 := Aside0.mk (hbox); have GW579 := Aside0.mk ((by rw [hg]; exact (below_size (by exact Lz1 HB GE559)) : w.heap.size ≤ gb579)); have GE579 := Aside0.mk ((by rw [hg]; exact (below_size (by exact Lz1 HB GE559)) : w.heap.size ≤ gb579)); replace HB := Aside0.mk (below_step (by exact Lz1 HB GE559) hb); have NB559_579 := Aside0.mk ((by rw [hg]; exact Nat.ne_of_lt (blk_lt (g := gb559) (o := .cells #[.int .i64 a0_0, .slice A0_1 l0_1.length c0_1] 24 (0, 0)) (Bz BK559)) : gb559 ≠ gb579)); have NB579_559 := Aside0.mk ((by rw [hg]; exact Nat.ne_of_gt (blk_lt (g := gb559) (o := .cells #[.int .i64 a0_0, .slice A0_1 l0_1.length c0_1] 24 (0, 0)) (Bz BK559)) : gb579 ≠ gb559)); replace BK559 := Aside0.mk (blk_below (g := gb559) (o := .cells #[.int .i64 a0_0, .slice A0_1 l0_1.length c0_1] 24 (0, 0)) (Bz BK559) hb); clear hb hbox hg; have hnb34 := NB579_559.out; have hnc34 := NB559_579.out; have hcz35_0 : w33.cell? ⟨gb579, 0, none⟩ = some (.int .i64 0) := (blk_cell BK579.out 0).trans rfl; have hcz35_1 : w33.cell? ⟨gb579, 1, none⟩ = some (.slice none 0 0) := (blk_cell BK579.out 1).trans rfl; have hfz35_0 := blk_frozen BK579.out 0; have hfz35_1 := blk_frozen BK579.out 1; obtain ⟨Ao36, co36, eo36⟩ := Kd.R_slice HO578.out; subst eo36) | ((with_reducible refine gate_callee (f := 13) rfl ?_); refine goesM_ (some 44) rfl rfl Try.func13 (by kernel_rfl) rfl #[.slice A1 l1.length c1] rfl ?_; (with_reducible refine (laws_toIntS.calls kj9 _ _ l1 t580 _ ?side1 ?side2 A19.out).mono ?_); (case side1 => exact Kd.C_below HR1.out (by exact Lz2 HB GE559 GE579)); (case side2 => exact HC1.out); rintro e w37 ⟨v581, rfl, ho0, hb⟩; refine ⟨_, rfl, ?_⟩; replace HO564 := Aside0.mk (Kd.R_below (by (with_reducible repeat (first | apply Kd.R_alloc | apply Kd.R_drewN | apply Kd.R_drew)); exact (Kd.R_mono (Kd.R_far (p := ⟨gb579, 1, none⟩) (Kd.R_far (p := ⟨gb579, 0, none⟩) (Kd.R_types HO564.out BK579.out (by decide)) (fun _ hk => hk.2) (.int .i64 t575)) (fun _ hk => hk.2) (.slice Ao36 t576.length co36)) (fun _ h_ => h_.1))) hb); replace HO578 := Aside0.mk (Kd.R_below (by (with_reducible repeat (first | apply Kd.R_alloc | apply Kd.R_drewN | apply Kd.R_drew)); exact (Kd.R_mono (Kd.R_far (p := ⟨gb579, 1, none⟩) (Kd.R_far (p := ⟨gb579, 0, none⟩) (Kd.R_types HO578.out BK579.out (by decide)) (fun _ hk => hk.2) (.int .i64 t575)) (fun _ hk => hk.2) (.slice Ao36 t576.length co36)) (fun _ h_ => h_.1))) hb); have HO582 := Aside0.mk (Kd.R_lower (Kd.R_new' (Kd.R_new' (Kd.R_new' ho0 (Kd.R_lt (by (with_reducible repeat (first | apply Kd.R_alloc | apply Kd.R_drewN | apply Kd.R_drew)); exact (Kd.R_mono (Kd.R_far (p := ⟨gb579, 1, none⟩) (Kd.R_far (p := ⟨gb579, 0, none⟩) (Kd.R_types HO567.out BK579.out (by decide)) (fun _ hk => hk.2) (.int .i64 t575)) (fun _ hk => hk.2) (.slice Ao36 t576.length co36)) (fun _ h_ => h_.1))))) (Kd.R_lt (by (with_reducible repeat (first | apply Kd.R_alloc | apply Kd.R_drewN | apply Kd.R_drew)); exact (Kd.R_mono (Kd.R_far (p := ⟨gb579, 1, none⟩) (Kd.R_far (p := ⟨gb579, 0, none⟩) (Kd.R_types HO570.out BK579.out (by decide)) (fun _ hk => hk.2) (.int .i64 t575)) (fun _ hk => hk.2) (.slice Ao36 t576.length co36)) (fun _ h_ => h_.1))))) (Kd.R_lt (by (with_reducible repeat (first | apply Kd.R_alloc | apply Kd.R_drewN | apply Kd.R_drew)); exact (Kd.R_mono (Kd.R_far (p := ⟨gb579, 1, none⟩) (Kd.R_far (p := ⟨gb579, 0, none⟩) (Kd.R_types HO573.out BK579.out (by decide)) (fun _ hk => hk.2) (.int .i64 t575)) (fun _ hk => hk.2) (.slice Ao36 t576.length co36)) (fun _ h_ => h_.1))))) (below_size (by exact Lz2 HB GE559 GE579))); replace HO567 := Aside0.mk (Kd.R_elder' (by (with_reducible repeat (first | apply Kd.R_alloc | apply Kd.R_drewN | apply Kd.R_drew)); exact (Kd.R_mono (Kd.R_far (p := ⟨gb579, 1, none⟩) (Kd.R_far (p := ⟨gb579, 0, none⟩) (Kd.R_types HO567.out BK579.out (by decide)) (fun _ hk => hk.2) (.int .i64 t575)) (fun _ hk => hk.2) (.slice Ao36 t576.length co36)) (fun _ h_ => h_.1))) (Kd.R_base ho0) hb); replace HO570 := Aside0.mk (Kd.R_elder' (by (with_reducible repeat (first | apply Kd.R_alloc | apply Kd.R_drewN | apply Kd.R_drew)); exact (Kd.R_mono (Kd.R_far (p := ⟨gb579, 1, none⟩) (Kd.R_far (p := ⟨gb579, 0, none⟩) (Kd.R_types HO570.out BK579.out (by decide)) (fun _ hk => hk.2) (.int .i64 t575)) (fun _ hk => hk.2) (.slice Ao36 t576.length co36)) (fun _ h_ => h_.1))) (Kd.R_base ho0) hb); replace HO573 := Aside0.mk (Kd.R_elder' (by (with_reducible repeat (first | apply Kd.R_alloc | apply Kd.R_drewN | apply Kd.R_drew)); exact (Kd.R_mono (Kd.R_far (p := ⟨gb579, 1, none⟩) (Kd.R_far (p := ⟨gb579, 0, none⟩) (Kd.R_types HO573.out BK579.out (by decide)) (fun _ hk => hk.2) (.int .i64 t575)) (fun _ hk => hk.2) (.slice Ao36 t576.length co36)) (fun _ h_ => h_.1))) (Kd.R_base ho0) hb); replace BK559 := Aside0.mk (blk_below (g := gb559) (o := .cells #[.int .i64 a0_0, .slice A0_1 l0_1.length c0_1] 24 (0, 0)) (by (with_reducible repeat (first | refine blk_drewN ?_ _ | refine blk_drew ?_ | refine blk_alloc ?_ _)); refine blk_far ?_ NB559_579.out _; (with_reducible repeat (first | refine blk_drewN ?_ _ | refine blk_drew ?_ | refine blk_alloc ?_ _)); refine blk_far ?_ NB559_579.out _; exact Bz BK559) hb); replace BK579 := Aside0.mk (blk_below (g := gb579) (o := .cells #[.int .i64 t575, .slice Ao36 t576.length co36] 31 (0, 0)) (by (with_reducible repeat (first | refine blk_drewN ?_ _ | refine blk_drew ?_ | refine blk_alloc ?_ _)); refine blk_put (cs := #[.int .i64 t575, .slice none 0 0]) ?_ 1 _ rfl; (with_reducible repeat (first | refine blk_drewN ?_ _ | refine blk_drew ?_ | refine blk_alloc ?_ _)); refine blk_put (cs := #[.int .i64 0, .slice none 0 0]) ?_ 0 _ rfl; exact Bz BK579) hb); replace HB := Aside0.mk (below_step (by exact Lz2 HB GE559 GE579) hb); (try clear hb); (try clear ho0)) | ((with_reducible refine gate_callee (f := 13) rfl ?_); refine goesM_ (some 46) rfl rfl Try.func13 (by kernel_rfl) rfl #[.slice A2 l2.length c2] rfl ?_; (with_reducible refine (laws_toIntS.calls kj9 _ _ l2 t583 _ ?side1 ?side2 A20.out).mono ?_); (case side1 => exact Cz ((Kd.C_below HR2.out HB.out))); (case side2 => exact HC2.out); rintro e w38 ⟨v584, rfl, ho0, hb⟩; refine ⟨_, rfl, ?_⟩; replace HO564 := Aside0.mk (Kd.R_below (Rz HO564) hb); replace HO578 := Aside0.mk (Kd.R_below (Rz HO578) hb); have HO585 := Aside0.mk (Kd.R_lower (Kd.R_new' (Kd.R_new' (Kd.R_new' (Kd.R_new' ho0 (Kd.R_lt (Rz HO567))) (Kd.R_lt (Rz HO570))) (Kd.R_lt (Rz HO573))) (Kd.R_lt (Rz HO582))) (below_size (by exact Lz2 HB GE559 GE579))); replace HO567 := Aside0.mk (Kd.R_elder' (Rz HO567) (Kd.R_base ho0) hb); replace HO570 := Aside0.mk (Kd.R_elder' (Rz HO570) (Kd.R_base ho0) hb); replace HO573 := Aside0.mk (Kd.R_elder' (Rz HO573) (Kd.R_base ho0) hb); replace HO582 := Aside0.mk (Kd.R_elder' (Rz HO582) (Kd.R_base ho0) hb); replace BK559 := Aside0.mk (blk_below (g := gb559) (o := .cells #[.int .i64 a0_0, .slice A0_1 l0_1.length c0_1] 24 (0, 0)) (Bz BK559) hb); replace BK579 := Aside0.mk (blk_below (g := gb579) (o := .cells #[.int .i64 t575, .slice Ao36 t576.length co36] 31 (0, 0)) (Bz BK579) hb); replace HB := Aside0.mk (below_step (by exact Lz2 HB GE559 GE579) hb); (try clear hb); (try clear ho0); have hcz39_0 : w38.cell? ⟨gb579, 0, none⟩ = some (.int .i64 t575) := (blk_cell BK579.out 0).trans rfl; have hcz39_1 : w38.cell? ⟨gb579, 1, none⟩ = some (.slice Ao36 t576.length co36) := (blk_cell BK579.out 1).trans rfl; have hfz39_0 := blk_frozen BK579.out 0; have hfz39_1 := blk_frozen BK579.out 1; obtain ⟨Ao40, co40, eo40⟩ := Kd.R_slice HO582.out; subst eo40; obtain ⟨Ao41, co41, eo41⟩ := Kd.R_slice HO585.out; subst eo41) | ((with_reducible refine gate_callee (f := 21) rfl ?_); refine goesM_ (some 51) rfl rfl Try.func21 (by kernel_rfl) rfl #[.agg #[.int .i64 t575, .slice Ao36 t576.length co36], .slice Ao40 t580.length co40, .slice Ao41 t583.length co41] rfl ?_; (with_reducible refine (impl_ScriptBetween.calls kj9 t575 _ _ t576 _ _ t580 _ _ t583 t586 t589 _ ?side1 ?side2 ?side3 ?side4 ?side5 ?side6 A21.out).mono ?_); (case side1 => exact Cz ((Kd.R_reads' HO578.out).2.2)); (case side2 => exact (Kd.R_reads' HO578.out).2.1); (case side3 => exact Cz ((Kd.R_reads' HO582.out).2.2)); (case side4 => exact (Kd.R_reads' HO582.out).2.1); (case side5 => exact Cz ((Kd.R_reads' HO585.out).2.2)); (case side6 => exact (Kd.R_reads' HO585.out).2.1); rintro e w42 ⟨v587, rfl, ho0, hb⟩; refine ⟨_, rfl, ?_⟩; replace HO564 := Aside0.mk (Kd.R_below (Rz HO564) hb); replace HO578 := Aside0.mk (Kd.R_below (Rz HO578) hb); have HO588 := Aside0.mk (Kd.R_lower (Kd.R_new' (Kd.R_new' (Kd.R_new' (Kd.R_new' (Kd.R_new' ho0 (Kd.R_lt (Rz HO567))) (Kd.R_lt (Rz HO570))) (Kd.R_lt (Rz HO573))) (Kd.R_lt (Rz HO582))) (Kd.R_lt (Rz HO585))) (below_size (by exact Lz2 HB GE559 GE579))); replace HO567 := Aside0.mk (Kd.R_elder' (Rz HO567) (Kd.R_base ho0) hb); replace HO570 := Aside0.mk (Kd.R_elder' (Rz HO570) (Kd.R_base ho0) hb); replace HO573 := Aside0.mk (Kd.R_elder' (Rz HO573) (Kd.R_base ho0) hb); replace HO582 := Aside0.mk (Kd.R_elder' (Rz HO582) (Kd.R_base ho0) hb); replace HO585 := Aside0.mk (Kd.R_elder' (Rz HO585) (Kd.R_base ho0) hb); replace BK559 := Aside0.mk (blk_below (g := gb559) (o := .cells #[.int .i64 a0_0, .slice A0_1 l0_1.length c0_1] 24 (0, 0)) (Bz BK559) hb); replace BK579 := Aside0.mk (blk_below (g := gb579) (o := .cells #[.int .i64 t575, .slice Ao36 t576.length co36] 31 (0, 0)) (Bz BK579) hb); replace HB := Aside0.mk (below_step (by exact Lz2 HB GE559 GE579) hb); (try clear hb); (try clear ho0)))
       (try simp only [Act.put, List.setIfInBounds_toArray, List.set_cons_zero, List.set_cons_succ])
       go_cut [62] (fun v62 wc => ∃ (kq : Nat) (x62_21 : Bool), v62 = .bool x62_21 ∧ Aside0 (laws_FnExactScriptBetween.j3 kq l1 l2 t571 t574 t580 t583 t586 t589 x62_21 a0_0 l0_1 t575 t576 = some r) ∧ Aside0 (kq ≤ kj9) ∧ Aside0 (Kd.R (Kd.int .i64) 3 wc w.heap.size (fun k_ => some k_ ≠ ((.slice Ao40 t580.length co40) : Value).ownBlock ∧ some k_ ≠ ((.slice Ao41 t583.length co41) : Value).ownBlock ∧ some k_ ≠ (v587 : Value).ownBlock) v572 t571) ∧ Aside0 (Kd.R (Kd.int .i64) 3 wc w.heap.size (fun k_ => some k_ ≠ (v572 : Value).ownBlock ∧ some k_ ≠ ((.slice Ao41 t583.length co41) : Value).ownBlock ∧ some k_ ≠ (v587 : Value).ownBlock) (.slice Ao40 t580.length co40) t580) ∧ Aside0 (Kd.R (Kd.int .i64) 3 wc w.heap.size (fun k_ => some k_ ≠ (v572 : Value).ownBlock ∧ some k_ ≠ ((.slice Ao40 t580.length co40) : Value).ownBlock ∧ some k_ ≠ (v587 : Value).ownBlock) (.slice Ao41 t583.length co41) t583) ∧ Aside0 (Kd.R (Kd.int .i64) 3 wc w.heap.size (fun k_ => some k_ ≠ (v572 : Value).ownBlock ∧ some k_ ≠ ((.slice Ao40 t580.length co40) : Value).ownBlock ∧ some k_ ≠ ((.slice Ao41 t583.length co41) : Value).ownBlock) v587 t586) ∧ Aside0 (Kd.R k67 67 wc w.heap.size (fun _ => True) (.slice Ao36 t576.length co36) t576) ∧ Aside0 (wc.heap[gb559]? = some (.cells #[.int .i64 a0_0, (.slice A0_1 l0_1.length c0_1)] 24 (0, 0))) ∧ Aside0 (wc.heap[gb579]? = some (.cells #[.int .i64 t575, (.slice Ao36 t576.length co36)] 31 (0, 0))) ∧ Aside0 (Below w.heap.size w wc))
       case first =>
        have H := HC22.out
        clear HC22
        replace H := Option.bind_eq_some_iff.mp H
        obtain ⟨t590, A430, H⟩ := H
        replace H : (if t590 = true then (laws_FnExactScriptBetween.j3 kj9 l1 l2 t571 t574 t580 t583 t586 t589 (t589 != t574) a0_0 l0_1 t575 t576) else (laws_FnExactScriptBetween.j3 kj9 l1 l2 t571 t574 t580 t583 t586 t589 true a0_0 l0_1 t575 t576)) = some r := H
        have A43 := Aside0.mk A430
        clear A430
        by_cases c44 : t590 = true
        ·subst c44
         have H1 : (laws_FnExactScriptBetween.j3 kj9 l1 l2 t571 t574 t580 t583 t586 t589 (t589 != t574) a0_0 l0_1 t575 t576) = some r := by rw [if_pos rfl] at H; exact H
         clear H
         have H := H1
         clear H1
         have H' := Aside0.mk H
         clear H
         obtain ⟨Ao45, co45, eo45⟩ := Kd.R_slice HO588.out
         subst eo45
         obtain ⟨Ao46, co46, eo46⟩ := Kd.R_slice HO573.out
         subst eo46
         go_wp2_with (first | ((with_reducible refine gate_callee (f := 15) rfl ?_); refine goesM_ (some 56) rfl rfl Try.func15 (by kernel_rfl) rfl #[.slice Ao45 t586.length co45, .slice Ao46 t571.length co46] rfl ?_; (with_reducible refine (laws_eqIntS.calls kj9 _ _ t586 _ _ t571 true _ ?side1 ?side2 ?side3 ?side4 A43.out).mono ?_); (case side1 => exact Cz ((Kd.R_reads' HO588.out).2.2)); (case side2 => exact (Kd.R_reads' HO588.out).2.1); (case side3 => exact Cz ((Kd.R_reads' HO573.out).2.2)); (case side4 => exact (Kd.R_reads' HO573.out).2.1); rintro e w' ⟨rfl, ⟨nd, rfl⟩⟩; refine ⟨_, rfl, ?_⟩))
         go_meet
         case rel => exact ⟨_, ((t589 != t574)), (by first | rfl | (simp; done) | (simp [*]; done)), H', ⟨by have := HJ3.out; have := HJ6.out; have := HJ9.out; first | omega | exact Nat.le_refl _⟩, ⟨by (with_reducible repeat (first | apply Kd.R_alloc | apply Kd.R_drewN | apply Kd.R_drew)); exact Kd.R_mono HO573.out (fun _ hk => ⟨hk.1.1.2, ⟨hk.1.2, hk.2⟩⟩)⟩, ⟨by (with_reducible repeat (first | apply Kd.R_alloc | apply Kd.R_drewN | apply Kd.R_drew)); exact Kd.R_mono HO582.out (fun _ hk => ⟨hk.1.1.2, ⟨hk.1.2, hk.2⟩⟩)⟩, ⟨by (with_reducible repeat (first | apply Kd.R_alloc | apply Kd.R_drewN | apply Kd.R_drew)); exact Kd.R_mono HO585.out (fun _ hk => ⟨hk.1.1.2, ⟨hk.1.2, hk.2⟩⟩)⟩, ⟨by (with_reducible repeat (first | apply Kd.R_alloc | apply Kd.R_drewN | apply Kd.R_drew)); exact Kd.R_mono HO588.out (fun _ hk => ⟨hk.1.1.2, ⟨hk.1.2, hk.2⟩⟩)⟩, ⟨by (with_reducible repeat (first | apply Kd.R_alloc | apply Kd.R_drewN | apply Kd.R_drew)); exact Kd.R_mono HO578.out (fun _ hk => trivial)⟩, ⟨by exact Bz BK559⟩, ⟨by exact Bz BK579⟩, ⟨by exact Lz2 HB GE559 GE579⟩⟩
        replace c44 := Bool.eq_false_iff.mpr c44
        subst c44
        have H1 : (laws_FnExactScriptBetween.j3 kj9 l1 l2 t571 t574 t580 t583 t586 t589 true a0_0 l0_1 t575 t576) = some r := by rw [if_neg (show ¬ (false = true) by decide)] at H; exact H
        clear H
        have H := H1
        clear H1
        have H' := Aside0.mk H
        clear H
        obtain ⟨Ao47, co47, eo47⟩ := Kd.R_slice HO588.out
        subst eo47
        obtain ⟨Ao48, co48, eo48⟩ := Kd.R_slice HO573.out
        subst eo48
        go_wp2_with (first | ((with_reducible refine gate_callee (f := 15) rfl ?_); refine goesM_ (some 56) rfl rfl Try.func15 (by kernel_rfl) rfl #[.slice Ao47 t586.length co47, .slice Ao48 t571.length co48] rfl ?_; (with_reducible refine (laws_eqIntS.calls kj9 _ _ t586 _ _ t571 false _ ?side1 ?side2 ?side3 ?side4 A43.out).mono ?_); (case side1 => exact Cz ((Kd.R_reads' HO588.out).2.2)); (case side2 => exact (Kd.R_reads' HO588.out).2.1); (case side3 => exact Cz ((Kd.R_reads' HO573.out).2.2)); (case side4 => exact (Kd.R_reads' HO573.out).2.1); rintro e w' ⟨rfl, ⟨nd, rfl⟩⟩; refine ⟨_, rfl, ?_⟩))
        go_meet
        case rel => exact ⟨_, (true), (by first | rfl | (simp; done) | (simp [*]; done)), H', ⟨by have := HJ3.out; have := HJ6.out; have := HJ9.out; first | omega | exact Nat.le_refl _⟩, ⟨by (with_reducible repeat (first | apply Kd.R_alloc | apply Kd.R_drewN | apply Kd.R_drew)); exact Kd.R_mono HO573.out (fun _ hk => ⟨hk.1.1.2, ⟨hk.1.2, hk.2⟩⟩)⟩, ⟨by (with_reducible repeat (first | apply Kd.R_alloc | apply Kd.R_drewN | apply Kd.R_drew)); exact Kd.R_mono HO582.out (fun _ hk => ⟨hk.1.1.2, ⟨hk.1.2, hk.2⟩⟩)⟩, ⟨by (with_reducible repeat (first | apply Kd.R_alloc | apply Kd.R_drewN | apply Kd.R_drew)); exact Kd.R_mono HO585.out (fun _ hk => ⟨hk.1.1.2, ⟨hk.1.2, hk.2⟩⟩)⟩, ⟨by (with_reducible repeat (first | apply Kd.R_alloc | apply Kd.R_drewN | apply Kd.R_drew)); exact Kd.R_mono HO588.out (fun _ hk => ⟨hk.1.1.2, ⟨hk.1.2, hk.2⟩⟩)⟩, ⟨by (with_reducible repeat (first | apply Kd.R_alloc | apply Kd.R_drewN | apply Kd.R_drew)); exact Kd.R_mono HO578.out (fun _ hk => trivial)⟩, ⟨by exact Bz BK559⟩, ⟨by exact Bz BK579⟩, ⟨by exact Lz2 HB GE559 GE579⟩⟩
       case rest =>
        clear HC22
        try clear c1
        try clear c2
        try clear c6
        try clear c6b0
        try clear c6b1
        try clear c8
        try clear c8b0
        try clear c8b1
        try clear c13
        try clear c13b0
        try clear c44
        obtain ⟨kq, x62_21, rfl, HA, HJ21, HO_8, HO_11, HO_12, HO_13, HO_580001, BK559, BK579, HB⟩ := hcut
        cases kq with
        | zero => exact absurd HA.out (by simp [laws_FnExactScriptBetween.j3])
        | succ kj21 =>
         have H := HA.out
         clear HA
         simp only [laws_FnExactScriptBetween.j3] at H
         have HC49 := Aside0.mk H
         clear H
         go_upto_if 62 with (fail)
         go_cut [] (fun wc => ∃ (kq : Nat), Aside0 (laws_FnExactScriptBetween.j4 kq l1 l2 t571 t574 t580 t583 t586 t589 a0_0 l0_1 t575 t576 = some r) ∧ Aside0 (kq ≤ kj21) ∧ Aside0 (Kd.R (Kd.int .i64) 3 wc w.heap.size (fun k_ => some k_ ≠ ((.slice Ao40 t580.length co40) : Value).ownBlock ∧ some k_ ≠ ((.slice Ao41 t583.length co41) : Value).ownBlock ∧ some k_ ≠ (v587 : Value).ownBlock) v572 t571) ∧ Aside0 (Kd.R (Kd.int .i64) 3 wc w.heap.size (fun k_ => some k_ ≠ (v572 : Value).ownBlock ∧ some k_ ≠ ((.slice Ao41 t583.length co41) : Value).ownBlock ∧ some k_ ≠ (v587 : Value).ownBlock) (.slice Ao40 t580.length co40) t580) ∧ Aside0 (Kd.R (Kd.int .i64) 3 wc w.heap.size (fun k_ => some k_ ≠ (v572 : Value).ownBlock ∧ some k_ ≠ ((.slice Ao40 t580.length co40) : Value).ownBlock ∧ some k_ ≠ (v587 : Value).ownBlock) (.slice Ao41 t583.length co41) t583) ∧ Aside0 (Kd.R (Kd.int .i64) 3 wc w.heap.size (fun k_ => some k_ ≠ (v572 : Value).ownBlock ∧ some k_ ≠ ((.slice Ao40 t580.length co40) : Value).ownBlock ∧ some k_ ≠ ((.slice Ao41 t583.length co41) : Value).ownBlock) v587 t586) ∧ Aside0 (Kd.R k67 67 wc w.heap.size (fun _ => True) (.slice Ao36 t576.length co36) t576) ∧ Aside0 (wc.heap[gb559]? = some (.cells #[.int .i64 a0_0, (.slice A0_1 l0_1.length c0_1)] 24 (0, 0))) ∧ Aside0 (wc.heap[gb579]? = some (.cells #[.int .i64 t575, (.slice Ao36 t576.length co36)] 31 (0, 0))) ∧ Aside0 (Below w.heap.size w wc))
         case first =>
          have H := HC49.out
          clear HC49
          by_cases c50 : x62_21 = true
          ·subst c50
           have H1 : (some false) = some r := by rw [if_pos rfl] at H; exact H
           clear H
           have H := H1
           clear H1
           obtain rfl := Option.some.inj H
           go_wp2
           go_ret
           exact ⟨by first | rfl | (simp [errW_none, errW_some] <;> rfl) | (simp [*, errW_none, errW_some] <;> rfl), by exact Lz2 HB GE559 GE579⟩
          replace c50 := Bool.eq_false_iff.mpr c50
          subst c50
          have H1 : (laws_FnExactScriptBetween.j4 kj21 l1 l2 t571 t574 t580 t583 t586 t589 a0_0 l0_1 t575 t576) = some r := by rw [if_neg (show ¬ (false = true) by decide)] at H; exact H
          clear H
          have H := H1
          clear H1
          have H' := Aside0.mk H
          clear H
          go_wp2
          go_meet
          case rel => exact ⟨_, H', ⟨by have := HJ3.out; have := HJ6.out; have := HJ9.out; have := HJ21.out; first | omega | exact Nat.le_refl _⟩, ⟨by exact Rz HO_8⟩, ⟨by exact Rz HO_11⟩, ⟨by exact Rz HO_12⟩, ⟨by exact Rz HO_13⟩, ⟨by exact Rz HO_580001⟩, ⟨by exact Bz BK559⟩, ⟨by exact Bz BK579⟩, ⟨by exact Lz2 HB GE559 GE579⟩⟩
         case rest =>
          clear HC49
          try clear c1
          try clear c2
          try clear c6
          try clear c6b0
          try clear c6b1
          try clear c8
          try clear c8b0
          try clear c8b1
          try clear c13
          try clear c13b0
          try clear c44
          try clear c50
          obtain ⟨kq, HA, HJ48, HO_8, HO_11, HO_12, HO_13, HO_580001, BK559, BK579, HB⟩ := hcut
          cases kq with
          | zero => exact absurd HA.out (by simp [laws_FnExactScriptBetween.j4])
          | succ kj48 =>
           have H := HA.out
           clear HA
           simp only [laws_FnExactScriptBetween.j4] at H
           replace H := Option.bind_eq_some_iff.mp H
           obtain ⟨⟨t591, t592⟩, A510, H⟩ := H
           replace H : ((laws_eqGraph.f kj48 t575 t576 t591 t592).bind fun t595 => (if t595 = true then (laws_FnExactScriptBetween.j5 kj48 l1 l2 t571 t574 t580 t583 t586 t589 a0_0 l0_1 t575 t576) else (some false))) = some r := H
           have A51 := Aside0.mk A510
           clear A510
           replace H := Option.bind_eq_some_iff.mp H
           obtain ⟨t595, A520, H⟩ := H
           replace H : (if t595 = true then (laws_FnExactScriptBetween.j5 kj48 l1 l2 t571 t574 t580 t583 t586 t589 a0_0 l0_1 t575 t576) else (some false)) = some r := H
           have A52 := Aside0.mk A520
           clear A520
           have HC53 := Aside0.mk H
           clear H
           try go_wp2
           replace HO_8 := Aside0.mk (Kd.R_drew HO_8.out)
           replace HO_11 := Aside0.mk (Kd.R_drew HO_11.out)
           replace HO_12 := Aside0.mk (Kd.R_drew HO_12.out)
           replace HO_13 := Aside0.mk (Kd.R_drew HO_13.out)
           replace HO_580001 := Aside0.mk (Kd.R_drew HO_580001.out)
           replace BK559 := Aside0.mk (blk_drew BK559.out)
           replace BK579 := Aside0.mk (blk_drew BK579.out)
           replace HB := Aside0.mk (below_drew1 HB.out)
           refine start_ (n := 5) (S := fun w' => w'.cell? ⟨gb579, 0, none⟩ = some (.int .i64 t575) ∧ w'.cell? ⟨gb579, 1, none⟩ = some (.slice Ao36 t576.length co36) ∧ w'.cell? ⟨gb559, 0, none⟩ = some (.int .i64 a0_0) ∧ w'.cell? ⟨gb559, 1, none⟩ = some (.slice A0_1 l0_1.length c0_1)) (ds := []) #[false, false, false, false, false] (by kernel_rfl) rfl rfl ⟨(blk_cell BK579.out 0).trans rfl, (blk_cell BK579.out 1).trans rfl, (blk_cell BK559.out 0).trans rfl, (blk_cell BK559.out 1).trans rfl⟩ (fun hHeld => ?_)
           generalize wc.drew = w54 at HO_8 HO_11 HO_12 HO_13 HO_580001 BK559 BK579 HB hHeld ⊢
           refine take_ (i := 0) (N := some 63) (v := ?_) (a' := ?_) #[true, false, false, false, false] rfl rfl (by kernel_rfl) (fun _ _ _ h => h) (Or.inl ⟨by rfl, ?_⟩) hHeld ?_ ?_
           rotate_left
           ·rintro w' ⟨s0, s1, s2, s3⟩
            go_simp
            with_reducible rfl
           rotate_left
           ·simp only [Act.put, List.setIfInBounds_toArray, List.set_cons_zero, List.set_cons_succ, i64_w, i32_w]
            rfl
           refine take_ (i := 1) (N := some 64) (v := ?_) (a' := ?_) #[true, true, false, false, false] rfl rfl (by kernel_rfl) (fun _ _ _ h => h) (Or.inl ⟨by rfl, ?_⟩) hHeld ?_ ?_
           rotate_left
           ·rintro w' ⟨s0, s1, s2, s3⟩
            go_simp
            with_reducible rfl
           rotate_left
           ·simp only [Act.put, List.setIfInBounds_toArray, List.set_cons_zero, List.set_cons_succ, i64_w, i32_w]
            rfl
           refine one_ (i := 2) (N := some 65) #[true, true, true, false, false] rfl rfl (by kernel_rfl) (by decide) (fun K hK => ?_)
           refine goes_ Try.func12 (by kernel_rfl) rfl #[.agg #[.int .i64 a0_0, .slice A0_1 l0_1.length c0_1]] (by rfl) rfl rfl (by (try simp only [List.map_toArray, List.map_cons, List.map_nil]); first | done | rfl | (simp only [List.length_drop, List.length_take]; rfl)) ?_
           with_reducible refine (laws_toGraph.calls kj48 a0_0 _ _ l0_1 t591 t592 _ ?side1 ?side2 A51.out).mono ?_
           (case side1 => exact Cz ((Kd.C_below HR0_1.out HB.out)))
           (case side2 => exact HC0_1.out)
           rintro e w55 ⟨v593, rfl, ho0, hb⟩
           refine ⟨_, rfl, ?_⟩
           replace HO_8 := Aside0.mk (Kd.R_below (Rz HO_8) hb)
           replace HO_11 := Aside0.mk (Kd.R_below (Rz HO_11) hb)
           replace HO_12 := Aside0.mk (Kd.R_below (Rz HO_12) hb)
           replace HO_13 := Aside0.mk (Kd.R_below (Rz HO_13) hb)
           have HO594 := Aside0.mk (Kd.R_lower (Kd.R_new' ho0 (Kd.R_lt (Rz HO_580001))) (below_size (by exact Lz2 HB GE559 GE579)))
           replace HO_580001 := Aside0.mk (Kd.R_elder' (Rz HO_580001) (Kd.R_base ho0) hb)
           replace BK559 := Aside0.mk (blk_below (g := gb559) (o := .cells #[.int .i64 a0_0, .slice A0_1 l0_1.length c0_1] 24 (0, 0)) (Bz BK559) hb)
           replace BK579 := Aside0.mk (blk_below (g := gb579) (o := .cells #[.int .i64 t575, .slice Ao36 t576.length co36] 31 (0, 0)) (Bz BK579) hb)
           replace HB := Aside0.mk (below_step (by exact Lz2 HB GE559 GE579) hb)
           (try clear hb)
           (try clear hb2)
           (try clear hk)
           (try clear hi)
           (try clear ho0)
           obtain ⟨Ao56, co56, eo56⟩ := Kd.R_slice HO594.out
           (first | subst eo56 | (injection eo56 with f1_ f2_ f3_; have f4_ := f1_.symm; have f5_ := f3_.symm; clear f1_ f2_ f3_; subst f4_; subst f5_))
           refine hK.out _ _ ⟨(blk_cell BK579.out 0).trans rfl, (blk_cell BK579.out 1).trans rfl, (blk_cell BK559.out 0).trans rfl, (blk_cell BK559.out 1).trans rfl⟩ (fun hHeld => ?_)
           clear hK K
           refine norm_ (a' := ?_) ?_ ?_
           rotate_left
           ·show Act.put _ (some 65) _ = _
            simp only [Act.put, List.setIfInBounds_toArray, List.set_cons_zero, List.set_cons_succ, i64_w, i32_w]
            rfl
           refine one_ (i := 3) (N := some 66) #[true, true, true, true, false] rfl rfl (by kernel_rfl) (by decide) (fun K hK => ?_)
           refine goes_ Try.func16 (by kernel_rfl) rfl #[.agg #[.int .i64 t575, .slice Ao36 t576.length co36], .agg #[.int .i64 t591, .slice Ao56 t592.length co56]] (by rfl) rfl rfl (by (try simp only [List.map_toArray, List.map_cons, List.map_nil]); first | done | rfl | (simp only [List.length_drop, List.length_take]; rfl)) ?_
           with_reducible refine (laws_eqGraph.calls kj48 t575 _ _ t576 t591 _ _ t592 t595 _ ?side1 ?side2 ?side3 ?side4 A52.out).mono ?_
           (case side1 => exact Cz ((Kd.R_reads' HO_580001.out).2.2))
           (case side2 => exact (Kd.R_reads' HO_580001.out).2.1)
           (case side3 => exact Cz ((Kd.R_reads' HO594.out).2.2))
           (case side4 => exact (Kd.R_reads' HO594.out).2.1)
           rintro e w57 ⟨rfl, hb⟩
           refine ⟨_, rfl, ?_⟩
           replace HO_8 := Aside0.mk (Kd.R_below (Rz HO_8) hb)
           replace HO_11 := Aside0.mk (Kd.R_below (Rz HO_11) hb)
           replace HO_12 := Aside0.mk (Kd.R_below (Rz HO_12) hb)
           replace HO_13 := Aside0.mk (Kd.R_below (Rz HO_13) hb)
           replace HO_580001 := Aside0.mk (Kd.R_below (Rz HO_580001) hb)
           replace HO594 := Aside0.mk (Kd.R_below (Rz HO594) hb)
           replace BK559 := Aside0.mk (blk_below (g := gb559) (o := .cells #[.int .i64 a0_0, .slice A0_1 l0_1.length c0_1] 24 (0, 0)) (Bz BK559) hb)
           replace BK579 := Aside0.mk (blk_below (g := gb579) (o := .cells #[.int .i64 t575, .slice Ao36 t576.length co36] 31 (0, 0)) (Bz BK579) hb)
           replace HB := Aside0.mk (below_step (by exact Lz2 HB GE559 GE579) hb)
           (try clear hb)
           (try clear hb2)
           (try clear hk)
           (try clear hi)
           refine hK.out _ _ ⟨(blk_cell BK579.out 0).trans rfl, (blk_cell BK579.out 1).trans rfl, (blk_cell BK559.out 0).trans rfl, (blk_cell BK559.out 1).trans rfl⟩ (fun hHeld => ?_)
           clear hK K
           refine norm_ (a' := ?_) ?_ ?_
           rotate_left
           ·show Act.put _ (some 66) _ = _
            simp only [Act.put, List.setIfInBounds_toArray, List.set_cons_zero, List.set_cons_succ, i64_w, i32_w]
            rfl
           refine pure_ (i := 4) (N := some 67) (v := ?_) (a' := ?_) #[true, true, true, true, true] rfl rfl (by kernel_rfl) (fun _ _ _ h => h) (Or.inl ⟨by rfl, ?_⟩) ?_ ?_
           rotate_left
           ·intro w'
            go_simp
            with_reducible rfl
           rotate_left
           ·simp only [Act.put, List.setIfInBounds_toArray, List.set_cons_zero, List.set_cons_succ, i64_w, i32_w]
            rfl
           refine done_ (by kernel_rfl) ?_
           go_upto_if 67 with (fail)
           go_cut [] (fun wc => ∃ (kq : Nat), Aside0 (laws_FnExactScriptBetween.j5 kq l1 l2 t571 t574 t580 t583 t586 t589 a0_0 l0_1 t575 t576 = some r) ∧ Aside0 (kq ≤ kj48) ∧ Aside0 (Kd.R (Kd.int .i64) 3 wc w.heap.size (fun k_ => some k_ ≠ ((.slice Ao40 t580.length co40) : Value).ownBlock ∧ some k_ ≠ ((.slice Ao41 t583.length co41) : Value).ownBlock ∧ some k_ ≠ (v587 : Value).ownBlock) v572 t571) ∧ Aside0 (Kd.R (Kd.int .i64) 3 wc w.heap.size (fun k_ => some k_ ≠ (v572 : Value).ownBlock ∧ some k_ ≠ ((.slice Ao41 t583.length co41) : Value).ownBlock ∧ some k_ ≠ (v587 : Value).ownBlock) (.slice Ao40 t580.length co40) t580) ∧ Aside0 (Kd.R (Kd.int .i64) 3 wc w.heap.size (fun k_ => some k_ ≠ (v572 : Value).ownBlock ∧ some k_ ≠ ((.slice Ao40 t580.length co40) : Value).ownBlock ∧ some k_ ≠ (v587 : Value).ownBlock) (.slice Ao41 t583.length co41) t583) ∧ Aside0 (Kd.R (Kd.int .i64) 3 wc w.heap.size (fun k_ => some k_ ≠ (v572 : Value).ownBlock ∧ some k_ ≠ ((.slice Ao40 t580.length co40) : Value).ownBlock ∧ some k_ ≠ ((.slice Ao41 t583.length co41) : Value).ownBlock) v587 t586) ∧ Aside0 (Kd.R k67 67 wc w.heap.size (fun _ => True) (.slice Ao36 t576.length co36) t576) ∧ Aside0 (wc.heap[gb559]? = some (.cells #[.int .i64 a0_0, (.slice A0_1 l0_1.length c0_1)] 24 (0, 0))) ∧ Aside0 (wc.heap[gb579]? = some (.cells #[.int .i64 t575, (.slice Ao36 t576.length co36)] 31 (0, 0))) ∧ Aside0 (Below w.heap.size w wc))
           case first =>
            have H := HC53.out
            clear HC53
            by_cases c58 : t595 = true
            ·subst c58
             have H1 : (laws_FnExactScriptBetween.j5 kj48 l1 l2 t571 t574 t580 t583 t586 t589 a0_0 l0_1 t575 t576) = some r := by rw [if_pos rfl] at H; exact H
             clear H
             have H := H1
             clear H1
             have H' := Aside0.mk H
             clear H
             go_wp2
             go_meet
             case rel => exact ⟨_, H', ⟨by have := HJ3.out; have := HJ6.out; have := HJ9.out; have := HJ21.out; have := HJ48.out; first | omega | exact Nat.le_refl _⟩, ⟨by exact Rz HO_8⟩, ⟨by exact Rz HO_11⟩, ⟨by exact Rz HO_12⟩, ⟨by exact Rz HO_13⟩, ⟨by (with_reducible repeat (first | apply Kd.R_alloc | apply Kd.R_drewN | apply Kd.R_drew)); exact Kd.R_mono HO_580001.out (fun _ hk => trivial)⟩, ⟨by exact Bz BK559⟩, ⟨by exact Bz BK579⟩, ⟨by exact Lz2 HB GE559 GE579⟩⟩
            replace c58 := Bool.eq_false_iff.mpr c58
            subst c58
            have H1 : (some false) = some r := by rw [if_neg (show ¬ (false = true) by decide)] at H; exact H
            clear H
            have H := H1
            clear H1
            obtain rfl := Option.some.inj H
            go_wp2
            go_ret
            exact ⟨by first | rfl | (simp [errW_none, errW_some] <;> rfl) | (simp [*, errW_none, errW_some] <;> rfl), by exact Lz2 HB GE559 GE579⟩
           case rest =>
            clear HC53
            try clear c1
            try clear c2
            try clear c6
            try clear c6b0
            try clear c6b1
            try clear c8
            try clear c8b0
            try clear c8b1
            try clear c13
            try clear c13b0
            try clear c44
            try clear c50
            try clear c58
            obtain ⟨kq, HA, HJ52, HO_8, HO_11, HO_12, HO_13, HO_580001, BK559, BK579, HB⟩ := hcut
            cases kq with
            | zero => exact absurd HA.out (by simp [laws_FnExactScriptBetween.j5])
            | succ kj52 =>
             have H := HA.out
             clear HA
             simp only [laws_FnExactScriptBetween.j5] at H
             replace H := Option.bind_eq_some_iff.mp H
             obtain ⟨t596, A590, H⟩ := H
             replace H : ((laws_eqIntS.f kj52 t580 t596).bind fun t599 => (if t599 = true then (laws_FnExactScriptBetween.j6 kj52 l1 l2 t571 t574 t580 t583 t586 t589 a0_0 l0_1 t575 t576) else (some false))) = some r := H
             have A59 := Aside0.mk A590
             clear A590
             replace H := Option.bind_eq_some_iff.mp H
             obtain ⟨t599, A600, H⟩ := H
             replace H : (if t599 = true then (laws_FnExactScriptBetween.j6 kj52 l1 l2 t571 t574 t580 t583 t586 t589 a0_0 l0_1 t575 t576) else (some false)) = some r := H
             have A60 := Aside0.mk A600
             clear A600
             have HC61 := Aside0.mk H
             clear H
             go_upto_if 72 with (first | ((with_reducible refine gate_callee (f := 13) rfl ?_); refine goesM_ (some 70) rfl rfl Try.func13 (by kernel_rfl) rfl #[.slice A1 l1.length c1] rfl ?_; (with_reducible refine (laws_toIntS.calls kj52 _ _ l1 t596 _ ?side1 ?side2 A59.out).mono ?_); (case side1 => exact Cz ((Kd.C_below HR1.out HB.out))); (case side2 => exact HC1.out); rintro e w62 ⟨v597, rfl, ho0, hb⟩; refine ⟨_, rfl, ?_⟩; replace HO_580001 := Aside0.mk (Kd.R_below (Rz HO_580001) hb); have HO598 := Aside0.mk (Kd.R_lower (Kd.R_new' (Kd.R_new' (Kd.R_new' (Kd.R_new' ho0 (Kd.R_lt (Rz HO_8))) (Kd.R_lt (Rz HO_11))) (Kd.R_lt (Rz HO_12))) (Kd.R_lt (Rz HO_13))) (below_size (by exact Lz2 HB GE559 GE579))); replace HO_8 := Aside0.mk (Kd.R_elder' (Rz HO_8) (Kd.R_base ho0) hb); replace HO_11 := Aside0.mk (Kd.R_elder' (Rz HO_11) (Kd.R_base ho0) hb); replace HO_12 := Aside0.mk (Kd.R_elder' (Rz HO_12) (Kd.R_base ho0) hb); replace HO_13 := Aside0.mk (Kd.R_elder' (Rz HO_13) (Kd.R_base ho0) hb); replace BK559 := Aside0.mk (blk_below (g := gb559) (o := .cells #[.int .i64 a0_0, .slice A0_1 l0_1.length c0_1] 24 (0, 0)) (Bz BK559) hb); replace BK579 := Aside0.mk (blk_below (g := gb579) (o := .cells #[.int .i64 t575, .slice Ao36 t576.length co36] 31 (0, 0)) (Bz BK579) hb); replace HB := Aside0.mk (below_step (by exact Lz2 HB GE559 GE579) hb); (try clear hb); (try clear ho0); obtain ⟨Ao63, co63, eo63⟩ := Kd.R_slice HO598.out; subst eo63) | ((with_reducible refine gate_callee (f := 15) rfl ?_); refine goesM_ (some 71) rfl rfl Try.func15 (by kernel_rfl) rfl #[.slice Ao40 t580.length co40, .slice Ao63 t596.length co63] rfl ?_; (with_reducible refine (laws_eqIntS.calls kj52 _ _ t580 _ _ t596 t599 _ ?side1 ?side2 ?side3 ?side4 A60.out).mono ?_); (case side1 => exact Cz ((Kd.R_reads' HO_11.out).2.2)); (case side2 => exact (Kd.R_reads' HO_11.out).2.1); (case side3 => exact Cz ((Kd.R_reads' HO598.out).2.2)); (case side4 => exact (Kd.R_reads' HO598.out).2.1); rintro e w' ⟨rfl, ⟨nd, rfl⟩⟩; refine ⟨_, rfl, ?_⟩))
             (try simp only [Act.put, List.setIfInBounds_toArray, List.set_cons_zero, List.set_cons_succ])
             go_cut [] (fun wc => ∃ (kq : Nat), Aside0 (laws_FnExactScriptBetween.j6 kq l1 l2 t571 t574 t580 t583 t586 t589 a0_0 l0_1 t575 t576 = some r) ∧ Aside0 (kq ≤ kj52) ∧ Aside0 (Kd.R (Kd.int .i64) 3 wc w.heap.size (fun k_ => some k_ ≠ ((.slice Ao40 t580.length co40) : Value).ownBlock ∧ some k_ ≠ ((.slice Ao41 t583.length co41) : Value).ownBlock ∧ some k_ ≠ (v587 : Value).ownBlock) v572 t571) ∧ Aside0 (Kd.R (Kd.int .i64) 3 wc w.heap.size (fun k_ => some k_ ≠ (v572 : Value).ownBlock ∧ some k_ ≠ ((.slice Ao41 t583.length co41) : Value).ownBlock ∧ some k_ ≠ (v587 : Value).ownBlock) (.slice Ao40 t580.length co40) t580) ∧ Aside0 (Kd.R (Kd.int .i64) 3 wc w.heap.size (fun k_ => some k_ ≠ (v572 : Value).ownBlock ∧ some k_ ≠ ((.slice Ao40 t580.length co40) : Value).ownBlock ∧ some k_ ≠ (v587 : Value).ownBlock) (.slice Ao41 t583.length co41) t583) ∧ Aside0 (Kd.R (Kd.int .i64) 3 wc w.heap.size (fun k_ => some k_ ≠ (v572 : Value).ownBlock ∧ some k_ ≠ ((.slice Ao40 t580.length co40) : Value).ownBlock ∧ some k_ ≠ ((.slice Ao41 t583.length co41) : Value).ownBlock) v587 t586) ∧ Aside0 (Kd.R k67 67 wc w.heap.size (fun _ => True) (.slice Ao36 t576.length co36) t576) ∧ Aside0 (wc.heap[gb559]? = some (.cells #[.int .i64 a0_0, (.slice A0_1 l0_1.length c0_1)] 24 (0, 0))) ∧ Aside0 (wc.heap[gb579]? = some (.cells #[.int .i64 t575, (.slice Ao36 t576.length co36)] 31 (0, 0))) ∧ Aside0 (Below w.heap.size w wc))
             case first =>
              have H := HC61.out
              clear HC61
              by_cases c64 : t599 = true
              ·subst c64
               have H1 : (laws_FnExactScriptBetween.j6 kj52 l1 l2 t571 t574 t580 t583 t586 t589 a0_0 l0_1 t575 t576) = some r := by rw [if_pos rfl] at H; exact H
               clear H
               have H := H1
               clear H1
               have H' := Aside0.mk H
               clear H
               go_wp2
               go_meet
               case rel => exact ⟨_, H', ⟨by have := HJ3.out; have := HJ6.out; have := HJ9.out; have := HJ21.out; have := HJ48.out; have := HJ52.out; first | omega | exact Nat.le_refl _⟩, ⟨by (with_reducible repeat (first | apply Kd.R_alloc | apply Kd.R_drewN | apply Kd.R_drew)); exact Kd.R_mono HO_8.out (fun _ hk => ⟨hk.1.1, ⟨hk.1.2.1, hk.1.2.2⟩⟩)⟩, ⟨by (with_reducible repeat (first | apply Kd.R_alloc | apply Kd.R_drewN | apply Kd.R_drew)); exact Kd.R_mono HO_11.out (fun _ hk => ⟨hk.1.1, ⟨hk.1.2.1, hk.1.2.2⟩⟩)⟩, ⟨by (with_reducible repeat (first | apply Kd.R_alloc | apply Kd.R_drewN | apply Kd.R_drew)); exact Kd.R_mono HO_12.out (fun _ hk => ⟨hk.1.1, ⟨hk.1.2.1, hk.1.2.2⟩⟩)⟩, ⟨by (with_reducible repeat (first | apply Kd.R_alloc | apply Kd.R_drewN | apply Kd.R_drew)); exact Kd.R_mono HO_13.out (fun _ hk => ⟨hk.1.1, ⟨hk.1.2.1, hk.1.2.2⟩⟩)⟩, ⟨by exact Rz HO_580001⟩, ⟨by exact Bz BK559⟩, ⟨by exact Bz BK579⟩, ⟨by exact Lz2 HB GE559 GE579⟩⟩
              replace c64 := Bool.eq_false_iff.mpr c64
              subst c64
              have H1 : (some false) = some r := by rw [if_neg (show ¬ (false = true) by decide)] at H; exact H
              clear H
              have H := H1
              clear H1
              obtain rfl := Option.some.inj H
              go_wp2
              go_ret
              exact ⟨by first | rfl | (simp [errW_none, errW_some] <;> rfl) | (simp [*, errW_none, errW_some] <;> rfl), by exact Lz2 HB GE559 GE579⟩
             case rest =>
              clear HC61
              try clear c1
              try clear c2
              try clear c6
              try clear c6b0
              try clear c6b1
              try clear c8
              try clear c8b0
              try clear c8b1
              try clear c13
              try clear c13b0
              try clear c44
              try clear c50
              try clear c58
              try clear c64
              obtain ⟨kq, HA, HJ60, HO_8, HO_11, HO_12, HO_13, HO_580001, BK559, BK579, HB⟩ := hcut
              cases kq with
              | zero => exact absurd HA.out (by simp [laws_FnExactScriptBetween.j6])
              | succ kj60 =>
               have H := HA.out
               clear HA
               simp only [laws_FnExactScriptBetween.j6] at H
               replace H := Option.bind_eq_some_iff.mp H
               obtain ⟨t600, A650, H⟩ := H
               replace H : ((laws_eqIntS.f kj60 t583 t600).bind fun t603 => (if t603 = true then (laws_FnExactScriptBetween.j7 kj60 l1 l2 t571 t574 t580 t583 t586 t589 a0_0 l0_1 t575 t576) else (some false))) = some r := H
               have A65 := Aside0.mk A650
               clear A650
               replace H := Option.bind_eq_some_iff.mp H
               obtain ⟨t603, A660, H⟩ := H
               replace H : (if t603 = true then (laws_FnExactScriptBetween.j7 kj60 l1 l2 t571 t574 t580 t583 t586 t589 a0_0 l0_1 t575 t576) else (some false)) = some r := H
               have A66 := Aside0.mk A660
               clear A660
               have HC67 := Aside0.mk H
               clear H
               go_upto_if 77 with (first | ((with_reducible refine gate_callee (f := 13) rfl ?_); refine goesM_ (some 75) rfl rfl Try.func13 (by kernel_rfl) rfl #[.slice A2 l2.length c2] rfl ?_; (with_reducible refine (laws_toIntS.calls kj60 _ _ l2 t600 _ ?side1 ?side2 A65.out).mono ?_); (case side1 => exact Cz ((Kd.C_below HR2.out HB.out))); (case side2 => exact HC2.out); rintro e w68 ⟨v601, rfl, ho0, hb⟩; refine ⟨_, rfl, ?_⟩; replace HO_580001 := Aside0.mk (Kd.R_below (Rz HO_580001) hb); have HO602 := Aside0.mk (Kd.R_lower (Kd.R_new' (Kd.R_new' (Kd.R_new' (Kd.R_new' ho0 (Kd.R_lt (Rz HO_8))) (Kd.R_lt (Rz HO_11))) (Kd.R_lt (Rz HO_12))) (Kd.R_lt (Rz HO_13))) (below_size (by exact Lz2 HB GE559 GE579))); replace HO_8 := Aside0.mk (Kd.R_elder' (Rz HO_8) (Kd.R_base ho0) hb); replace HO_11 := Aside0.mk (Kd.R_elder' (Rz HO_11) (Kd.R_base ho0) hb); replace HO_12 := Aside0.mk (Kd.R_elder' (Rz HO_12) (Kd.R_base ho0) hb); replace HO_13 := Aside0.mk (Kd.R_elder' (Rz HO_13) (Kd.R_base ho0) hb); replace BK559 := Aside0.mk (blk_below (g := gb559) (o := .cells #[.int .i64 a0_0, .slice A0_1 l0_1.length c0_1] 24 (0, 0)) (Bz BK559) hb); replace BK579 := Aside0.mk (blk_below (g := gb579) (o := .cells #[.int .i64 t575, .slice Ao36 t576.length co36] 31 (0, 0)) (Bz BK579) hb); replace HB := Aside0.mk (below_step (by exact Lz2 HB GE559 GE579) hb); (try clear hb); (try clear ho0); obtain ⟨Ao69, co69, eo69⟩ := Kd.R_slice HO602.out; subst eo69) | ((with_reducible refine gate_callee (f := 15) rfl ?_); refine goesM_ (some 76) rfl rfl Try.func15 (by kernel_rfl) rfl #[.slice Ao41 t583.length co41, .slice Ao69 t600.length co69] rfl ?_; (with_reducible refine (laws_eqIntS.calls kj60 _ _ t583 _ _ t600 t603 _ ?side1 ?side2 ?side3 ?side4 A66.out).mono ?_); (case side1 => exact Cz ((Kd.R_reads' HO_12.out).2.2)); (case side2 => exact (Kd.R_reads' HO_12.out).2.1); (case side3 => exact Cz ((Kd.R_reads' HO602.out).2.2)); (case side4 => exact (Kd.R_reads' HO602.out).2.1); rintro e w' ⟨rfl, ⟨nd, rfl⟩⟩; refine ⟨_, rfl, ?_⟩))
               (try simp only [Act.put, List.setIfInBounds_toArray, List.set_cons_zero, List.set_cons_succ])
               go_cut [] (fun wc => ∃ (kq : Nat), Aside0 (laws_FnExactScriptBetween.j7 kq l1 l2 t571 t574 t580 t583 t586 t589 a0_0 l0_1 t575 t576 = some r) ∧ Aside0 (kq ≤ kj60) ∧ Aside0 (Kd.R (Kd.int .i64) 3 wc w.heap.size (fun k_ => some k_ ≠ ((.slice Ao40 t580.length co40) : Value).ownBlock ∧ some k_ ≠ ((.slice Ao41 t583.length co41) : Value).ownBlock ∧ some k_ ≠ (v587 : Value).ownBlock) v572 t571) ∧ Aside0 (Kd.R (Kd.int .i64) 3 wc w.heap.size (fun k_ => some k_ ≠ (v572 : Value).ownBlock ∧ some k_ ≠ ((.slice Ao41 t583.length co41) : Value).ownBlock ∧ some k_ ≠ (v587 : Value).ownBlock) (.slice Ao40 t580.length co40) t580) ∧ Aside0 (Kd.R (Kd.int .i64) 3 wc w.heap.size (fun k_ => some k_ ≠ (v572 : Value).ownBlock ∧ some k_ ≠ ((.slice Ao40 t580.length co40) : Value).ownBlock ∧ some k_ ≠ (v587 : Value).ownBlock) (.slice Ao41 t583.length co41) t583) ∧ Aside0 (Kd.R (Kd.int .i64) 3 wc w.heap.size (fun k_ => some k_ ≠ (v572 : Value).ownBlock ∧ some k_ ≠ ((.slice Ao40 t580.length co40) : Value).ownBlock ∧ some k_ ≠ ((.slice Ao41 t583.length co41) : Value).ownBlock) v587 t586) ∧ Aside0 (Kd.R k67 67 wc w.heap.size (fun _ => True) (.slice Ao36 t576.length co36) t576) ∧ Aside0 (wc.heap[gb559]? = some (.cells #[.int .i64 a0_0, (.slice A0_1 l0_1.length c0_1)] 24 (0, 0))) ∧ Aside0 (wc.heap[gb579]? = some (.cells #[.int .i64 t575, (.slice Ao36 t576.length co36)] 31 (0, 0))) ∧ Aside0 (Below w.heap.size w wc))
               case first =>
                have H := HC67.out
                clear HC67
                by_cases c70 : t603 = true
                ·subst c70
                 have H1 : (laws_FnExactScriptBetween.j7 kj60 l1 l2 t571 t574 t580 t583 t586 t589 a0_0 l0_1 t575 t576) = some r := by rw [if_pos rfl] at H; exact H
                 clear H
                 have H := H1
                 clear H1
                 have H' := Aside0.mk H
                 clear H
                 go_wp2
                 go_meet
                 case rel => exact ⟨_, H', ⟨by have := HJ3.out; have := HJ6.out; have := HJ9.out; have := HJ21.out; have := HJ48.out; have := HJ52.out; have := HJ60.out; first | omega | exact Nat.le_refl _⟩, ⟨by (with_reducible repeat (first | apply Kd.R_alloc | apply Kd.R_drewN | apply Kd.R_drew)); exact Kd.R_mono HO_8.out (fun _ hk => ⟨hk.1.1, ⟨hk.1.2.1, hk.1.2.2⟩⟩)⟩, ⟨by (with_reducible repeat (first | apply Kd.R_alloc | apply Kd.R_drewN | apply Kd.R_drew)); exact Kd.R_mono HO_11.out (fun _ hk => ⟨hk.1.1, ⟨hk.1.2.1, hk.1.2.2⟩⟩)⟩, ⟨by (with_reducible repeat (first | apply Kd.R_alloc | apply Kd.R_drewN | apply Kd.R_drew)); exact Kd.R_mono HO_12.out (fun _ hk => ⟨hk.1.1, ⟨hk.1.2.1, hk.1.2.2⟩⟩)⟩, ⟨by (with_reducible repeat (first | apply Kd.R_alloc | apply Kd.R_drewN | apply Kd.R_drew)); exact Kd.R_mono HO_13.out (fun _ hk => ⟨hk.1.1, ⟨hk.1.2.1, hk.1.2.2⟩⟩)⟩, ⟨by exact Rz HO_580001⟩, ⟨by exact Bz BK559⟩, ⟨by exact Bz BK579⟩, ⟨by exact Lz2 HB GE559 GE579⟩⟩
                replace c70 := Bool.eq_false_iff.mpr c70
                subst c70
                have H1 : (some false) = some r := by rw [if_neg (show ¬ (false = true) by decide)] at H; exact H
                clear H
                have H := H1
                clear H1
                obtain rfl := Option.some.inj H
                go_wp2
                go_ret
                exact ⟨by first | rfl | (simp [errW_none, errW_some] <;> rfl) | (simp [*, errW_none, errW_some] <;> rfl), by exact Lz2 HB GE559 GE579⟩
               case rest =>
                clear HC67
                try clear c1
                try clear c2
                try clear c6
                try clear c6b0
                try clear c6b1
                try clear c8
                try clear c8b0
                try clear c8b1
                try clear c13
                try clear c13b0
                try clear c44
                try clear c50
                try clear c58
                try clear c64
                try clear c70
                obtain ⟨kq, HA, HJ66, HO_8, HO_11, HO_12, HO_13, HO_580001, BK559, BK579, HB⟩ := hcut
                cases kq with
                | zero => exact absurd HA.out (by simp [laws_FnExactScriptBetween.j7])
                | succ kj66 =>
                 have H := HA.out
                 clear HA
                 simp only [laws_FnExactScriptBetween.j7] at H
                 replace H := Option.bind_eq_some_iff.mp H
                 obtain ⟨⟨t604, t605⟩, A710, H⟩ := H
                 replace H : ((laws_markIntS.f kj66 t580 t604).bind fun bt606 => ((laws_markIntS.f kj66 t583 bt606.1).bind fun bt608 => (if bt608.1 < 0 then (laws_FnExactScriptBetween.j8 kj66 l1 l2 t571 t574 t586 true a0_0 l0_1) else ((laws_eqIntS.f kj66 t586 t571).bind fun t610 => (if t610 = true then (laws_FnExactScriptBetween.j8 kj66 l1 l2 t571 t574 t586 (t589 != t574) a0_0 l0_1) else (laws_FnExactScriptBetween.j8 kj66 l1 l2 t571 t574 t586 true a0_0 l0_1)))))) = some r := H
                 have A71 := Aside0.mk A710
                 clear A710
                 replace H := Option.bind_eq_some_iff.mp H
                 obtain ⟨⟨t606, t607⟩, A720, H⟩ := H
                 replace H : ((laws_markIntS.f kj66 t583 t606).bind fun bt608 => (if bt608.1 < 0 then (laws_FnExactScriptBetween.j8 kj66 l1 l2 t571 t574 t586 true a0_0 l0_1) else ((laws_eqIntS.f kj66 t586 t571).bind fun t610 => (if t610 = true then (laws_FnExactScriptBetween.j8 kj66 l1 l2 t571 t574 t586 (t589 != t574) a0_0 l0_1) else (laws_FnExactScriptBetween.j8 kj66 l1 l2 t571 t574 t586 true a0_0 l0_1))))) = some r := H
                 have A72 := Aside0.mk A720
                 clear A720
                 replace H := Option.bind_eq_some_iff.mp H
                 obtain ⟨⟨t608, t609⟩, A730, H⟩ := H
                 replace H : (if t608 < 0 then (laws_FnExactScriptBetween.j8 kj66 l1 l2 t571 t574 t586 true a0_0 l0_1) else ((laws_eqIntS.f kj66 t586 t571).bind fun t610 => (if t610 = true then (laws_FnExactScriptBetween.j8 kj66 l1 l2 t571 t574 t586 (t589 != t574) a0_0 l0_1) else (laws_FnExactScriptBetween.j8 kj66 l1 l2 t571 t574 t586 true a0_0 l0_1)))) = some r := H
                 have A73 := Aside0.mk A730
                 clear A730
                 have HC74 := Aside0.mk H
                 clear H
                 have hnb75 := NB579_559.out
                 have hnc75 := NB559_579.out
                 have hcz76_0 : wc.cell? ⟨gb579, 0, none⟩ = some (.int .i64 t575) := (blk_cell BK579.out 0).trans rfl
                 have hcz76_1 : wc.cell? ⟨gb579, 1, none⟩ = some (.slice Ao36 t576.length co36) := (blk_cell BK579.out 1).trans rfl
                 have hfz76_0 := blk_frozen BK579.out 0
                 have hfz76_1 := blk_frozen BK579.out 1
                 go_upto_region 26 with (first | ((with_reducible refine gate_callee (f := 17) rfl ?_); refine goesM_ (some 80) rfl rfl Try.func17 (by kernel_rfl) rfl #[.agg #[.int .i64 t575, .slice Ao36 t576.length co36], .int .i64 1] rfl ?_; (with_reducible refine (laws_markGraph.calls kj66 t575 (fun k_ => some k_ = (.slice Ao36 t576.length co36 : Value).ownBlock) (.slice Ao36 t576.length co36) t576 1 t604 t605 w _ ?side1 ?side2 A71.out).mono ?_); (case side1 => exact Lz2 HB GE559 GE579); (case side2 => exact Kd.R_tight rfl HO_580001.out); rintro e w77 ⟨rfl, hy0, hb, hkp⟩; refine ⟨_, rfl, ?_⟩; replace HO_8 := Aside0.mk (Kd.R_mono (ok' := fun k_ => some k_ ≠ (.slice Ao40 t580.length co40 : Value).ownBlock ∧ some k_ ≠ (.slice Ao41 t583.length co41 : Value).ownBlock ∧ some k_ ≠ (v587 : Value).ownBlock) (Kd.R_keptB ((Kd.R_apart' HO_8.out (Kd.R_typed HO_580001.out) (by decide))) hkp (fun k_ hk_ hs_ => (hk_.2) hs_)) (fun k_ hk_ => ⟨hk_.1.1.1, hk_.1.1.2.1, hk_.1.1.2.2⟩)); replace HO_11 := Aside0.mk (Kd.R_mono (ok' := fun k_ => some k_ ≠ (v572 : Value).ownBlock ∧ some k_ ≠ (.slice Ao41 t583.length co41 : Value).ownBlock ∧ some k_ ≠ (v587 : Value).ownBlock) (Kd.R_keptB ((Kd.R_apart' HO_11.out (Kd.R_typed HO_580001.out) (by decide))) hkp (fun k_ hk_ hs_ => (hk_.2) hs_)) (fun k_ hk_ => ⟨hk_.1.1.1, hk_.1.1.2.1, hk_.1.1.2.2⟩)); replace HO_12 := Aside0.mk (Kd.R_mono (ok' := fun k_ => some k_ ≠ (v572 : Value).ownBlock ∧ some k_ ≠ (.slice Ao40 t580.length co40 : Value).ownBlock ∧ some k_ ≠ (v587 : Value).ownBlock) (Kd.R_keptB ((Kd.R_apart' HO_12.out (Kd.R_typed HO_580001.out) (by decide))) hkp (fun k_ hk_ hs_ => (hk_.2) hs_)) (fun k_ hk_ => ⟨hk_.1.1.1, hk_.1.1.2.1, hk_.1.1.2.2⟩)); replace HO_13 := Aside0.mk (Kd.R_mono (ok' := fun k_ => some k_ ≠ (v572 : Value).ownBlock ∧ some k_ ≠ (.slice Ao40 t580.length co40 : Value).ownBlock ∧ some k_ ≠ (.slice Ao41 t583.length co41 : Value).ownBlock) (Kd.R_keptB ((Kd.R_apart' HO_13.out (Kd.R_typed HO_580001.out) (by decide))) hkp (fun k_ hk_ hs_ => (hk_.2) hs_)) (fun k_ hk_ => ⟨hk_.1.1.1, hk_.1.1.2.1, hk_.1.1.2.2⟩)); replace BK559 := Aside0.mk (blk_kept (Bz BK559) hkp (fun hs_ => (fun e_ => (Kd.R_ne HO_580001.out BK559.out (by decide)) e_) hs_)); replace BK579 := Aside0.mk (blk_kept (Bz BK579) hkp (fun hs_ => (fun e_ => (Kd.R_ne HO_580001.out BK579.out (by decide)) e_) hs_)); replace HO_580001 := Aside0.mk (Kd.R_reok rfl hy0 (fun k_ e_ => HO_580001.out.1 k_ e_)); replace HB := Aside0.mk (hb); (try clear hb); (try clear hkp); (try clear hy0)) | ((with_reducible refine gate_callee (f := 18) rfl ?_); refine goesM_ (some 83) rfl rfl Try.func18 (by kernel_rfl) rfl #[.slice Ao40 t580.length co40, .int .i64 t604] rfl ?_; (with_reducible refine (laws_markIntS.calls kj66 (fun k_ => some k_ = (.slice Ao40 t580.length co40 : Value).ownBlock) (.slice Ao40 t580.length co40) t580 t604 t606 t607 w _ ?side1 ?side2 A72.out).mono ?_); (case side1 => exact Lz2 HB GE559 GE579); (case side2 => exact Kd.R_tight rfl HO_11.out); rintro e w78 ⟨rfl, hy0, hb, hkp⟩; refine ⟨_, rfl, ?_⟩; replace HO_8 := Aside0.mk (Kd.R_mono (ok' := fun k_ => some k_ ≠ (.slice Ao40 t580.length co40 : Value).ownBlock ∧ some k_ ≠ (.slice Ao41 t583.length co41 : Value).ownBlock ∧ some k_ ≠ (v587 : Value).ownBlock) (Kd.R_keptB (HO_8.out) hkp (fun k_ hk_ hs_ => (hk_.1) hs_)) (fun k_ hk_ => ⟨hk_.1.1, hk_.1.2.1, hk_.1.2.2⟩)); replace HO_12 := Aside0.mk (Kd.R_mono (ok' := fun k_ => some k_ ≠ (v572 : Value).ownBlock ∧ some k_ ≠ (.slice Ao40 t580.length co40 : Value).ownBlock ∧ some k_ ≠ (v587 : Value).ownBlock) (Kd.R_keptB (HO_12.out) hkp (fun k_ hk_ hs_ => (hk_.2.1) hs_)) (fun k_ hk_ => ⟨hk_.1.1, hk_.1.2.1, hk_.1.2.2⟩)); replace HO_13 := Aside0.mk (Kd.R_mono (ok' := fun k_ => some k_ ≠ (v572 : Value).ownBlock ∧ some k_ ≠ (.slice Ao40 t580.length co40 : Value).ownBlock ∧ some k_ ≠ (.slice Ao41 t583.length co41 : Value).ownBlock) (Kd.R_keptB (HO_13.out) hkp (fun k_ hk_ hs_ => (hk_.2.1) hs_)) (fun k_ hk_ => ⟨hk_.1.1, hk_.1.2.1, hk_.1.2.2⟩)); replace HO_580001 := Aside0.mk (Kd.R_mono (ok' := fun k_ => True) (Kd.R_keptB ((Kd.R_apart' HO_580001.out (Kd.R_typed HO_11.out) (by decide))) hkp (fun k_ hk_ hs_ => (hk_.2) hs_)) (fun k_ hk_ => trivial)); replace BK559 := Aside0.mk (blk_kept (Bz BK559) hkp (fun hs_ => (fun e_ => (Kd.R_ne HO_11.out BK559.out (by decide)) e_) hs_)); replace BK579 := Aside0.mk (blk_kept (Bz BK579) hkp (fun hs_ => (fun e_ => (Kd.R_ne HO_11.out BK579.out (by decide)) e_) hs_)); replace HO_11 := Aside0.mk (Kd.R_reok rfl hy0 (fun k_ e_ => HO_11.out.1 k_ e_)); replace HB := Aside0.mk (hb); (try clear hb); (try clear hkp); (try clear hy0)) | ((with_reducible refine gate_callee (f := 18) rfl ?_); refine goesM_ (some 86) rfl rfl Try.func18 (by kernel_rfl) rfl #[.slice Ao41 t583.length co41, .int .i64 t606] rfl ?_; (with_reducible refine (laws_markIntS.calls kj66 (fun k_ => some k_ = (.slice Ao41 t583.length co41 : Value).ownBlock) (.slice Ao41 t583.length co41) t583 t606 t608 t609 w _ ?side1 ?side2 A73.out).mono ?_); (case side1 => exact Lz2 HB GE559 GE579); (case side2 => exact Kd.R_tight rfl HO_12.out); rintro e w79 ⟨rfl, hy0, hb, hkp⟩; refine ⟨_, rfl, ?_⟩; replace HO_8 := Aside0.mk (Kd.R_mono (ok' := fun k_ => some k_ ≠ (.slice Ao40 t580.length co40 : Value).ownBlock ∧ some k_ ≠ (.slice Ao41 t583.length co41 : Value).ownBlock ∧ some k_ ≠ (v587 : Value).ownBlock) (Kd.R_keptB (HO_8.out) hkp (fun k_ hk_ hs_ => (hk_.2.1) hs_)) (fun k_ hk_ => ⟨hk_.1.1, hk_.1.2.1, hk_.1.2.2⟩)); replace HO_11 := Aside0.mk (Kd.R_mono (ok' := fun k_ => some k_ ≠ (v572 : Value).ownBlock ∧ some k_ ≠ (.slice Ao41 t583.length co41 : Value).ownBlock ∧ some k_ ≠ (v587 : Value).ownBlock) (Kd.R_keptB (HO_11.out) hkp (fun k_ hk_ hs_ => (hk_.2.1) hs_)) (fun k_ hk_ => ⟨hk_.1.1, hk_.1.2.1, hk_.1.2.2⟩)); replace HO_13 := Aside0.mk (Kd.R_mono (ok' := fun k_ => some k_ ≠ (v572 : Value).ownBlock ∧ some k_ ≠ (.slice Ao40 t580.length co40 : Value).ownBlock ∧ some k_ ≠ (.slice Ao41 t583.length co41 : Value).ownBlock) (Kd.R_keptB (HO_13.out) hkp (fun k_ hk_ hs_ => (hk_.2.2) hs_)) (fun k_ hk_ => ⟨hk_.1.1, hk_.1.2.1, hk_.1.2.2⟩)); replace HO_580001 := Aside0.mk (Kd.R_mono (ok' := fun k_ => True) (Kd.R_keptB ((Kd.R_apart' HO_580001.out (Kd.R_typed HO_12.out) (by decide))) hkp (fun k_ hk_ hs_ => (hk_.2) hs_)) (fun k_ hk_ => trivial)); replace BK559 := Aside0.mk (blk_kept (Bz BK559) hkp (fun hs_ => (fun e_ => (Kd.R_ne HO_12.out BK559.out (by decide)) e_) hs_)); replace BK579 := Aside0.mk (blk_kept (Bz BK579) hkp (fun hs_ => (fun e_ => (Kd.R_ne HO_12.out BK579.out (by decide)) e_) hs_)); replace HO_12 := Aside0.mk (Kd.R_reok rfl hy0 (fun k_ e_ => HO_12.out.1 k_ e_)); replace HB := Aside0.mk (hb); (try clear hb); (try clear hkp); (try clear hy0)))
                 (try simp only [Act.put, List.setIfInBounds_toArray, List.set_cons_zero, List.set_cons_succ])
                 go_cut [99] (fun v99 wc => ∃ (kq : Nat) (x99_73 : Bool), v99 = .bool x99_73 ∧ Aside0 (laws_FnExactScriptBetween.j8 kq l1 l2 t571 t574 t586 x99_73 a0_0 l0_1 = some r) ∧ Aside0 (kq ≤ kj66) ∧ Aside0 (Kd.R (Kd.int .i64) 3 wc w.heap.size (fun k_ => some k_ ≠ (v587 : Value).ownBlock) v572 t571) ∧ Aside0 (Kd.R (Kd.int .i64) 3 wc w.heap.size (fun k_ => some k_ ≠ (v572 : Value).ownBlock) v587 t586) ∧ Aside0 (Kd.R k67 67 wc w.heap.size (fun _ => True) (.slice Ao36 t576.length co36) t605) ∧ Aside0 (wc.heap[gb559]? = some (.cells #[.int .i64 a0_0, (.slice A0_1 l0_1.length c0_1)] 24 (0, 0))) ∧ Aside0 (wc.heap[gb579]? = some (.cells #[.int .i64 t575, (.slice Ao36 t576.length co36)] 31 (0, 0))) ∧ Aside0 (Below w.heap.size w wc))
                 case first =>
                  have H := HC74.out
                  clear HC74
                  by_cases c80 : t608 < 0
                  ·rw [if_pos c80] at H
                   have c80b0 : decide (t608 < 0) = true := decide_eq_true c80
                   clear c80
                   (first | rw [c80b0] | (simp only [i64_w, i32_w]; rw [c80b0]) | skip)
                   have H' := Aside0.mk H
                   clear H
                   go_wp2
                   go_meet
                   case rel => exact ⟨_, (true), (by first | rfl | (simp; done) | (simp [*]; done)), H', ⟨by have := HJ3.out; have := HJ6.out; have := HJ9.out; have := HJ21.out; have := HJ48.out; have := HJ52.out; have := HJ60.out; have := HJ66.out; first | omega | exact Nat.le_refl _⟩, ⟨by (with_reducible repeat (first | apply Kd.R_alloc | apply Kd.R_drewN | apply Kd.R_drew)); exact Kd.R_mono HO_8.out (fun _ hk => hk.2.2)⟩, ⟨by (with_reducible repeat (first | apply Kd.R_alloc | apply Kd.R_drewN | apply Kd.R_drew)); exact Kd.R_mono HO_13.out (fun _ hk => hk.1)⟩, ⟨by exact Rz HO_580001⟩, ⟨by exact Bz BK559⟩, ⟨by exact Bz BK579⟩, ⟨by exact Lz2 HB GE559 GE579⟩⟩
                  rw [if_neg c80] at H
                  have c80b0 : decide (t608 < 0) = false := decide_eq_false c80
                  clear c80
                  (first | rw [c80b0] | (simp only [i64_w, i32_w]; rw [c80b0]) | skip)
                  replace H := Option.bind_eq_some_iff.mp H
                  obtain ⟨t610, A810, H⟩ := H
                  replace H : (if t610 = true then (laws_FnExactScriptBetween.j8 kj66 l1 l2 t571 t574 t586 (t589 != t574) a0_0 l0_1) else (laws_FnExactScriptBetween.j8 kj66 l1 l2 t571 t574 t586 true a0_0 l0_1)) = some r := H
                  have A81 := Aside0.mk A810
                  clear A810
                  by_cases c82 : t610 = true
                  ·subst c82
                   have H1 : (laws_FnExactScriptBetween.j8 kj66 l1 l2 t571 t574 t586 (t589 != t574) a0_0 l0_1) = some r := by rw [if_pos rfl] at H; exact H
                   clear H
                   have H := H1
                   clear H1
                   have H' := Aside0.mk H
                   clear H
                   obtain ⟨Ao83, co83, eo83⟩ := Kd.R_slice HO_13.out
                   subst eo83
                   obtain ⟨Ao84, co84, eo84⟩ := Kd.R_slice HO_8.out
                   subst eo84
                   go_wp2_with (first | (go_at_call 15; (with_reducible refine (laws_eqIntS.calls kj66 _ _ t586 _ _ t571 true _ ?side1 ?side2 ?side3 ?side4 A81.out).mono ?_); (case side1 => exact Cz ((Kd.R_reads' HO_13.out).2.2)); (case side2 => exact (Kd.R_reads' HO_13.out).2.1); (case side3 => exact Cz ((Kd.R_reads' HO_8.out).2.2)); (case side4 => exact (Kd.R_reads' HO_8.out).2.1); rintro e w' ⟨rfl, ⟨nd, rfl⟩⟩))
                   go_meet
                   case rel => exact ⟨_, ((t589 != t574)), (by first | rfl | (simp; done) | (simp [*]; done)), H', ⟨by have := HJ3.out; have := HJ6.out; have := HJ9.out; have := HJ21.out; have := HJ48.out; have := HJ52.out; have := HJ60.out; have := HJ66.out; first | omega | exact Nat.le_refl _⟩, ⟨by (with_reducible repeat (first | apply Kd.R_alloc | apply Kd.R_drewN | apply Kd.R_drew)); exact Kd.R_mono HO_8.out (fun _ hk => hk.2.2)⟩, ⟨by (with_reducible repeat (first | apply Kd.R_alloc | apply Kd.R_drewN | apply Kd.R_drew)); exact Kd.R_mono HO_13.out (fun _ hk => hk.1)⟩, ⟨by exact Rz HO_580001⟩, ⟨by exact Bz BK559⟩, ⟨by exact Bz BK579⟩, ⟨by exact Lz2 HB GE559 GE579⟩⟩
                  replace c82 := Bool.eq_false_iff.mpr c82
                  subst c82
                  have H1 : (laws_FnExactScriptBetween.j8 kj66 l1 l2 t571 t574 t586 true a0_0 l0_1) = some r := by rw [if_neg (show ¬ (false = true) by decide)] at H; exact H
                  clear H
                  have H := H1
                  clear H1
                  have H' := Aside0.mk H
                  clear H
                  obtain ⟨Ao85, co85, eo85⟩ := Kd.R_slice HO_13.out
                  subst eo85
                  obtain ⟨Ao86, co86, eo86⟩ := Kd.R_slice HO_8.out
                  subst eo86
                  go_wp2_with (first | (go_at_call 15; (with_reducible refine (laws_eqIntS.calls kj66 _ _ t586 _ _ t571 false _ ?side1 ?side2 ?side3 ?side4 A81.out).mono ?_); (case side1 => exact Cz ((Kd.R_reads' HO_13.out).2.2)); (case side2 => exact (Kd.R_reads' HO_13.out).2.1); (case side3 => exact Cz ((Kd.R_reads' HO_8.out).2.2)); (case side4 => exact (Kd.R_reads' HO_8.out).2.1); rintro e w' ⟨rfl, ⟨nd, rfl⟩⟩))
                  go_meet
                  case rel => exact ⟨_, (true), (by first | rfl | (simp; done) | (simp [*]; done)), H', ⟨by have := HJ3.out; have := HJ6.out; have := HJ9.out; have := HJ21.out; have := HJ48.out; have := HJ52.out; have := HJ60.out; have := HJ66.out; first | omega | exact Nat.le_refl _⟩, ⟨by (with_reducible repeat (first | apply Kd.R_alloc | apply Kd.R_drewN | apply Kd.R_drew)); exact Kd.R_mono HO_8.out (fun _ hk => hk.2.2)⟩, ⟨by (with_reducible repeat (first | apply Kd.R_alloc | apply Kd.R_drewN | apply Kd.R_drew)); exact Kd.R_mono HO_13.out (fun _ hk => hk.1)⟩, ⟨by exact Rz HO_580001⟩, ⟨by exact Bz BK559⟩, ⟨by exact Bz BK579⟩, ⟨by exact Lz2 HB GE559 GE579⟩⟩
                 case rest =>
                  clear HC74
                  try clear c1
                  try clear c2
                  try clear c6
                  try clear c6b0
                  try clear c6b1
                  try clear c8
                  try clear c8b0
                  try clear c8b1
                  try clear c13
                  try clear c13b0
                  try clear c44
                  try clear c50
                  try clear c58
                  try clear c64
                  try clear c70
                  try clear c80
                  try clear c80b0
                  try clear c82
                  obtain ⟨kq, x99_73, rfl, HA, HJ73, HO_8, HO_13, HO_580001, BK559, BK579, HB⟩ := hcut
                  have hl580001_73 := (Kd.R_reads' HO_580001.out).1
                  rw [hl580001_73] at HO_580001
                  (try simp only [hl580001_73])
                  (try simp only [hl580001_73] at BK559)
                  (try simp only [hl580001_73] at BK579)
                  (try simp only [hl580001_73] at HO_8)
                  (try simp only [hl580001_73] at HO_13)
                  cases kq with
                  | zero => exact absurd HA.out (by simp [laws_FnExactScriptBetween.j8])
                  | succ kj73 =>
                   have H := HA.out
                   clear HA
                   simp only [laws_FnExactScriptBetween.j8] at H
                   have HC87 := Aside0.mk H
                   clear H
                   go_upto_if 99 with (fail)
                   go_cut [] (fun wc => ∃ (kq : Nat), Aside0 (laws_FnExactScriptBetween.j9 kq l1 l2 t571 t574 t586 a0_0 l0_1 = some r) ∧ Aside0 (kq ≤ kj73) ∧ Aside0 (Kd.R (Kd.int .i64) 3 wc w.heap.size (fun k_ => some k_ ≠ (v587 : Value).ownBlock) v572 t571) ∧ Aside0 (Kd.R (Kd.int .i64) 3 wc w.heap.size (fun k_ => some k_ ≠ (v572 : Value).ownBlock) v587 t586) ∧ Aside0 (Kd.R k67 67 wc w.heap.size (fun _ => True) (.slice Ao36 t605.length co36) t605) ∧ Aside0 (wc.heap[gb559]? = some (.cells #[.int .i64 a0_0, (.slice A0_1 l0_1.length c0_1)] 24 (0, 0))) ∧ Aside0 (wc.heap[gb579]? = some (.cells #[.int .i64 t575, (.slice Ao36 t605.length co36)] 31 (0, 0))) ∧ Aside0 (Below w.heap.size w wc))
                   case first =>
                    have H := HC87.out
                    clear HC87
                    by_cases c88 : x99_73 = true
                    ·subst c88
                     have H1 : (some false) = some r := by rw [if_pos rfl] at H; exact H
                     clear H
                     have H := H1
                     clear H1
                     obtain rfl := Option.some.inj H
                     go_wp2
                     go_ret
                     exact ⟨by first | rfl | (simp [errW_none, errW_some] <;> rfl) | (simp [*, errW_none, errW_some] <;> rfl), by exact Lz2 HB GE559 GE579⟩
                    replace c88 := Bool.eq_false_iff.mpr c88
                    subst c88
                    have H1 : (laws_FnExactScriptBetween.j9 kj73 l1 l2 t571 t574 t586 a0_0 l0_1) = some r := by rw [if_neg (show ¬ (false = true) by decide)] at H; exact H
                    clear H
                    have H := H1
                    clear H1
                    have H' := Aside0.mk H
                    clear H
                    go_wp2
                    go_meet
                    case rel => exact ⟨_, H', ⟨by have := HJ3.out; have := HJ6.out; have := HJ9.out; have := HJ21.out; have := HJ48.out; have := HJ52.out; have := HJ60.out; have := HJ66.out; have := HJ73.out; first | omega | exact Nat.le_refl _⟩, ⟨by (try simp only [hl580001_73]); exact Rz HO_8⟩, ⟨by (try simp only [hl580001_73]); exact Rz HO_13⟩, ⟨by (try simp only [hl580001_73]); exact Rz HO_580001⟩, ⟨by (try simp only [hl580001_73]); exact Bz BK559⟩, ⟨by (try simp only [hl580001_73]); exact Bz BK579⟩, ⟨by exact Lz2 HB GE559 GE579⟩⟩
                   case rest =>
                    clear HC87
                    try clear c1
                    try clear c2
                    try clear c6
                    try clear c6b0
                    try clear c6b1
                    try clear c8
                    try clear c8b0
                    try clear c8b1
                    try clear c13
                    try clear c13b0
                    try clear c44
                    try clear c50
                    try clear c58
                    try clear c64
                    try clear c70
                    try clear c80
                    try clear c80b0
                    try clear c82
                    try clear c88
                    obtain ⟨kq, HA, HJ86, HO_8, HO_13, HO_580001, BK559, BK579, HB⟩ := hcut
                    cases kq with
                    | zero => exact absurd HA.out (by simp [laws_FnExactScriptBetween.j9])
                    | succ kj86 =>
                     have H := HA.out
                     clear HA
                     simp only [laws_FnExactScriptBetween.j9] at H
                     replace H := Option.bind_eq_some_iff.mp H
                     obtain ⟨⟨t611, t612⟩, A890, H⟩ := H
                     replace H : ((laws_heldIntS.f kj86 t612 1).bind fun t613 => (if t613 < 0 then (some false) else (laws_FnExactScriptBetween.j10 kj86 l1 l2 t571 t574 t612 t611 t613 a0_0 l0_1))) = some r := H
                     have A89 := Aside0.mk A890
                     clear A890
                     replace H := Option.bind_eq_some_iff.mp H
                     obtain ⟨t613, A900, H⟩ := H
                     replace H : (if t613 < 0 then (some false) else (laws_FnExactScriptBetween.j10 kj86 l1 l2 t571 t574 t612 t611 t613 a0_0 l0_1)) = some r := H
                     have A90 := Aside0.mk A900
                     clear A900
                     have HC91 := Aside0.mk H
                     clear H
                     obtain ⟨Ao92, co92, eo92⟩ := Kd.R_slice HO_13.out
                     subst eo92
                     go_upto_if 107 with (first | ((with_reducible refine gate_callee (f := 18) rfl ?_); refine goesM_ (some 102) rfl rfl Try.func18 (by kernel_rfl) rfl #[.slice Ao92 t586.length co92, .int .i64 1] rfl ?_; (with_reducible refine (laws_markIntS.calls kj86 (fun k_ => some k_ = (.slice Ao92 t586.length co92 : Value).ownBlock) (.slice Ao92 t586.length co92) t586 1 t611 t612 w _ ?side1 ?side2 A89.out).mono ?_); (case side1 => exact Lz2 HB GE559 GE579); (case side2 => exact Kd.R_tight rfl HO_13.out); rintro e w93 ⟨rfl, hy0, hb, hkp⟩; refine ⟨_, rfl, ?_⟩; replace HO_8 := Aside0.mk (Kd.R_mono (ok' := fun k_ => some k_ ≠ (.slice Ao92 t586.length co92 : Value).ownBlock) (Kd.R_keptB (HO_8.out) hkp (fun k_ hk_ hs_ => (hk_) hs_)) (fun k_ hk_ => hk_.1)); replace HO_580001 := Aside0.mk (Kd.R_mono (ok' := fun k_ => True) (Kd.R_keptB ((Kd.R_apart' HO_580001.out (Kd.R_typed HO_13.out) (by decide))) hkp (fun k_ hk_ hs_ => (hk_.2) hs_)) (fun k_ hk_ => trivial)); replace BK559 := Aside0.mk (blk_kept (Bz BK559) hkp (fun hs_ => (fun e_ => (Kd.R_ne HO_13.out BK559.out (by decide)) e_) hs_)); replace BK579 := Aside0.mk (blk_kept (Bz BK579) hkp (fun hs_ => (fun e_ => (Kd.R_ne HO_13.out BK579.out (by decide)) e_) hs_)); replace HO_13 := Aside0.mk (Kd.R_reok rfl hy0 (fun k_ e_ => HO_13.out.1 k_ e_)); replace HB := Aside0.mk (hb); (try clear hb); (try clear hkp); (try clear hy0)) | ((with_reducible refine gate_callee (f := 19) rfl ?_); refine goesL_ (some 105) rfl rfl Try.func19 (by kernel_rfl) rfl #[.slice Ao92 t612.length co92, .int .i64 1] rfl (by (try simp only [List.map_toArray, List.map_cons, List.map_nil]); first | done | (rw [show t612.length = t586.length from (Kd.R_reads' HO_13.out).1.symm] <;> rfl) | rfl | (simp only [List.length_drop, List.length_take]; rfl)) ?_; (with_reducible refine (laws_heldIntS.calls kj86 _ _ t612 1 t613 _ ?side1 ?side2 A90.out).mono ?_); (case side1 => exact Cz ((Kd.R_reads' HO_13.out).2.2)); (case side2 => rw [show t612.length = t586.length from (Kd.R_reads' HO_13.out).1.symm]; exact (Kd.R_reads' HO_13.out).2.1); rintro e w' ⟨rfl, ⟨nd, rfl⟩⟩; refine ⟨_, rfl, ?_⟩))
                     (try simp only [Act.put, List.setIfInBounds_toArray, List.set_cons_zero, List.set_cons_succ])
                     go_cut [] (fun wc => ∃ (kq : Nat), Aside0 (laws_FnExactScriptBetween.j10 kq l1 l2 t571 t574 t612 t611 t613 a0_0 l0_1 = some r) ∧ Aside0 (kq ≤ kj86) ∧ Aside0 (Kd.R (Kd.int .i64) 3 wc w.heap.size (fun k_ => some k_ ≠ ((.slice Ao92 t586.length co92) : Value).ownBlock) v572 t571) ∧ Aside0 (Kd.R (Kd.int .i64) 3 wc w.heap.size (fun k_ => some k_ ≠ (v572 : Value).ownBlock) (.slice Ao92 t586.length co92) t612) ∧ Aside0 (Kd.R k67 67 wc w.heap.size (fun _ => True) (.slice Ao36 t605.length co36) t605) ∧ Aside0 (wc.heap[gb559]? = some (.cells #[.int .i64 a0_0, (.slice A0_1 l0_1.length c0_1)] 24 (0, 0))) ∧ Aside0 (wc.heap[gb579]? = some (.cells #[.int .i64 t575, (.slice Ao36 t605.length co36)] 31 (0, 0))) ∧ Aside0 (Below w.heap.size w wc))
                     case first =>
                      have H := HC91.out
                      clear HC91
                      by_cases c94 : t613 < 0
                      ·rw [if_pos c94] at H
                       have c94b0 : decide (t613 < 0) = true := decide_eq_true c94
                       clear c94
                       (first | rw [c94b0] | (simp only [i64_w, i32_w]; rw [c94b0]) | skip)
                       obtain rfl := Option.some.inj H
                       go_wp2
                       go_ret
                       exact ⟨by first | rfl | (simp [errW_none, errW_some] <;> rfl) | (simp [*, errW_none, errW_some] <;> rfl), by exact Lz2 HB GE559 GE579⟩
                      rw [if_neg c94] at H
                      have c94b0 : decide (t613 < 0) = false := decide_eq_false c94
                      clear c94
                      (first | rw [c94b0] | (simp only [i64_w, i32_w]; rw [c94b0]) | skip)
                      have H' := Aside0.mk H
                      clear H
                      go_wp2
                      go_meet
                      case rel => exact ⟨_, H', ⟨by have := HJ3.out; have := HJ6.out; have := HJ9.out; have := HJ21.out; have := HJ48.out; have := HJ52.out; have := HJ60.out; have := HJ66.out; have := HJ73.out; have := HJ86.out; first | omega | exact Nat.le_refl _⟩, ⟨by (try simp only [hl580001_73]); exact Rz HO_8⟩, ⟨by (try simp only [hl580001_73]); exact Rz HO_13⟩, ⟨by (try simp only [hl580001_73]); exact Rz HO_580001⟩, ⟨by (try simp only [hl580001_73]); exact Bz BK559⟩, ⟨by (try simp only [hl580001_73]); exact Bz BK579⟩, ⟨by exact Lz2 HB GE559 GE579⟩⟩
                     case rest =>
                      clear HC91
                      try clear c1
                      try clear c2
                      try clear c6
                      try clear c6b0
                      try clear c6b1
                      try clear c8
                      try clear c8b0
                      try clear c8b1
                      try clear c13
                      try clear c13b0
                      try clear c44
                      try clear c50
                      try clear c58
                      try clear c64
                      try clear c70
                      try clear c80
                      try clear c80b0
                      try clear c82
                      try clear c88
                      try clear c94
                      try clear c94b0
                      obtain ⟨kq, HA, HJ90, HO_8, HO_13, HO_580001, BK559, BK579, HB⟩ := hcut
                      have hl13_90 := (Kd.R_reads' HO_13.out).1
                      rw [hl13_90] at HO_13
                      (try simp only [hl13_90])
                      (try simp only [hl13_90] at BK559)
                      (try simp only [hl13_90] at BK579)
                      (try simp only [hl13_90] at HO_8)
                      (try simp only [hl13_90] at HO_580001)
                      cases kq with
                      | zero => exact absurd HA.out (by simp [laws_FnExactScriptBetween.j10])
                      | succ kj90 =>
                       have H := HA.out
                       clear HA
                       simp only [laws_FnExactScriptBetween.j10] at H
                       have HC95 := Aside0.mk H
                       clear H
                       go_upto_if 110 with (fail)
                       go_cut [] (fun wc => ∃ (kq : Nat), Aside0 (laws_FnExactScriptBetween.j11 kq l1 l2 t571 t574 t612 t611 a0_0 l0_1 = some r) ∧ Aside0 (kq ≤ kj90) ∧ Aside0 (Kd.R (Kd.int .i64) 3 wc w.heap.size (fun k_ => some k_ ≠ ((.slice Ao92 t612.length co92) : Value).ownBlock) v572 t571) ∧ Aside0 (Kd.R (Kd.int .i64) 3 wc w.heap.size (fun k_ => some k_ ≠ (v572 : Value).ownBlock) (.slice Ao92 t612.length co92) t612) ∧ Aside0 (Kd.R k67 67 wc w.heap.size (fun _ => True) (.slice Ao36 t605.length co36) t605) ∧ Aside0 (wc.heap[gb559]? = some (.cells #[.int .i64 a0_0, (.slice A0_1 l0_1.length c0_1)] 24 (0, 0))) ∧ Aside0 (wc.heap[gb579]? = some (.cells #[.int .i64 t575, (.slice Ao36 t605.length co36)] 31 (0, 0))) ∧ Aside0 (Below w.heap.size w wc))
                       case first =>
                        have H := HC95.out
                        clear HC95
                        by_cases c96 : t613 = t611
                        ·rw [if_pos c96] at H
                         have c96b0 : (t613 == t611) = true := beq_iff_eq.mpr c96
                         have c96b1 : (t613 != t611) = false := bne_eq_false_iff_eq.mpr c96
                         clear c96
                         (first | rw [c96b0] | (simp only [i64_w, i32_w]; rw [c96b0]) | skip)
                         have H' := Aside0.mk H
                         clear H
                         go_wp2
                         go_meet
                         case rel => exact ⟨_, H', ⟨by have := HJ3.out; have := HJ6.out; have := HJ9.out; have := HJ21.out; have := HJ48.out; have := HJ52.out; have := HJ60.out; have := HJ66.out; have := HJ73.out; have := HJ86.out; have := HJ90.out; first | omega | exact Nat.le_refl _⟩, ⟨by (try simp only [hl580001_73]); (try simp only [hl13_90]); exact Rz HO_8⟩, ⟨by (try simp only [hl580001_73]); (try simp only [hl13_90]); exact Rz HO_13⟩, ⟨by (try simp only [hl580001_73]); (try simp only [hl13_90]); exact Rz HO_580001⟩, ⟨by (try simp only [hl580001_73]); (try simp only [hl13_90]); exact Bz BK559⟩, ⟨by (try simp only [hl580001_73]); (try simp only [hl13_90]); exact Bz BK579⟩, ⟨by exact Lz2 HB GE559 GE579⟩⟩
                        rw [if_neg c96] at H
                        have c96b0 : (t613 == t611) = false := beq_eq_false_iff_ne.mpr c96
                        have c96b1 : (t613 != t611) = true := bne_iff_ne.mpr c96
                        (first | rw [c96b0] | (simp only [i64_w, i32_w]; rw [c96b0]) | skip)
                        obtain rfl := Option.some.inj H
                        go_wp2
                        go_ret
                        exact ⟨by first | rfl | (simp [errW_none, errW_some] <;> rfl) | (simp [*, errW_none, errW_some] <;> rfl), by exact Lz2 HB GE559 GE579⟩
                       case rest =>
                        clear HC95
                        try clear c1
                        try clear c2
                        try clear c6
                        try clear c6b0
                        try clear c6b1
                        try clear c8
                        try clear c8b0
                        try clear c8b1
                        try clear c13
                        try clear c13b0
                        try clear c44
                        try clear c50
                        try clear c58
                        try clear c64
                        try clear c70
                        try clear c80
                        try clear c80b0
                        try clear c82
                        try clear c88
                        try clear c94
                        try clear c94b0
                        try clear c96
                        try clear c96b0
                        try clear c96b1
                        obtain ⟨kq, HA, HJ94, HO_8, HO_13, HO_580001, BK559, BK579, HB⟩ := hcut
                        cases kq with
                        | zero => exact absurd HA.out (by simp [laws_FnExactScriptBetween.j11])
                        | succ kj94 =>
                         have H := HA.out
                         clear HA
                         simp only [laws_FnExactScriptBetween.j11] at H
                         replace H := Option.bind_eq_some_iff.mp H
                         obtain ⟨⟨t614, t615⟩, A970, H⟩ := H
                         replace H : ((laws_toIntS.f kj94 l1).bind fun t618 => ((laws_toIntS.f kj94 l2).bind fun t621 => ((impl_ScriptBetween.f kj94 t614 t615 t618 t621).bind fun bt624 => ((laws_eqIntS.f kj94 bt624.1 t571).bind fun t628 => (if t628 = true then (laws_FnExactScriptBetween.j12 kj94 t612 t611 (bt624.2 != t574)) else (laws_FnExactScriptBetween.j12 kj94 t612 t611 true)))))) = some r := H
                         have A97 := Aside0.mk A970
                         clear A970
                         replace H := Option.bind_eq_some_iff.mp H
                         obtain ⟨t618, A980, H⟩ := H
                         replace H : ((laws_toIntS.f kj94 l2).bind fun t621 => ((impl_ScriptBetween.f kj94 t614 t615 t618 t621).bind fun bt624 => ((laws_eqIntS.f kj94 bt624.1 t571).bind fun t628 => (if t628 = true then (laws_FnExactScriptBetween.j12 kj94 t612 t611 (bt624.2 != t574)) else (laws_FnExactScriptBetween.j12 kj94 t612 t611 true))))) = some r := H
                         have A98 := Aside0.mk A980
                         clear A980
                         replace H := Option.bind_eq_some_iff.mp H
                         obtain ⟨t621, A990, H⟩ := H
                         replace H : ((impl_ScriptBetween.f kj94 t614 t615 t618 t621).bind fun bt624 => ((laws_eqIntS.f kj94 bt624.1 t571).bind fun t628 => (if t628 = true then (laws_FnExactScriptBetween.j12 kj94 t612 t611 (bt624.2 != t574)) else (laws_FnExactScriptBetween.j12 kj94 t612 t611 true)))) = some r := H
                         have A99 := Aside0.mk A990
                         clear A990
                         replace H := Option.bind_eq_some_iff.mp H
                         obtain ⟨⟨t624, t627⟩, A1000, H⟩ := H
                         replace H : ((laws_eqIntS.f kj94 t624 t571).bind fun t628 => (if t628 = true then (laws_FnExactScriptBetween.j12 kj94 t612 t611 (t627 != t574)) else (laws_FnExactScriptBetween.j12 kj94 t612 t611 true))) = some r := H
                         have A100 := Aside0.mk A1000
                         clear A1000
                         have HC101 := Aside0.mk H
                         clear H
                         have hnb102 := NB559_579.out
                         have hnc102 := NB579_559.out
                         have hcz103_0 : wc.cell? ⟨gb559, 0, none⟩ = some (.int .i64 a0_0) := (blk_cell BK559.out 0).trans rfl
                         have hcz103_1 : wc.cell? ⟨gb559, 1, none⟩ = some (.slice A0_1 l0_1.length c0_1) := (blk_cell BK559.out 1).trans rfl
                         have hfz103_0 := blk_frozen BK559.out 0
                         have hfz103_1 := blk_frozen BK559.out 1
                         go_upto_region 37 with (first | ((with_reducible refine gate_callee (f := 12) rfl ?_); refine goesM_ (some 113) rfl rfl Try.func12 (by kernel_rfl) rfl #[.agg #[.int .i64 a0_0, .slice A0_1 l0_1.length c0_1]] rfl ?_; (with_reducible refine (laws_toGraph.calls kj94 a0_0 _ _ l0_1 t614 t615 _ ?side1 ?side2 A97.out).mono ?_); (case side1 => exact Cz ((Kd.C_below HR0_1.out HB.out))); (case side2 => exact HC0_1.out); rintro e w104 ⟨v616, rfl, ho0, hb⟩; refine ⟨_, rfl, ?_⟩; replace HO_8 := Aside0.mk (Kd.R_below (Rz HO_8) hb); replace HO_13 := Aside0.mk (Kd.R_below (Rz HO_13) hb); have HO617 := Aside0.mk (Kd.R_lower (Kd.R_new' ho0 (Kd.R_lt (Rz HO_580001))) (below_size (by exact Lz2 HB GE559 GE579))); replace HO_580001 := Aside0.mk (Kd.R_elder' (Rz HO_580001) (Kd.R_base ho0) hb); replace BK559 := Aside0.mk (blk_below (g := gb559) (o := .cells #[.int .i64 a0_0, .slice A0_1 l0_1.length c0_1] 24 (0, 0)) (Bz BK559) hb); replace BK579 := Aside0.mk (blk_below (g := gb579) (o := .cells #[.int .i64 t575, .slice Ao36 t605.length co36] 31 (0, 0)) (Bz BK579) hb); replace HB := Aside0.mk (below_step (by exact Lz2 HB GE559 GE579) hb); (try clear hb); (try clear ho0)) | ((with_reducible refine gate_callee (f := 13) rfl ?_); refine goesM_ (some 115) rfl rfl Try.func13 (by kernel_rfl) rfl #[.slice A1 l1.length c1] rfl ?_; (with_reducible refine (laws_toIntS.calls kj94 _ _ l1 t618 _ ?side1 ?side2 A98.out).mono ?_); (case side1 => exact Cz ((Kd.C_below HR1.out HB.out))); (case side2 => exact HC1.out); rintro e w105 ⟨v619, rfl, ho0, hb⟩; refine ⟨_, rfl, ?_⟩; replace HO_580001 := Aside0.mk (Kd.R_below (Rz HO_580001) hb); replace HO617 := Aside0.mk (Kd.R_below (Rz HO617) hb); have HO620 := Aside0.mk (Kd.R_lower (Kd.R_new' (Kd.R_new' ho0 (Kd.R_lt (Rz HO_8))) (Kd.R_lt (Rz HO_13))) (below_size (by exact Lz2 HB GE559 GE579))); replace HO_8 := Aside0.mk (Kd.R_elder' (Rz HO_8) (Kd.R_base ho0) hb); replace HO_13 := Aside0.mk (Kd.R_elder' (Rz HO_13) (Kd.R_base ho0) hb); replace BK559 := Aside0.mk (blk_below (g := gb559) (o := .cells #[.int .i64 a0_0, .slice A0_1 l0_1.length c0_1] 24 (0, 0)) (Bz BK559) hb); replace BK579 := Aside0.mk (blk_below (g := gb579) (o := .cells #[.int .i64 t575, .slice Ao36 t605.length co36] 31 (0, 0)) (Bz BK579) hb); replace HB := Aside0.mk (below_step (by exact Lz2 HB GE559 GE579) hb); (try clear hb); (try clear ho0)) | ((with_reducible refine gate_callee (f := 13) rfl ?_); refine goesM_ (some 117) rfl rfl Try.func13 (by kernel_rfl) rfl #[.slice A2 l2.length c2] rfl ?_; (with_reducible refine (laws_toIntS.calls kj94 _ _ l2 t621 _ ?side1 ?side2 A99.out).mono ?_); (case side1 => exact Cz ((Kd.C_below HR2.out HB.out))); (case side2 => exact HC2.out); rintro e w106 ⟨v622, rfl, ho0, hb⟩; refine ⟨_, rfl, ?_⟩; replace HO_580001 := Aside0.mk (Kd.R_below (Rz HO_580001) hb); replace HO617 := Aside0.mk (Kd.R_below (Rz HO617) hb); have HO623 := Aside0.mk (Kd.R_lower (Kd.R_new' (Kd.R_new' (Kd.R_new' ho0 (Kd.R_lt (Rz HO_8))) (Kd.R_lt (Rz HO_13))) (Kd.R_lt (Rz HO620))) (below_size (by exact Lz2 HB GE559 GE579))); replace HO_8 := Aside0.mk (Kd.R_elder' (Rz HO_8) (Kd.R_base ho0) hb); replace HO_13 := Aside0.mk (Kd.R_elder' (Rz HO_13) (Kd.R_base ho0) hb); replace HO620 := Aside0.mk (Kd.R_elder' (Rz HO620) (Kd.R_base ho0) hb); replace BK559 := Aside0.mk (blk_below (g := gb559) (o := .cells #[.int .i64 a0_0, .slice A0_1 l0_1.length c0_1] 24 (0, 0)) (Bz BK559) hb); replace BK579 := Aside0.mk (blk_below (g := gb579) (o := .cells #[.int .i64 t575, .slice Ao36 t605.length co36] 31 (0, 0)) (Bz BK579) hb); replace HB := Aside0.mk (below_step (by exact Lz2 HB GE559 GE579) hb); (try clear hb); (try clear ho0); obtain ⟨Ao107, co107, eo107⟩ := Kd.R_slice HO617.out; subst eo107; obtain ⟨Ao108, co108, eo108⟩ := Kd.R_slice HO620.out; subst eo108; obtain ⟨Ao109, co109, eo109⟩ := Kd.R_slice HO623.out; subst eo109) | ((with_reducible refine gate_callee (f := 21) rfl ?_); refine goesM_ (some 118) rfl rfl Try.func21 (by kernel_rfl) rfl #[.agg #[.int .i64 t614, .slice Ao107 t615.length co107], .slice Ao108 t618.length co108, .slice Ao109 t621.length co109] rfl ?_; (with_reducible refine (impl_ScriptBetween.calls kj94 t614 _ _ t615 _ _ t618 _ _ t621 t624 t627 _ ?side1 ?side2 ?side3 ?side4 ?side5 ?side6 A100.out).mono ?_); (case side1 => exact Cz ((Kd.R_reads' HO617.out).2.2)); (case side2 => exact (Kd.R_reads' HO617.out).2.1); (case side3 => exact Cz ((Kd.R_reads' HO620.out).2.2)); (case side4 => exact (Kd.R_reads' HO620.out).2.1); (case side5 => exact Cz ((Kd.R_reads' HO623.out).2.2)); (case side6 => exact (Kd.R_reads' HO623.out).2.1); rintro e w110 ⟨v625, rfl, ho0, hb⟩; refine ⟨_, rfl, ?_⟩; replace HO_580001 := Aside0.mk (Kd.R_below (Rz HO_580001) hb); replace HO617 := Aside0.mk (Kd.R_below (Rz HO617) hb); have HO626 := Aside0.mk (Kd.R_lower (Kd.R_new' (Kd.R_new' (Kd.R_new' (Kd.R_new' ho0 (Kd.R_lt (Rz HO_8))) (Kd.R_lt (Rz HO_13))) (Kd.R_lt (Rz HO620))) (Kd.R_lt (Rz HO623))) (below_size (by exact Lz2 HB GE559 GE579))); replace HO_8 := Aside0.mk (Kd.R_elder' (Rz HO_8) (Kd.R_base ho0) hb); replace HO_13 := Aside0.mk (Kd.R_elder' (Rz HO_13) (Kd.R_base ho0) hb); replace HO620 := Aside0.mk (Kd.R_elder' (Rz HO620) (Kd.R_base ho0) hb); replace HO623 := Aside0.mk (Kd.R_elder' (Rz HO623) (Kd.R_base ho0) hb); replace BK559 := Aside0.mk (blk_below (g := gb559) (o := .cells #[.int .i64 a0_0, .slice A0_1 l0_1.length c0_1] 24 (0, 0)) (Bz BK559) hb); replace BK579 := Aside0.mk (blk_below (g := gb579) (o := .cells #[.int .i64 t575, .slice Ao36 t605.length co36] 31 (0, 0)) (Bz BK579) hb); replace HB := Aside0.mk (below_step (by exact Lz2 HB GE559 GE579) hb); (try clear hb); (try clear ho0)))
                         (try simp only [Act.put, List.setIfInBounds_toArray, List.set_cons_zero, List.set_cons_succ])
                         go_cut [129] (fun v129 wc => ∃ (kq : Nat) (x129_100 : Bool), v129 = .bool x129_100 ∧ Aside0 (laws_FnExactScriptBetween.j12 kq t612 t611 x129_100 = some r) ∧ Aside0 (kq ≤ kj94) ∧ Aside0 (Kd.R (Kd.int .i64) 3 wc w.heap.size (fun _ => True) (.slice Ao92 t612.length co92) t612) ∧ Aside0 (Kd.R k67 67 wc w.heap.size (fun _ => True) (.slice Ao36 t605.length co36) t605) ∧ Aside0 (wc.heap[gb559]? = some (.cells #[.int .i64 a0_0, (.slice A0_1 l0_1.length c0_1)] 24 (0, 0))) ∧ Aside0 (wc.heap[gb579]? = some (.cells #[.int .i64 t575, (.slice Ao36 t605.length co36)] 31 (0, 0))) ∧ Aside0 (Below w.heap.size w wc))
                         case first =>
                          have H := HC101.out
                          clear HC101
                          replace H := Option.bind_eq_some_iff.mp H
                          obtain ⟨t628, A1110, H⟩ := H
                          replace H : (if t628 = true then (laws_FnExactScriptBetween.j12 kj94 t612 t611 (t627 != t574)) else (laws_FnExactScriptBetween.j12 kj94 t612 t611 true)) = some r := H
                          have A111 := Aside0.mk A1110
                          clear A1110
                          by_cases c112 : t628 = true
                          ·subst c112
                           have H1 : (laws_FnExactScriptBetween.j12 kj94 t612 t611 (t627 != t574)) = some r := by rw [if_pos rfl] at H; exact H
                           clear H
                           have H := H1
                           clear H1
                           have H' := Aside0.mk H
                           clear H
                           obtain ⟨Ao113, co113, eo113⟩ := Kd.R_slice HO626.out
                           subst eo113
                           obtain ⟨Ao114, co114, eo114⟩ := Kd.R_slice HO_8.out
                           subst eo114
                           go_wp2_with (first | ((with_reducible refine gate_callee (f := 15) rfl ?_); refine goesM_ (some 123) rfl rfl Try.func15 (by kernel_rfl) rfl #[.slice Ao113 t624.length co113, .slice Ao114 t571.length co114] rfl ?_; (with_reducible refine (laws_eqIntS.calls kj94 _ _ t624 _ _ t571 true _ ?side1 ?side2 ?side3 ?side4 A111.out).mono ?_); (case side1 => exact Cz ((Kd.R_reads' HO626.out).2.2)); (case side2 => exact (Kd.R_reads' HO626.out).2.1); (case side3 => exact Cz ((Kd.R_reads' HO_8.out).2.2)); (case side4 => exact (Kd.R_reads' HO_8.out).2.1); rintro e w' ⟨rfl, ⟨nd, rfl⟩⟩; refine ⟨_, rfl, ?_⟩))
                           go_meet
                           case rel => exact ⟨_, ((t627 != t574)), (by first | rfl | (simp; done) | (simp [*]; done)), H', ⟨by have := HJ3.out; have := HJ6.out; have := HJ9.out; have := HJ21.out; have := HJ48.out; have := HJ52.out; have := HJ60.out; have := HJ66.out; have := HJ73.out; have := HJ86.out; have := HJ90.out; have := HJ94.out; first | omega | exact Nat.le_refl _⟩, ⟨by (try simp only [hl580001_73]); (try simp only [hl13_90]); (with_reducible repeat (first | apply Kd.R_alloc | apply Kd.R_drewN | apply Kd.R_drew)); exact Kd.R_mono HO_13.out (fun _ hk => trivial)⟩, ⟨by (try simp only [hl580001_73]); (try simp only [hl13_90]); (with_reducible repeat (first | apply Kd.R_alloc | apply Kd.R_drewN | apply Kd.R_drew)); exact Kd.R_mono HO_580001.out (fun _ hk => trivial)⟩, ⟨by (try simp only [hl580001_73]); (try simp only [hl13_90]); exact Bz BK559⟩, ⟨by (try simp only [hl580001_73]); (try simp only [hl13_90]); exact Bz BK579⟩, ⟨by exact Lz2 HB GE559 GE579⟩⟩
                          replace c112 := Bool.eq_false_iff.mpr c112
                          subst c112
                          have H1 : (laws_FnExactScriptBetween.j12 kj94 t612 t611 true) = some r := by rw [if_neg (show ¬ (false = true) by decide)] at H; exact H
                          clear H
                          have H := H1
                          clear H1
                          have H' := Aside0.mk H
                          clear H
                          obtain ⟨Ao115, co115, eo115⟩ := Kd.R_slice HO626.out
                          subst eo115
                          obtain ⟨Ao116, co116, eo116⟩ := Kd.R_slice HO_8.out
                          subst eo116
                          go_wp2_with (first | ((with_reducible refine gate_callee (f := 15) rfl ?_); refine goesM_ (some 123) rfl rfl Try.func15 (by kernel_rfl) rfl #[.slice Ao115 t624.length co115, .slice Ao116 t571.length co116] rfl ?_; (with_reducible refine (laws_eqIntS.calls kj94 _ _ t624 _ _ t571 false _ ?side1 ?side2 ?side3 ?side4 A111.out).mono ?_); (case side1 => exact Cz ((Kd.R_reads' HO626.out).2.2)); (case side2 => exact (Kd.R_reads' HO626.out).2.1); (case side3 => exact Cz ((Kd.R_reads' HO_8.out).2.2)); (case side4 => exact (Kd.R_reads' HO_8.out).2.1); rintro e w' ⟨rfl, ⟨nd, rfl⟩⟩; refine ⟨_, rfl, ?_⟩))
                          go_meet
                          case rel => exact ⟨_, (true), (by first | rfl | (simp; done) | (simp [*]; done)), H', ⟨by have := HJ3.out; have := HJ6.out; have := HJ9.out; have := HJ21.out; have := HJ48.out; have := HJ52.out; have := HJ60.out; have := HJ66.out; have := HJ73.out; have := HJ86.out; have := HJ90.out; have := HJ94.out; first | omega | exact Nat.le_refl _⟩, ⟨by (try simp only [hl580001_73]); (try simp only [hl13_90]); (with_reducible repeat (first | apply Kd.R_alloc | apply Kd.R_drewN | apply Kd.R_drew)); exact Kd.R_mono HO_13.out (fun _ hk => trivial)⟩, ⟨by (try simp only [hl580001_73]); (try simp only [hl13_90]); (with_reducible repeat (first | apply Kd.R_alloc | apply Kd.R_drewN | apply Kd.R_drew)); exact Kd.R_mono HO_580001.out (fun _ hk => trivial)⟩, ⟨by (try simp only [hl580001_73]); (try simp only [hl13_90]); exact Bz BK559⟩, ⟨by (try simp only [hl580001_73]); (try simp only [hl13_90]); exact Bz BK579⟩, ⟨by exact Lz2 HB GE559 GE579⟩⟩
                         case rest =>
                          clear HC101
                          try clear c1
                          try clear c2
                          try clear c6
                          try clear c6b0
                          try clear c6b1
                          try clear c8
                          try clear c8b0
                          try clear c8b1
                          try clear c13
                          try clear c13b0
                          try clear c44
                          try clear c50
                          try clear c58
                          try clear c64
                          try clear c70
                          try clear c80
                          try clear c80b0
                          try clear c82
                          try clear c88
                          try clear c94
                          try clear c94b0
                          try clear c96
                          try clear c96b0
                          try clear c96b1
                          try clear c112
                          obtain ⟨kq, x129_100, rfl, HA, HJ100, HO_13, HO_580001, BK559, BK579, HB⟩ := hcut
                          cases kq with
                          | zero => exact absurd HA.out (by simp [laws_FnExactScriptBetween.j12])
                          | succ kj100 =>
                           have H := HA.out
                           clear HA
                           simp only [laws_FnExactScriptBetween.j12] at H
                           have HC117 := Aside0.mk H
                           clear H
                           go_upto_if 129 with (fail)
                           go_cut [] (fun wc => ∃ (kq : Nat), Aside0 (laws_FnExactScriptBetween.j13 kq t612 t611 = some r) ∧ Aside0 (kq ≤ kj100) ∧ Aside0 (Kd.R (Kd.int .i64) 3 wc w.heap.size (fun _ => True) (.slice Ao92 t612.length co92) t612) ∧ Aside0 (Kd.R k67 67 wc w.heap.size (fun _ => True) (.slice Ao36 t605.length co36) t605) ∧ Aside0 (wc.heap[gb559]? = some (.cells #[.int .i64 a0_0, (.slice A0_1 l0_1.length c0_1)] 24 (0, 0))) ∧ Aside0 (wc.heap[gb579]? = some (.cells #[.int .i64 t575, (.slice Ao36 t605.length co36)] 31 (0, 0))) ∧ Aside0 (Below w.heap.size w wc))
                           case first =>
                            have H := HC117.out
                            clear HC117
                            by_cases c118 : x129_100 = true
                            ·subst c118
                             have H1 : (some false) = some r := by rw [if_pos rfl] at H; exact H
                             clear H
                             have H := H1
                             clear H1
                             obtain rfl := Option.some.inj H
                             go_wp2
                             go_ret
                             exact ⟨by first | rfl | (simp [errW_none, errW_some] <;> rfl) | (simp [*, errW_none, errW_some] <;> rfl), by exact Lz2 HB GE559 GE579⟩
                            replace c118 := Bool.eq_false_iff.mpr c118
                            subst c118
                            have H1 : (laws_FnExactScriptBetween.j13 kj100 t612 t611) = some r := by rw [if_neg (show ¬ (false = true) by decide)] at H; exact H
                            clear H
                            have H := H1
                            clear H1
                            have H' := Aside0.mk H
                            clear H
                            go_wp2
                            go_meet
                            case rel => exact ⟨_, H', ⟨by have := HJ3.out; have := HJ6.out; have := HJ9.out; have := HJ21.out; have := HJ48.out; have := HJ52.out; have := HJ60.out; have := HJ66.out; have := HJ73.out; have := HJ86.out; have := HJ90.out; have := HJ94.out; have := HJ100.out; first | omega | exact Nat.le_refl _⟩, ⟨by (try simp only [hl580001_73]); (try simp only [hl13_90]); exact Rz HO_13⟩, ⟨by (try simp only [hl580001_73]); (try simp only [hl13_90]); exact Rz HO_580001⟩, ⟨by (try simp only [hl580001_73]); (try simp only [hl13_90]); exact Bz BK559⟩, ⟨by (try simp only [hl580001_73]); (try simp only [hl13_90]); exact Bz BK579⟩, ⟨by exact Lz2 HB GE559 GE579⟩⟩
                           case rest =>
                            clear HC117
                            try clear c1
                            try clear c2
                            try clear c6
                            try clear c6b0
                            try clear c6b1
                            try clear c8
                            try clear c8b0
                            try clear c8b1
                            try clear c13
                            try clear c13b0
                            try clear c44
                            try clear c50
                            try clear c58
                            try clear c64
                            try clear c70
                            try clear c80
                            try clear c80b0
                            try clear c82
                            try clear c88
                            try clear c94
                            try clear c94b0
                            try clear c96
                            try clear c96b0
                            try clear c96b1
                            try clear c112
                            try clear c118
                            obtain ⟨kq, HA, HJ116, HO_13, HO_580001, BK559, BK579, HB⟩ := hcut
                            cases kq with
                            | zero => exact absurd HA.out (by simp [laws_FnExactScriptBetween.j13])
                            | succ kj116 =>
                             have H := HA.out
                             clear HA
                             simp only [laws_FnExactScriptBetween.j13] at H
                             replace H := Option.bind_eq_some_iff.mp H
                             obtain ⟨t629, A1190, H⟩ := H
                             replace H : (if t629 < 0 then (some false) else (laws_FnExactScriptBetween.j14 kj116 t611 t629)) = some r := H
                             have A119 := Aside0.mk A1190
                             clear A1190
                             have HC120 := Aside0.mk H
                             clear H
                             go_upto_if 134 with (first | ((with_reducible refine gate_callee (f := 19) rfl ?_); refine goesM_ (some 132) rfl rfl Try.func19 (by kernel_rfl) rfl #[.slice Ao92 t612.length co92, .int .i64 1] rfl ?_; (with_reducible refine (laws_heldIntS.calls kj116 _ _ t612 1 t629 _ ?side1 ?side2 A119.out).mono ?_); (case side1 => exact Cz ((Kd.R_reads' HO_13.out).2.2)); (case side2 => exact (Kd.R_reads' HO_13.out).2.1); rintro e w' ⟨rfl, ⟨nd, rfl⟩⟩; refine ⟨_, rfl, ?_⟩))
                             (try simp only [Act.put, List.setIfInBounds_toArray, List.set_cons_zero, List.set_cons_succ])
                             go_cut [] (fun wc => ∃ (kq : Nat), Aside0 (laws_FnExactScriptBetween.j14 kq t611 t629 = some r) ∧ Aside0 (kq ≤ kj116) ∧ Aside0 (Kd.R k67 67 wc w.heap.size (fun _ => True) (.slice Ao36 t605.length co36) t605) ∧ Aside0 (wc.heap[gb559]? = some (.cells #[.int .i64 a0_0, (.slice A0_1 l0_1.length c0_1)] 24 (0, 0))) ∧ Aside0 (wc.heap[gb579]? = some (.cells #[.int .i64 t575, (.slice Ao36 t605.length co36)] 31 (0, 0))) ∧ Aside0 (Below w.heap.size w wc))
                             case first =>
                              have H := HC120.out
                              clear HC120
                              by_cases c121 : t629 < 0
                              ·rw [if_pos c121] at H
                               have c121b0 : decide (t629 < 0) = true := decide_eq_true c121
                               clear c121
                               (first | rw [c121b0] | (simp only [i64_w, i32_w]; rw [c121b0]) | skip)
                               obtain rfl := Option.some.inj H
                               go_wp2
                               go_ret
                               exact ⟨by first | rfl | (simp [errW_none, errW_some] <;> rfl) | (simp [*, errW_none, errW_some] <;> rfl), by exact Lz2 HB GE559 GE579⟩
                              rw [if_neg c121] at H
                              have c121b0 : decide (t629 < 0) = false := decide_eq_false c121
                              clear c121
                              (first | rw [c121b0] | (simp only [i64_w, i32_w]; rw [c121b0]) | skip)
                              have H' := Aside0.mk H
                              clear H
                              go_wp2
                              go_meet
                              case rel => exact ⟨_, H', ⟨by have := HJ3.out; have := HJ6.out; have := HJ9.out; have := HJ21.out; have := HJ48.out; have := HJ52.out; have := HJ60.out; have := HJ66.out; have := HJ73.out; have := HJ86.out; have := HJ90.out; have := HJ94.out; have := HJ100.out; have := HJ116.out; first | omega | exact Nat.le_refl _⟩, ⟨by (try simp only [hl580001_73]); (try simp only [hl13_90]); exact Rz HO_580001⟩, ⟨by (try simp only [hl580001_73]); (try simp only [hl13_90]); exact Bz BK559⟩, ⟨by (try simp only [hl580001_73]); (try simp only [hl13_90]); exact Bz BK579⟩, ⟨by exact Lz2 HB GE559 GE579⟩⟩
                             case rest =>
                              clear HC120
                              try clear c1
                              try clear c2
                              try clear c6
                              try clear c6b0
                              try clear c6b1
                              try clear c8
                              try clear c8b0
                              try clear c8b1
                              try clear c13
                              try clear c13b0
                              try clear c44
                              try clear c50
                              try clear c58
                              try clear c64
                              try clear c70
                              try clear c80
                              try clear c80b0
                              try clear c82
                              try clear c88
                              try clear c94
                              try clear c94b0
                              try clear c96
                              try clear c96b0
                              try clear c96b1
                              try clear c112
                              try clear c118
                              try clear c121
                              try clear c121b0
                              obtain ⟨kq, HA, HJ119, HO_580001, BK559, BK579, HB⟩ := hcut
                              cases kq with
                              | zero => exact absurd HA.out (by simp [laws_FnExactScriptBetween.j14])
                              | succ kj119 =>
                               have H := HA.out
                               clear HA
                               simp only [laws_FnExactScriptBetween.j14] at H
                               by_cases c122 : t629 = t611
                               ·rw [if_pos c122] at H
                                have c122b0 : (t629 == t611) = true := beq_iff_eq.mpr c122
                                have c122b1 : (t629 != t611) = false := bne_eq_false_iff_eq.mpr c122
                                clear c122
                                obtain rfl := Option.some.inj H
                                go_wp2
                                go_ret
                                exact ⟨by first | rfl | (simp [errW_none, errW_some] <;> rfl) | (simp [*, errW_none, errW_some] <;> rfl), by exact Lz2 HB GE559 GE579⟩
                               rw [if_neg c122] at H
                               have c122b0 : (t629 == t611) = false := beq_eq_false_iff_ne.mpr c122
                               have c122b1 : (t629 != t611) = true := bne_iff_ne.mpr c122
                               obtain rfl := Option.some.inj H
                               go_wp2
                               go_ret
                               exact ⟨by first | rfl | (simp [errW_none, errW_some] <;> rfl) | (simp [*, errW_none, errW_some] <;> rfl), by exact Lz2 HB GE559 GE579⟩
end Go.Proofs.Ytbcfccdoffbncaa.P
end
section
namespace Go.Proofs.Ytbcfccdoffbncaa.Pure
open Go.RowKit Go.Proofs.Ytbcfccdoffbncaa.P Go.Proofs.YtbcfccdoffbncaaW.PrintWords Go.Proofs.YtbcfccdoffbncaaW.PrintLast Go.Proofs.YtbcfccdoffbncaaW.PrintMore
def StatFnExactScriptBetween : Prop := ∀ (a0_0 : Int) (l0_1 : List (S96)) (l1 : List (Int)) (l2 : List (Int)), ((Lit.int .i64 a0_0).wf = true ∧ (l0_1.length ≤ maxLen ∧ ∀ x4 ∈ l0_1, (Lit.int .i64 x4.f0).wf = true ∧ (Lit.int .i64 x4.f1).wf = true)) → (l1.length ≤ maxLen ∧ ∀ x2 ∈ l1, (Lit.int .i64 x2).wf = true) → (l2.length ≤ maxLen ∧ ∀ x2 ∈ l2, (Lit.int .i64 x2).wf = true) → ∃ k, laws_FnExactScriptBetween.f k a0_0 l0_1 l1 l2 = some true
end Go.Proofs.Ytbcfccdoffbncaa.Pure
end
section
set_option linter.unusedVariables false
set_option linter.unusedSimpArgs false
namespace Go.Proofs.Ytbcfccdoffbncaa.Pure
open Go.RowKit Go.Proofs.Ytbcfccdoffbncaa.P Go.Proofs.YtbcfccdoffbncaaW.PrintWords Go.Proofs.YtbcfccdoffbncaaW.PrintLast Go.Proofs.YtbcfccdoffbncaaW.PrintMore Go.Proofs.Ytbcfccdoffbncaa.Base Go.Proofs.Ytbcfccdoffbncaa.Loops Go.Proofs.Ytbcfccdoffbncaa.Reduce
theorem spec_DegreeOf_ev (l : List Int) (hl : l.length ≤ 1000) (hb : ∀ u : Nat, -60 ≤ l.getD u 0 ∧ l.getD u 0 ≤ 60) : Ev (fun k => spec_DegreeOf.f k l) (sumN (fun u => l.getD u 0) l.length) := by
  have main : ∀ (d i : Nat), i + d = l.length → Ev (fun k => spec_DegreeOf.l0 k (sumN (fun u => l.getD u 0) i) l (l.length : Int) (i : Int)) (sumN (fun u => l.getD u 0) l.length) := by
    intro d
    induction d with
    | zero =>
      intro i hi
      obtain rfl : i = l.length := by omega
      refine ev_succ ?_
      simp only [spec_DegreeOf.l0]
      exact ev_ifn (by omega) (Ev.now _)
    | succ d ih =>
      intro i hi
      have h1 := ih (i + 1) (by omega)
      have h2 := part_sum l hb (i + 1)
      have e : wrap64 (sumN (fun u => l.getD u 0) i + rd l (i : Int)) = sumN (fun u => l.getD u 0) (i + 1) := by
        simp only [sumN] at h2 ⊢
        unfold rd
        rw [Int.toNat_natCast]
        exact wrap_id (by omega) (by omega)
      refine ev_succ ?_
      simp only [spec_DegreeOf.l0, wrap_succ (show i < 4611686018427387904 by omega), e]
      exact ev_ift (by omega) (ev_ift (by omega) (ev_ift (by omega) h1))
  exact main l.length 0 (by omega)
end Go.Proofs.Ytbcfccdoffbncaa.Pure
end
section
set_option linter.unusedVariables false
set_option linter.unusedSimpArgs false
namespace Go.Proofs.Ytbcfccdoffbncaa.Pure
open Go.RowKit Go.Proofs.Ytbcfccdoffbncaa.P Go.Proofs.YtbcfccdoffbncaaW.PrintWords Go.Proofs.YtbcfccdoffbncaaW.PrintLast Go.Proofs.YtbcfccdoffbncaaW.PrintMore Go.Proofs.Ytbcfccdoffbncaa.Base Go.Proofs.Ytbcfccdoffbncaa.Loops
theorem drop_two {a b : List Int} {i : Nat} (ha : i < a.length) (hb : i < b.length) : (a.drop i = b.drop i) ↔ (rd a (i : Int) = rd b (i : Int) ∧ a.drop (i + 1) = b.drop (i + 1)) := by
  rw [List.drop_eq_getElem_cons ha, List.drop_eq_getElem_cons hb, rd_nat a i ha, rd_nat b i hb]
  exact ⟨fun h => List.cons.inj h, fun h => by rw [h.1, h.2]⟩
theorem implSame_ev (a b : List Int) (ha : a.length < 4611686018427387904) : Ev (fun k => impl_SameDivisor.f k a b) (decide (a = b)) := by
  simp only [impl_SameDivisor.f, slices_Equal_int_int.f]
  refine Ev.bind (r := decide (a = b)) ?_ (Ev.now _)
  by_cases e : a.length = b.length
  · refine ev_ift (by omega) ?_
    have main : ∀ (d i : Nat), i + d = a.length → Ev (fun k => slices_Equal_int_int.l0 k a b (a.length : Int) (i : Int)) (decide (a.drop i = b.drop i)) := by
      intro d
      induction d with
      | zero =>
        intro i hi
        rw [decide_eq_true (by rw [List.drop_of_length_le (by omega), List.drop_of_length_le (by omega)])]
        refine ev_succ ?_
        simp only [slices_Equal_int_int.l0]; exact ev_ifn (by omega) (Ev.now _)
      | succ d ih =>
        intro i hi
        have h1 := ih (i + 1) (by omega)
        refine ev_succ ?_
        simp only [slices_Equal_int_int.l0, wrap_succ (show i < 4611686018427387904 by omega)]
        refine ev_ift (by omega) (ev_ift (by omega) (ev_ift (by omega) (ev_ift (by omega) ?_)))
        have hd := drop_two (a := a) (b := b) (i := i) (by omega) (by omega)
        by_cases c : rd a (i : Int) = rd b (i : Int)
        · rw [show decide (a.drop i = b.drop i) = decide (a.drop (i + 1) = b.drop (i + 1)) from decide_eq_decide.2 (hd.trans ⟨fun h => h.2, fun h => ⟨c, h⟩⟩)]
          exact ev_ift c h1
        · rw [decide_eq_false (fun h => c (hd.1 h).1)]
          exact ev_ifn c (Ev.now _)
    have := main a.length 0 (by omega)
    rw [List.drop_zero, List.drop_zero] at this
    exact this
  · rw [decide_eq_false (fun h => e (by rw [h]))]
    exact ev_ifn (by omega) (Ev.now _)
theorem specSame_ev (a b : List Int) (ha : a.length < 4611686018427387904) : Ev (fun k => spec_SameDivisor.f k a b) (decide (a = b)) := by
  simp only [spec_SameDivisor.f]
  by_cases e : a.length = b.length
  · refine ev_ift (by omega) ?_
    have main : ∀ (d i : Nat), i + d = a.length → Ev (fun k => spec_SameDivisor.l0 k b a (a.length : Int) (i : Int)) (decide (a.drop i = b.drop i)) := by
      intro d
      induction d with
      | zero =>
        intro i hi
        rw [decide_eq_true (by rw [List.drop_of_length_le (by omega), List.drop_of_length_le (by omega)])]
        refine ev_succ ?_
        simp only [spec_SameDivisor.l0]; exact ev_ifn (by omega) (Ev.now _)
      | succ d ih =>
        intro i hi
        have h1 := ih (i + 1) (by omega)
        refine ev_succ ?_
        simp only [spec_SameDivisor.l0, wrap_succ (show i < 4611686018427387904 by omega)]
        refine ev_ift (by omega) (ev_ift (by omega) (ev_ift (by omega) (ev_ift (by omega) ?_)))
        have hd := drop_two (a := a) (b := b) (i := i) (by omega) (by omega)
        by_cases c : rd a (i : Int) = rd b (i : Int)
        · rw [show decide (a.drop i = b.drop i) = decide (a.drop (i + 1) = b.drop (i + 1)) from decide_eq_decide.2 (hd.trans ⟨fun h => h.2, fun h => ⟨c, h⟩⟩)]
          exact ev_ift c h1
        · rw [decide_eq_false (fun h => c (hd.1 h).1)]
          exact ev_ifn c (Ev.now _)
    have := main a.length 0 (by omega)
    rw [List.drop_zero, List.drop_zero] at this
    exact this
  · rw [decide_eq_false (fun h => e (by rw [h]))]
    exact ev_ifn (by omega) (Ev.now _)
end Go.Proofs.Ytbcfccdoffbncaa.Pure
end
section
set_option linter.unusedVariables false
set_option linter.unusedSimpArgs false
namespace Go.Proofs.Ytbcfccdoffbncaa.Pure
open Go.RowKit Go.Proofs.Ytbcfccdoffbncaa.P Go.Proofs.YtbcfccdoffbncaaW.PrintWords Go.Proofs.YtbcfccdoffbncaaW.PrintLast Go.Proofs.YtbcfccdoffbncaaW.PrintMore Go.Proofs.Ytbcfccdoffbncaa.Base Go.Proofs.Ytbcfccdoffbncaa.Reduce Go.Proofs.Ytbcfccdoffbncaa.Loops Go.Proofs.Ytbcfccdoffbncaa.Bits
theorem areEquivalent_both (n : Int) (es : List S67) (a b : List Int) (hl : es.length < 4611686018427387904) (ha : a.length < 4611686018427387904) (hb : b.length < 4611686018427387904) :
    ∃ r : Bool, Ev (fun k => impl_AreEquivalent.f k n es a b) r ∧ Ev (fun k => spec_AreEquivalent.f k n es a b) r ∧
      (r = true → ∃ m : Nat, n = m ∧ Start m es a 0 ∧ Start m es b 0) ∧
      (∀ m : Nat, n = m → Start m es a 0 → Start m es b 0 → ∃ s t : List Int, s.length = m ∧ t.length = m ∧ s.getD 0 0 = 0 ∧ t.getD 0 0 = 0 ∧ Red m (mE m es) 0 (XF m es a s) ∧ Red m (mE m es) 0 (XF m es b t) ∧ ((∀ v, v < m → XF m es a s v = XF m es b t v) → r = true)) := by
  obtain ⟨p, h1, h2, h3, h4⟩ := redOk0 n es a hl ha
  obtain ⟨q, i1, i2, i3, i4⟩ := redOk0 n es b hl hb
  simp only [impl_AreEquivalent.f, impl_RepresentativeOf.f, impl_ReducedOf.f, spec_AreEquivalent.f]
  have off : ∀ c : Bool, c = true → Ev (fun k => spec_AreEquivalent.j0 k a b c n es) false := fun c hc => ev_succ (by
    simp only [spec_AreEquivalent.j0]
    exact ev_ift hc (Ev.now _))
  have no : ∀ {d : List Int} {c : Bool}, Ev (fun k => impl_DivisorOk.f k n es d) c → c = false → ∀ m : Nat, n = m → ¬ Start m es d 0 := by
    intro d c hc h0 m hm S
    obtain ⟨c', j1, _, hj⟩ := divOk_both n es d hl (by have := S.len; have := edgesB_facts S.g.1; omega)
    have : c = c' := by
      obtain ⟨K, e1⟩ := hc
      obtain ⟨K', e2⟩ := j1
      have a1 := e1 (K + K') (by omega)
      have a2 := e2 (K + K') (by omega)
      dsimp only at a1 a2
      rw [a1] at a2
      exact Option.some.inj a2
    have hp : DivP n es d := by
      subst hm
      refine ⟨S.g, by have := S.len; omega, ?_⟩
      simp only [allB, List.all_eq_true, decide_eq_true_eq]
      intro x hx
      obtain ⟨i, hi, rfl⟩ := List.getElem_of_mem hx
      have := S.b i
      rw [List.getD_eq_getElem?_getD, List.getElem?_eq_getElem hi] at this
      exact this
    have := hj.2 hp
    subst this
    rw [h0] at *
    contradiction
  cases p with
  | false =>
    cases q with
    | false => exact ⟨false, Ev.bind (Ev.bind (Ev.bind h1 (ev_iff (Ev.now _))) (Ev.now _)) (Ev.bind (Ev.bind (Ev.bind i1 (ev_iff (Ev.now _))) (Ev.now _)) (ev_iff (Ev.now _))), Ev.bind h2 (ev_iff (off true rfl)), (fun h => by cases h), fun m hm S _ => absurd S (no h1 rfl m hm)⟩
    | true =>
      obtain ⟨j1, m, rfl, S⟩ := i4 rfl
      obtain ⟨s, s1, s2, s3, s4, s5, s6, s7, s8⟩ := reduce_both S
      exact ⟨false, Ev.bind (Ev.bind (Ev.bind h1 (ev_iff (Ev.now _))) (Ev.now _)) (Ev.bind (Ev.bind (Ev.bind i1 (ev_ift rfl (Ev.bind j1 (ev_ift rfl (Ev.bind s7 (Ev.now _)))))) (Ev.now _)) (ev_iff (Ev.now _))), Ev.bind h2 (ev_iff (off true rfl)), (fun h => by cases h), fun m hm S _ => absurd S (no h1 rfl m hm)⟩
  | true =>
    obtain ⟨k1, m, rfl, S⟩ := h4 rfl
    obtain ⟨s, s1, s2, s3, s4, s5, s6, s7, s8⟩ := reduce_both S
    cases q with
    | false => exact ⟨false, Ev.bind (Ev.bind (Ev.bind h1 (ev_ift rfl (Ev.bind k1 (ev_ift rfl (Ev.bind s7 (Ev.now _)))))) (Ev.now _)) (Ev.bind (Ev.bind (Ev.bind i1 (ev_iff (Ev.now _))) (Ev.now _)) (ev_ift rfl (ev_iff (Ev.now _)))), Ev.bind h2 (ev_ift rfl (Ev.bind i2 (ev_iff (off true rfl)))), (fun h => by cases h), fun m hm _ S => absurd S (no i1 rfl m hm)⟩
    | true =>
      obtain ⟨j1, m', hm', T⟩ := i4 rfl
      obtain rfl : m' = m := by omega
      obtain ⟨t, t1, t2, t3, t4, t5, t6, t7, t8⟩ := reduce_both T
      have f := edgesB_facts S.g.1
      have da := spec_DegreeOf_ev a (by have := S.len; omega) S.b
      have db := spec_DegreeOf_ev b (by have := T.len; omega) T.b
      rw [S.len] at da
      rw [T.len] at db
      have im := implSame_ev (XD es a s) (XD es b t) (by omega)
      have sp := specSame_ev (XD es a s) (XD es b t) (by omega)
      refine ⟨decide (XD es a s = XD es b t), Ev.bind (Ev.bind (Ev.bind h1 (ev_ift rfl (Ev.bind k1 (ev_ift rfl (Ev.bind s7 (Ev.now _)))))) (Ev.now _)) (Ev.bind (Ev.bind (Ev.bind i1 (ev_ift rfl (Ev.bind j1 (ev_ift rfl (Ev.bind t7 (Ev.now _)))))) (Ev.now _)) (ev_ift rfl (ev_ift rfl (Ev.bind im (Ev.now _))))), Ev.bind h2 (ev_ift rfl (Ev.bind i2 (ev_ift rfl (Ev.bind da (Ev.bind db ?_))))), fun _ => ⟨m', rfl, S, T⟩, ?_⟩
      · by_cases c : sumN (fun u => a.getD u 0) m' = sumN (fun u => b.getD u 0) m'
        · rw [c]
          refine ev_succ ?_
          simp only [spec_AreEquivalent.j0]
          refine ev_ifn (by simp) ?_
          refine Ev.bind s8 ?_
          refine Ev.bind t8 ?_
          exact Ev.bind sp (Ev.now _)
        · rw [decide_eq_false (fun h => c ?_)]
          · exact off _ (by simpa using c)
          · rw [← (red_zero S s4).2.1, ← (red_zero T t4).2.1]
            exact sumN_congr fun u hu => by rw [← s5 u hu, ← t5 u hu, h]
      · intro m hm _ _
        obtain rfl : m' = m := by omega
        refine ⟨s, t, s1, t1, s2, t2, s4, t4, fun h => decide_eq_true ?_⟩
        exact list_eq0 (by omega) fun u hu => by rw [s5 u (by omega), t5 u (by omega), h u (by omega)]
end Go.Proofs.Ytbcfccdoffbncaa.Pure
end
section
set_option linter.unusedVariables false
set_option linter.unusedSimpArgs false
namespace Go.Proofs.Ytbcfccdoffbncaa.Pure
open Go.RowKit Go.Proofs.Ytbcfccdoffbncaa.P Go.Proofs.YtbcfccdoffbncaaW.PrintWords Go.Proofs.YtbcfccdoffbncaaW.PrintLast Go.Proofs.YtbcfccdoffbncaaW.PrintMore Go.Proofs.Ytbcfccdoffbncaa.Base Go.Proofs.Ytbcfccdoffbncaa.Loops
def plusL (a b : List Int) : List Int := (List.range a.length).map fun i : Nat => wrap64 (a.getD i 0 + b.getD i 0)
def minusL (a b : List Int) : List Int := (List.range a.length).map fun i : Nat => wrap64 (a.getD i 0 - b.getD i 0)
def negL (a : List Int) : List Int := (List.range a.length).map fun i : Nat => wrap64 (-(a.getD i 0))
theorem impl_plus_ev (a b : List Int) (ha : a.length < 17592186044416) (hab : a.length = b.length) : Ev (fun k => impl_plus.f k a b) (plusL a b) := by
  simp only [impl_plus.f, copyI_eq a ha, Option.bind_some]
  refine inplace_ev a (plusL a b) (by simp [plusL]) (fun k x i => impl_plus.l0 k b x (a.length : Int) i) (fun x hx => ev1 fun k => ?_) (fun x i hi hx hg r hr => ev_succ ?_)
  · simp only [impl_plus.l0]
    rw [if_neg (by omega)]
  · have e1 : wrap64 (rd x i + rd b i) = (plusL a b).getD i 0 := by
      unfold plusL
      rw [getD_range _ _ _ hi, ← hg]; rfl
    simp only [impl_plus.l0, wrap_succ (show i < 4611686018427387904 by omega), e1, Int.toNat_natCast]
    exact ev_ift (by omega) (ev_ift (by omega) (ev_ift (by omega) (ev_ift (by omega) hr)))
theorem plus_neg (a b : List Int) (h : a.length = b.length) : plusL a (negL b) = minusL a b := by
  unfold plusL minusL
  refine List.map_congr_left fun i hi => ?_
  have hi' : i < b.length := by have := List.mem_range.1 hi; omega
  show wrap64 (a.getD i 0 + ((List.range b.length).map fun i : Nat => wrap64 (-(b.getD i 0))).getD i 0) = _
  rw [getD_range _ _ _ hi', wrap_add_wrap]
  congr 1
end Go.Proofs.Ytbcfccdoffbncaa.Pure
end
section
set_option linter.unusedVariables false
set_option linter.unusedSimpArgs false
namespace Go.Proofs.Ytbcfccdoffbncaa.Pure
open Go.RowKit Go.Proofs.Ytbcfccdoffbncaa.P Go.Proofs.YtbcfccdoffbncaaW.PrintWords Go.Proofs.YtbcfccdoffbncaaW.PrintLast Go.Proofs.YtbcfccdoffbncaaW.PrintMore Go.Proofs.Ytbcfccdoffbncaa.Base Go.Proofs.Ytbcfccdoffbncaa.Loops
theorem impl_neg_ev (a : List Int) (ha : a.length < 17592186044416) : Ev (fun k => impl_NegateDivisor.f k a) (negL a) := by
  simp only [impl_NegateDivisor.f, copyI_eq a ha, Option.bind_some]
  refine inplace_ev a (negL a) (by simp [negL]) (fun k x i => impl_NegateDivisor.l0 k x (a.length : Int) i) (fun x hx => ev1 fun k => ?_) (fun x i hi hx hg r hr => ev_succ ?_)
  · simp only [impl_NegateDivisor.l0]
    rw [if_neg (by omega)]
  · have e1 : wrap64 (-(rd x i)) = (negL a).getD i 0 := by
      unfold negL
      rw [getD_range _ _ _ hi, ← hg]; rfl
    simp only [impl_NegateDivisor.l0, wrap_succ (show i < 4611686018427387904 by omega), e1, Int.toNat_natCast]
    exact ev_ift (by omega) (ev_ift (by omega) (ev_ift (by omega) hr))
end Go.Proofs.Ytbcfccdoffbncaa.Pure
end
section
set_option linter.unusedVariables false
set_option linter.unusedSimpArgs false
namespace Go.Proofs.Ytbcfccdoffbncaa.Pure
open Go.RowKit Go.Proofs.Ytbcfccdoffbncaa.P Go.Proofs.YtbcfccdoffbncaaW.PrintWords Go.Proofs.YtbcfccdoffbncaaW.PrintLast Go.Proofs.YtbcfccdoffbncaaW.PrintMore Go.Proofs.Ytbcfccdoffbncaa.Base Go.Proofs.Ytbcfccdoffbncaa.Loops Go.Proofs.Ytbcfccdoffbncaa.Reduce Go.Proofs.Ytbcfccdoffbncaa.Bits
theorem implBetween_ev (n : Int) (es : List S67) (a b : List Int) (hl : es.length < 4611686018427387904) (ha : a.length < 4611686018427387904) (hb : b.length < 4611686018427387904) (m : Nat) (hm : n = m) (S : Start m es a 0) (T : Start m es b 0) (s t : List Int) (s1 : s.length = m) (t1 : t.length = m)
    (s7 : Ev (fun k => impl_reduce.f k m es a (0 : Nat)) (XD es a s, s)) (t7 : Ev (fun k => impl_reduce.f k m es b (0 : Nat)) (XD es b t, t)) (e : Ev (fun k => impl_AreEquivalent.f k n es a b) true) : Ev (fun k => impl_ScriptBetween.f k n es a b) (liftL (minusL s t), true) := by
  subst hm
  have f := edgesB_facts S.g.1
  have hq := S.q
  have hlen : (minusL s t).length = m := by simp [minusL, s1]
  simp only [impl_ScriptBetween.f]
  refine Ev.bind e (ev_ift rfl ?_)
  refine Ev.bind s7 ?_
  refine Ev.bind t7 ?_
  refine Ev.bind (impl_neg_ev t (by omega)) ?_
  have hp := impl_plus_ev s (negL t) (by omega) (by simp [negL]; omega)
  rw [plus_neg s t (by omega)] at hp
  refine Ev.bind hp ?_
  exact Ev.bind (fromZero_ev _ (by omega) (by omega)) (Ev.now _)
theorem scriptBetween_both (n : Int) (es : List S67) (a b : List Int) (hl : es.length < 4611686018427387904) (ha : a.length < 4611686018427387904) (hb : b.length < 4611686018427387904) :
    ∃ (r : List Int) (q : Bool), Ev (fun k => impl_ScriptBetween.f k n es a b) (r, q) ∧ Ev (fun k => spec_ScriptBetween.f k n es a b) (r, q) ∧ r.length ≤ 6 ∧ True := by
  obtain ⟨c, h1, h2, h3, _⟩ := areEquivalent_both n es a b hl ha hb
  cases c with
  | false =>
    simp only [impl_ScriptBetween.f, spec_ScriptBetween.f]
    exact ⟨[], false, Ev.bind h1 (ev_iff (Ev.now _)), Ev.bind h2 (ev_iff (Ev.now _)), by simp, trivial⟩
  | true =>
    obtain ⟨m, rfl, S, T⟩ := h3 rfl
    obtain ⟨s, s1, s2, s3, s4, s5, s6, s7, s8⟩ := reduce_both S
    obtain ⟨t, t1, t2, t3, t4, t5, t6, t7, t8⟩ := reduce_both T
    have f := edgesB_facts S.g.1
    have hq := S.q
    have hlen : (minusL s t).length = m := by simp [minusL, s1]
    refine ⟨liftL (minusL s t), true, implBetween_ev m es a b hl ha hb m rfl S T s t s1 t1 s7 t7 h1, ?_, by rw [liftL_len]; omega, trivial⟩
    simp only [spec_ScriptBetween.f]
    refine Ev.bind h2 (ev_ift rfl ?_)
    refine Ev.bind s8 ?_
    refine Ev.bind t8 ?_
    have lf := specLift_ev (minusL s t) (by omega) (by omega)
    have main : ∀ (d i : Nat), i + d = s.length → Ev (fun k => spec_ScriptBetween.l0 k t ((List.range i).map fun i : Nat => wrap64 (s.getD i 0 - t.getD i 0)) s (s.length : Int) (i : Int)) (liftL (minusL s t), true) := by
      intro d
      induction d with
      | zero =>
        intro i hi
        obtain rfl : i = s.length := by omega
        refine ev_succ ?_
        simp only [spec_ScriptBetween.l0]
        exact ev_ifn (by omega) (Ev.bind lf (Ev.now _))
      | succ d ih =>
        intro i hi
        have g1 := ih (i + 1) (by omega)
        rw [List.range_succ, List.map_append] at g1
        refine ev_succ ?_
        simp only [spec_ScriptBetween.l0, wrap_succ (show i < 4611686018427387904 by omega)]
        exact ev_ift (by omega) (ev_ift (by omega) (ev_ift (by omega) (ev_ift (by omega) (ev_ift (by simp; omega) g1))))
    exact main s.length 0 (by omega)
end Go.Proofs.Ytbcfccdoffbncaa.Pure
end
section
set_option linter.unusedVariables false
set_option linter.unusedSimpArgs false
namespace Go.Proofs.Ytbcfccdoffbncaa.Pure
open Go.RowKit Go.Proofs.Ytbcfccdoffbncaa.P Go.Proofs.YtbcfccdoffbncaaW.PrintWords Go.Proofs.YtbcfccdoffbncaaW.PrintLast Go.Proofs.YtbcfccdoffbncaaW.PrintMore Go.Proofs.Ytbcfccdoffbncaa.Base Go.Proofs.Ytbcfccdoffbncaa.Loops Go.Proofs.Ytbcfccdoffbncaa.Reduce Go.Proofs.Ytbcfccdoffbncaa.Bits
theorem FnExactScriptBetween : StatFnExactScriptBetween := by
  intro n l d1 d2 ⟨_, hl, _⟩ ⟨_, _⟩ ⟨_, _⟩
  refine Ev.rounds (r := true) ?_
  unfold laws_FnExactScriptBetween.f
  by_cases hd1 : (d1.length : Int) > 1048576
  · repeat (first
      | exact Ev.now _
      | dsimp only
      | with_reducible refine ev_ift (by first | rfl | omega) ?_
      | with_reducible refine ev_ifn (by omega) ?_
      | with_reducible refine ev_ifb ?_
      | with_reducible refine ev_ifnn ?_
      | with_reducible refine ev_iff ?_
      | (refine ev_succ ?_; simp only [if_true, laws_FnExactScriptBetween.j0, laws_FnExactScriptBetween.j1, laws_FnExactScriptBetween.j2, laws_FnExactScriptBetween.j3, laws_FnExactScriptBetween.j4, laws_FnExactScriptBetween.j5, laws_FnExactScriptBetween.j6, laws_FnExactScriptBetween.j7, laws_FnExactScriptBetween.j8, laws_FnExactScriptBetween.j9, laws_FnExactScriptBetween.j10, laws_FnExactScriptBetween.j11, laws_FnExactScriptBetween.j12, laws_FnExactScriptBetween.j13, laws_FnExactScriptBetween.j14])
      )
  by_cases hd2 : (d2.length : Int) > 1048576
  · repeat (first
      | exact Ev.now _
      | dsimp only
      | with_reducible refine ev_ift (by first | rfl | omega) ?_
      | with_reducible refine ev_ifn (by omega) ?_
      | with_reducible refine ev_ifb ?_
      | with_reducible refine ev_ifnn ?_
      | with_reducible refine ev_iff ?_
      | (refine ev_succ ?_; simp only [if_true, laws_FnExactScriptBetween.j0, laws_FnExactScriptBetween.j1, laws_FnExactScriptBetween.j2, laws_FnExactScriptBetween.j3, laws_FnExactScriptBetween.j4, laws_FnExactScriptBetween.j5, laws_FnExactScriptBetween.j6, laws_FnExactScriptBetween.j7, laws_FnExactScriptBetween.j8, laws_FnExactScriptBetween.j9, laws_FnExactScriptBetween.j10, laws_FnExactScriptBetween.j11, laws_FnExactScriptBetween.j12, laws_FnExactScriptBetween.j13, laws_FnExactScriptBetween.j14])
      )
  have hs := szGraph_eq n l hl 1048576 (by omega) (by omega)
  by_cases h : (l.length : Int) ≤ 1048576
  · have es : Ev (fun _ : Nat => laws_szGraph.f n l 1048576) (1048576 - (l.length : Int)) := ev_const fun _ => by rw [hs, if_pos h]
    have tg := toGraph_ev n l (by omega)
    have hm := map_cv_length l
    have hL : (l.map cvE).length < 4611686018427387904 := by omega
    have hLd1 : d1.length < 4611686018427387904 := by omega
    have td1 := toIntS_ev d1 (by omega)
    have ed1 := eqIntS_ev d1 hLd1
    have hLd2 : d2.length < 4611686018427387904 := by omega
    have td2 := toIntS_ev d2 (by omega)
    have ed2 := eqIntS_ev d2 hLd2
    obtain ⟨r, q, g1, g2, hr, _⟩ := scriptBetween_both n (l.map cvE) d1 d2 hL hLd1 hLd2
    have eg := eqGraph_ev n (l.map cvE) hL
    have er := eqIntS_ev r (by omega)
    obtain ⟨y, my⟩ := markGraph_ev n (l.map cvE) (by omega)
    have md1 := markIntS_ev (2 * ((l.map cvE).length : Int) + 1) (by omega) d1 (by omega)
    have md2 := markIntS_ev (2 * ((l.map cvE).length : Int) + 1 + (d1.length : Int)) (by omega) d2 (by omega)
    have mr := markIntS_ev 1 (by omega) r (by omega)
    have he := heldIntS_ev r.length (by omega)
    repeat (first
      | exact Ev.now _
      | dsimp only
      | (with_reducible refine Ev.bind es ?_) | (with_reducible refine Ev.bind tg ?_) | (with_reducible refine Ev.bind td1 ?_) | (with_reducible refine Ev.bind ed1 ?_) | (with_reducible refine Ev.bind td2 ?_) | (with_reducible refine Ev.bind ed2 ?_) | (with_reducible refine Ev.bind g1 ?_) | (with_reducible refine Ev.bind g2 ?_) | (with_reducible refine Ev.bind eg ?_) | (with_reducible refine Ev.bind er ?_) | (with_reducible refine Ev.bind my ?_) | (with_reducible refine Ev.bind md1 ?_) | (with_reducible refine Ev.bind md2 ?_) | (with_reducible refine Ev.bind mr ?_) | (with_reducible refine Ev.bind he ?_)
      | with_reducible refine ev_ift (by first | rfl | omega) ?_
      | with_reducible refine ev_ifn (by omega) ?_
      | with_reducible refine ev_ifb ?_
      | with_reducible refine ev_ifnn ?_
      | with_reducible refine ev_iff ?_
      | (refine ev_succ ?_; simp only [if_true, laws_FnExactScriptBetween.j0, laws_FnExactScriptBetween.j1, laws_FnExactScriptBetween.j2, laws_FnExactScriptBetween.j3, laws_FnExactScriptBetween.j4, laws_FnExactScriptBetween.j5, laws_FnExactScriptBetween.j6, laws_FnExactScriptBetween.j7, laws_FnExactScriptBetween.j8, laws_FnExactScriptBetween.j9, laws_FnExactScriptBetween.j10, laws_FnExactScriptBetween.j11, laws_FnExactScriptBetween.j12, laws_FnExactScriptBetween.j13, laws_FnExactScriptBetween.j14])
      )
  · have es : Ev (fun _ : Nat => laws_szGraph.f n l 1048576) (-1) := ev_const fun _ => by rw [hs, if_neg h]
    repeat (first
      | exact Ev.now _
      | dsimp only
      | (with_reducible refine Ev.bind es ?_)
      | with_reducible refine ev_ift (by first | rfl | omega) ?_
      | with_reducible refine ev_ifn (by omega) ?_
      | with_reducible refine ev_ifb ?_
      | with_reducible refine ev_ifnn ?_
      | with_reducible refine ev_iff ?_
      | (refine ev_succ ?_; simp only [if_true, laws_FnExactScriptBetween.j0, laws_FnExactScriptBetween.j1, laws_FnExactScriptBetween.j2, laws_FnExactScriptBetween.j3, laws_FnExactScriptBetween.j4, laws_FnExactScriptBetween.j5, laws_FnExactScriptBetween.j6, laws_FnExactScriptBetween.j7, laws_FnExactScriptBetween.j8, laws_FnExactScriptBetween.j9, laws_FnExactScriptBetween.j10, laws_FnExactScriptBetween.j11, laws_FnExactScriptBetween.j12, laws_FnExactScriptBetween.j13, laws_FnExactScriptBetween.j14])
      )
end Go.Proofs.Ytbcfccdoffbncaa.Pure
end
