/- Functions of the program as plain Lean functions and that the machine's calls answer as they do, the words of the print that these use, lemmas and plain proofs of laws. Put together by a program of this work that leaves out what nothing uses; Lean checks it. -/
import Derived.Test.YtchkndeeaoohpaaG2f42b8f225
import Derived.Test.YtchkndeeaoohpaaG68cadf4273
section
namespace Go.Proofs.Ytchkndeeaoohpaa.P
open Go.RowKit Go.Proofs.YtchkndeeaoohpaaW.PrintWords Go.Proofs.YtchkndeeaoohpaaW.PrintLast Go.Proofs.YtchkndeeaoohpaaW.PrintMore
attribute [local go_sem] max2_int min2_int max_two min_two max_three min_three max_four min_four
set_option linter.unusedVariables false
set_option linter.unusedSimpArgs false
mutual
def laws_FnExactMatrixOk.j0 : Nat → List (List Int) → Option (Bool)
 | 0, _ => none
 | k + 1, x0 => (laws_toIntSS.f k x0).bind fun t129 => ((spec_MatrixOk.f k t129).bind fun t132 => ((laws_toIntSS.f k x0).bind fun t133 => ((impl_MatrixOk.f k t133).bind fun t136 => (if (t136 != t132) = true then (some false) else (laws_FnExactMatrixOk.j1 k x0 t133)))))
def laws_FnExactMatrixOk.j1 : Nat → List (List Int) → List (List Int) → Option (Bool)
 | 0, _, _ => none
 | k + 1, x0, x5 => (laws_toIntSS.f k x0).bind fun t137 => ((laws_eqIntSS.f k x5 t137).bind fun t140 => (if t140 = true then (some true) else (some false)))
end
def laws_FnExactMatrixOk.f (k : Nat) (l0 : List (List Int)) : Option (Bool) := (laws_szIntSS.f k l0 1048576).bind fun t128 => (if t128 < 0 then (some true) else (laws_FnExactMatrixOk.j0 k l0))
set_option maxHeartbeats 8000000 in
set_option maxRecDepth 100000 in
theorem laws_FnExactMatrixOk.calls (k : Nat) (A0 : Option Addr) (c0 : Nat) (l0 : List (List Int)) (r : Bool) (w : World) (hr0 : Kd.C (Kd.slice 3 (Kd.int .i64)) w A0 l0.length l0) (hc0 : l0.length ≤ c0) (h : laws_FnExactMatrixOk.f k l0 = some r) :
  Calls Try.prog 3 #[.slice A0 l0.length c0] w fun e w' => e = .returned (.bool r) ∧ Below w.heap.size w w' := by
 have HR0 := Aside0.mk hr0
 have HC0 := Aside0.mk hc0
 clear hr0 hc0
 have HB := Aside0.mk (Below.refl w.heap.size w)
 have H : ((laws_szIntSS.f k l0 1048576).bind fun t128 => (if t128 < 0 then (some true) else (laws_FnExactMatrixOk.j0 k l0))) = some r := h
 clear h
 replace H := Option.bind_eq_some_iff.mp H
 obtain ⟨t128, A20, H⟩ := H
 replace H : (if t128 < 0 then (some true) else (laws_FnExactMatrixOk.j0 k l0)) = some r := H
 have A2 := Aside0.mk A20
 clear A20
 have HC3 := Aside0.mk H
 clear H
 go_enter Try.func3, Try.ntmps3
 go_upto_if 11 with (first | ((with_reducible refine gate_callee (f := 15) rfl ?_); refine goesM_ (some 9) rfl rfl Try.func15 (by kernel_rfl) rfl #[.slice A0 l0.length c0, .int .i64 1048576] rfl ?_; (with_reducible refine (laws_szIntSS.calls k _ _ l0 1048576 t128 _ ?side1 ?side2 A2.out).mono ?_); (case side1 => exact Cz (HR0.out)); (case side2 => exact HC0.out); rintro e w' ⟨rfl, ⟨nd, rfl⟩⟩; refine ⟨_, rfl, ?_⟩))
 (try simp only [Act.put, List.setIfInBounds_toArray, List.set_cons_zero, List.set_cons_succ])
 go_cut [] (fun wc => ∃ (kq : Nat), Aside0 (laws_FnExactMatrixOk.j0 kq l0 = some r) ∧ Aside0 (kq ≤ k) ∧ Aside0 (Below w.heap.size w wc))
 case first =>
  have H := HC3.out
  clear HC3
  by_cases c4 : t128 < 0
  ·rw [if_pos c4] at H
   have c4b0 : decide (t128 < 0) = true := decide_eq_true c4
   clear c4
   (first | rw [c4b0] | (simp only [i64_w, i32_w]; rw [c4b0]) | skip)
   obtain rfl := Option.some.inj H
   go_wp2
   go_ret
   exact ⟨by first | rfl | (simp [errW_none, errW_some] <;> rfl) | (simp [*, errW_none, errW_some] <;> rfl), by exact Lz HB⟩
  rw [if_neg c4] at H
  have c4b0 : decide (t128 < 0) = false := decide_eq_false c4
  clear c4
  (first | rw [c4b0] | (simp only [i64_w, i32_w]; rw [c4b0]) | skip)
  have H' := Aside0.mk H
  clear H
  go_wp2
  go_meet
  case rel => exact ⟨_, H', ⟨by first | omega | exact Nat.le_refl _⟩, ⟨by exact Lz HB⟩⟩
 case rest =>
  clear HC3
  try clear c4
  try clear c4b0
  obtain ⟨kq, HA, HJ2, HB⟩ := hcut
  cases kq with
  | zero => exact absurd HA.out (by simp [laws_FnExactMatrixOk.j0])
  | succ kj2 =>
   have H := HA.out
   clear HA
   simp only [laws_FnExactMatrixOk.j0] at H
   replace H := Option.bind_eq_some_iff.mp H
   obtain ⟨t129, A50, H⟩ := H
   replace H : ((spec_MatrixOk.f kj2 t129).bind fun t132 => ((laws_toIntSS.f kj2 l0).bind fun t133 => ((impl_MatrixOk.f kj2 t133).bind fun t136 => (if (t136 != t132) = true then (some false) else (laws_FnExactMatrixOk.j1 kj2 l0 t133))))) = some r := H
   have A5 := Aside0.mk A50
   clear A50
   replace H := Option.bind_eq_some_iff.mp H
   obtain ⟨t132, A60, H⟩ := H
   replace H : ((laws_toIntSS.f kj2 l0).bind fun t133 => ((impl_MatrixOk.f kj2 t133).bind fun t136 => (if (t136 != t132) = true then (some false) else (laws_FnExactMatrixOk.j1 kj2 l0 t133)))) = some r := H
   have A6 := Aside0.mk A60
   clear A60
   replace H := Option.bind_eq_some_iff.mp H
   obtain ⟨t133, A70, H⟩ := H
   replace H : ((impl_MatrixOk.f kj2 t133).bind fun t136 => (if (t136 != t132) = true then (some false) else (laws_FnExactMatrixOk.j1 kj2 l0 t133))) = some r := H
   have A7 := Aside0.mk A70
   clear A70
   replace H := Option.bind_eq_some_iff.mp H
   obtain ⟨t136, A80, H⟩ := H
   replace H : (if (t136 != t132) = true then (some false) else (laws_FnExactMatrixOk.j1 kj2 l0 t133)) = some r := H
   have A8 := Aside0.mk A80
   clear A80
   have HC9 := Aside0.mk H
   clear H
   go_upto_if 21 with (first | ((with_reducible refine gate_callee (f := 17) rfl ?_); refine goesM_ (some 13) rfl rfl Try.func17 (by kernel_rfl) rfl #[.slice A0 l0.length c0] rfl ?_; (with_reducible refine (laws_toIntSS.calls kj2 _ _ l0 t129 _ ?side1 ?side2 A5.out).mono ?_); (case side1 => exact Cz ((Kd.C_below HR0.out HB.out))); (case side2 => exact HC0.out); rintro e w10 ⟨v130, rfl, ho0, hb⟩; refine ⟨_, rfl, ?_⟩; have HO131 := Aside0.mk (Kd.S_lower ho0 (below_size (Lz HB))); replace HB := Aside0.mk (below_step (Lz HB) hb); (try clear hb); (try clear ho0); obtain ⟨Ao11, co11, eo11⟩ := Kd.S_slice HO131.out; subst eo11) | ((with_reducible refine gate_callee (f := 16) rfl ?_); refine goesM_ (some 14) rfl rfl Try.func16 (by kernel_rfl) rfl #[.slice Ao11 t129.length co11] rfl ?_; (with_reducible refine (spec_MatrixOk.calls kj2 _ _ t129 t132 _ ?side1 ?side2 A6.out).mono ?_); (case side1 => exact Cz ((Kd.S_reads' HO131.out).2.2)); (case side2 => exact (Kd.S_reads' HO131.out).2.1); rintro e w' ⟨rfl, ⟨nd, rfl⟩⟩; refine ⟨_, rfl, ?_⟩) | ((with_reducible refine gate_callee (f := 17) rfl ?_); refine goesM_ (some 16) rfl rfl Try.func17 (by kernel_rfl) rfl #[.slice A0 l0.length c0] rfl ?_; (with_reducible refine (laws_toIntSS.calls kj2 _ _ l0 t133 _ ?side1 ?side2 A7.out).mono ?_); (case side1 => repeat (first | exact (Kd.C_below HR0.out (Lz HB)) | (with_reducible refine Kd.C_alloc ?_ _) | (with_reducible refine Kd.C_drewN ?_ _) | (with_reducible refine Kd.C_drew ?_))); (case side2 => exact HC0.out); rintro e w12 ⟨v134, rfl, ho0, hb⟩; refine ⟨_, rfl, ?_⟩; have HO135 := Aside0.mk (Kd.S_lower (Kd.S_new' ho0 (Kd.S_lt (by (with_reducible repeat (first | apply Kd.S_alloc | apply Kd.S_drewN | apply Kd.S_drew)); exact HO131.out))) (below_size (Lz HB))); replace HO131 := Aside0.mk (Kd.S_elder' (by (with_reducible repeat (first | apply Kd.S_alloc | apply Kd.S_drewN | apply Kd.S_drew)); exact HO131.out) (Kd.S_base ho0) hb); replace HB := Aside0.mk (below_step (Lz HB) hb); (try clear hb); (try clear ho0); obtain ⟨Ao13, co13, eo13⟩ := Kd.S_slice HO135.out; subst eo13) | ((with_reducible refine gate_callee (f := 18) rfl ?_); refine goesM_ (some 18) rfl rfl Try.func18 (by kernel_rfl) rfl #[.slice Ao13 t133.length co13] rfl ?_; (with_reducible refine (impl_MatrixOk.calls kj2 _ _ t133 t136 _ ?side1 ?side2 A8.out).mono ?_); (case side1 => exact Cz ((Kd.S_reads' HO135.out).2.2)); (case side2 => exact (Kd.S_reads' HO135.out).2.1); rintro e w' ⟨rfl, ⟨nd, rfl⟩⟩; refine ⟨_, rfl, ?_⟩))
   (try simp only [Act.put, List.setIfInBounds_toArray, List.set_cons_zero, List.set_cons_succ])
   go_cut [] (fun wc => ∃ (kq : Nat), Aside0 (laws_FnExactMatrixOk.j1 kq l0 t133 = some r) ∧ Aside0 (kq ≤ kj2) ∧ Aside0 (Kd.S (Kd.slice 3 (Kd.int .i64)) 27 wc w.heap.size (fun _ => True) (.slice Ao13 t133.length co13) t133) ∧ Aside0 (Below w.heap.size w wc))
   case first =>
    have H := HC9.out
    clear HC9
    by_cases c14 : (t136 != t132) = true
    ·rw [if_pos c14] at H
     have c14b0 : (t136 != t132) = true := c14
     (try (have c14b1 : decide (t136 = t132) = false := by simpa using c14))
     (try (have c14b2 : (t136 == t132) = false := by simpa using c14))
     (try (have c14b3 : ¬ (t136 = t132) := by simpa using c14))
     clear c14
     (first | rw [c14b0] | (simp only [i64_w, i32_w]; rw [c14b0]) |(simp only [c14b2, Bool.not_false, Bool.not_true]) | skip)
     obtain rfl := Option.some.inj H
     go_wp2
     go_ret
     exact ⟨by first | rfl | (simp [errW_none, errW_some] <;> rfl) | (simp [*, errW_none, errW_some] <;> rfl), by exact Lz HB⟩
    rw [if_neg c14] at H
    have c14b0 : (t136 != t132) = false := by simpa using c14
    (try (have c14b1 : decide (t136 = t132) = true := by simpa using c14))
    (try (have c14b2 : (t136 == t132) = true := by simpa using c14))
    clear c14
    (first | rw [c14b0] | (simp only [i64_w, i32_w]; rw [c14b0]) |(simp only [c14b2, Bool.not_false, Bool.not_true]) | skip)
    have H' := Aside0.mk H
    clear H
    go_wp2
    go_meet
    case rel => exact ⟨_, H', ⟨by have := HJ2.out; first | omega | exact Nat.le_refl _⟩, ⟨by (with_reducible repeat (first | apply Kd.S_alloc | apply Kd.S_drewN | apply Kd.S_drew)); exact Kd.S_mono HO135.out (fun _ hk => trivial)⟩, ⟨by exact Lz HB⟩⟩
   case rest =>
    clear HC9
    try clear c4
    try clear c4b0
    try clear c14
    try clear c14b0
    try clear c14b1
    try clear c14b2
    obtain ⟨kq, HA, HJ8, HO_5, HB⟩ := hcut
    cases kq with
    | zero => exact absurd HA.out (by simp [laws_FnExactMatrixOk.j1])
    | succ kj8 =>
     have H := HA.out
     clear HA
     simp only [laws_FnExactMatrixOk.j1] at H
     replace H := Option.bind_eq_some_iff.mp H
     obtain ⟨t137, A150, H⟩ := H
     replace H : ((laws_eqIntSS.f kj8 t133 t137).bind fun t140 => (if t140 = true then (some true) else (some false))) = some r := H
     have A15 := Aside0.mk A150
     clear A150
     replace H := Option.bind_eq_some_iff.mp H
     obtain ⟨t140, A160, H⟩ := H
     replace H : (if t140 = true then (some true) else (some false)) = some r := H
     have A16 := Aside0.mk A160
     clear A160
     by_cases c17 : t140 = true
     ·subst c17
      have H1 : (some true) = some r := by rw [if_pos rfl] at H; exact H
      clear H
      have H := H1
      clear H1
      obtain rfl := Option.some.inj H
      go_wp2_with (first | ((with_reducible refine gate_callee (f := 17) rfl ?_); refine goesM_ (some 24) rfl rfl Try.func17 (by kernel_rfl) rfl #[.slice A0 l0.length c0] rfl ?_; (with_reducible refine (laws_toIntSS.calls kj8 _ _ l0 t137 _ ?side1 ?side2 A15.out).mono ?_); (case side1 => exact Cz ((Kd.C_below HR0.out HB.out))); (case side2 => exact HC0.out); rintro e w18 ⟨v138, rfl, ho0, hb⟩; refine ⟨_, rfl, ?_⟩; have HO139 := Aside0.mk (Kd.S_lower (Kd.S_new' ho0 (Kd.S_lt (by (with_reducible repeat (first | apply Kd.S_alloc | apply Kd.S_drewN | apply Kd.S_drew)); exact HO_5.out))) (below_size (Lz HB))); replace HO_5 := Aside0.mk (Kd.S_elder' (by (with_reducible repeat (first | apply Kd.S_alloc | apply Kd.S_drewN | apply Kd.S_drew)); exact HO_5.out) (Kd.S_base ho0) hb); replace HB := Aside0.mk (below_step (Lz HB) hb); (try clear hb); (try clear ho0); obtain ⟨Ao19, co19, eo19⟩ := Kd.S_slice HO139.out; subst eo19) | ((with_reducible refine gate_callee (f := 19) rfl ?_); refine goesM_ (some 25) rfl rfl Try.func19 (by kernel_rfl) rfl #[.slice Ao13 t133.length co13, .slice Ao19 t137.length co19] rfl ?_; (with_reducible refine (laws_eqIntSS.calls kj8 _ _ t133 _ _ t137 true _ ?side1 ?side2 ?side3 ?side4 A16.out).mono ?_); (case side1 => exact Cz ((Kd.S_reads' HO_5.out).2.2)); (case side2 => exact (Kd.S_reads' HO_5.out).2.1); (case side3 => exact Cz ((Kd.S_reads' HO139.out).2.2)); (case side4 => exact (Kd.S_reads' HO139.out).2.1); rintro e w' ⟨rfl, ⟨nd, rfl⟩⟩; refine ⟨_, rfl, ?_⟩))
      go_ret
      exact ⟨by first | rfl | (simp [errW_none, errW_some] <;> rfl) | (simp [*, errW_none, errW_some] <;> rfl), by exact Lz HB⟩
     replace c17 := Bool.eq_false_iff.mpr c17
     subst c17
     have H1 : (some false) = some r := by rw [if_neg (show ¬ (false = true) by decide)] at H; exact H
     clear H
     have H := H1
     clear H1
     obtain rfl := Option.some.inj H
     go_wp2_with (first | ((with_reducible refine gate_callee (f := 17) rfl ?_); refine goesM_ (some 24) rfl rfl Try.func17 (by kernel_rfl) rfl #[.slice A0 l0.length c0] rfl ?_; (with_reducible refine (laws_toIntSS.calls kj8 _ _ l0 t137 _ ?side1 ?side2 A15.out).mono ?_); (case side1 => exact Cz ((Kd.C_below HR0.out HB.out))); (case side2 => exact HC0.out); rintro e w20 ⟨v138, rfl, ho0, hb⟩; refine ⟨_, rfl, ?_⟩; have HO139 := Aside0.mk (Kd.S_lower (Kd.S_new' ho0 (Kd.S_lt (by (with_reducible repeat (first | apply Kd.S_alloc | apply Kd.S_drewN | apply Kd.S_drew)); exact HO_5.out))) (below_size (Lz HB))); replace HO_5 := Aside0.mk (Kd.S_elder' (by (with_reducible repeat (first | apply Kd.S_alloc | apply Kd.S_drewN | apply Kd.S_drew)); exact HO_5.out) (Kd.S_base ho0) hb); replace HB := Aside0.mk (below_step (Lz HB) hb); (try clear hb); (try clear ho0); obtain ⟨Ao21, co21, eo21⟩ := Kd.S_slice HO139.out; subst eo21) | ((with_reducible refine gate_callee (f := 19) rfl ?_); refine goesM_ (some 25) rfl rfl Try.func19 (by kernel_rfl) rfl #[.slice Ao13 t133.length co13, .slice Ao21 t137.length co21] rfl ?_; (with_reducible refine (laws_eqIntSS.calls kj8 _ _ t133 _ _ t137 false _ ?side1 ?side2 ?side3 ?side4 A16.out).mono ?_); (case side1 => exact Cz ((Kd.S_reads' HO_5.out).2.2)); (case side2 => exact (Kd.S_reads' HO_5.out).2.1); (case side3 => exact Cz ((Kd.S_reads' HO139.out).2.2)); (case side4 => exact (Kd.S_reads' HO139.out).2.1); rintro e w' ⟨rfl, ⟨nd, rfl⟩⟩; refine ⟨_, rfl, ?_⟩))
     go_ret
     exact ⟨by first | rfl | (simp [errW_none, errW_some] <;> rfl) | (simp [*, errW_none, errW_some] <;> rfl), by exact Lz HB⟩
end Go.Proofs.Ytchkndeeaoohpaa.P
end
section
namespace Go.Proofs.Ytchkndeeaoohpaa.Pure
open Go.RowKit Go.Proofs.Ytchkndeeaoohpaa.P Go.Proofs.YtchkndeeaoohpaaW.PrintWords Go.Proofs.YtchkndeeaoohpaaW.PrintLast Go.Proofs.YtchkndeeaoohpaaW.PrintMore
def StatFnExactMatrixOk : Prop := ∀ (l0 : List (List (Int))), (l0.length ≤ maxLen ∧ ∀ x2 ∈ l0, x2.length ≤ maxLen ∧ ∀ x2_ ∈ x2, (Lit.int .i64 x2_).wf = true) → ∃ k, laws_FnExactMatrixOk.f k l0 = some true
end Go.Proofs.Ytchkndeeaoohpaa.Pure
end
section
set_option linter.unusedVariables false
set_option linter.unusedSimpArgs false
namespace Go.Proofs.Ytchkndeeaoohpaa.Pure
open Go.RowKit Go.Proofs.Ytchkndeeaoohpaa.P Go.Proofs.YtchkndeeaoohpaaW.PrintWords Go.Proofs.YtchkndeeaoohpaaW.PrintLast Go.Proofs.YtchkndeeaoohpaaW.PrintMore Go.Proofs.Ytchkndeeaoohpaa.Base Go.Proofs.Ytchkndeeaoohpaa.Bits Go.Proofs.Ytchkndeeaoohpaa.Loops
theorem FnExactMatrixOk : StatFnExactMatrixOk := by
  intro l ⟨hl, hr⟩
  have hl' : l.length ≤ 9223372036854775807 := by unfold maxLen at hl; omega
  have hr' : ∀ r ∈ l, r.length ≤ 9223372036854775807 := fun r h => by have := (hr r h).1; unfold maxLen at this; omega
  refine Ev.rounds (r := true) ?_
  obtain ⟨v, es, hv⟩ := szIntSS_ex l hl' hr'
  unfold laws_FnExactMatrixOk.f
  refine Ev.bind es ?_
  by_cases c : v < 0
  · exact ev_ift c (Ev.now _)
  · refine ev_ifn c ?_
    obtain ⟨h1, h2⟩ := hv (by omega)
    have hL : l.length < 4611686018427387904 := by omega
    have hR : ∀ r ∈ l, r.length < 4611686018427387904 := fun r h => by have := h2 r h; omega
    have tt := toIntSS_ev l h1 h2
    have ee := eqIntSS_ev l hL hR
    obtain ⟨b, g1, g2, _⟩ := matOk_both l hL hR
    repeat (first
      | exact Ev.now _
      | dsimp only
      | (with_reducible refine Ev.bind tt ?_) | (with_reducible refine Ev.bind ee ?_) | (with_reducible refine Ev.bind g1 ?_) | (with_reducible refine Ev.bind g2 ?_)
      | with_reducible refine ev_ift (by first | rfl | omega) ?_
      | with_reducible refine ev_ifn (by omega) ?_
      | with_reducible refine ev_ifb ?_
      | with_reducible refine ev_ifnn ?_
      | with_reducible refine ev_iff ?_
      | (refine ev_succ ?_; simp only [if_true, laws_FnExactMatrixOk.j0, laws_FnExactMatrixOk.j1])
      )
end Go.Proofs.Ytchkndeeaoohpaa.Pure
end
