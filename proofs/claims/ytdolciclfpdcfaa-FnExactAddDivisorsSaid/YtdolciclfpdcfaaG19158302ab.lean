/- Functions of the program as plain Lean functions, and that the machine's calls answer as they do. Written for this claim by a program of this work that drives the kit's print engine; Lean checks it. -/
import Derived.Test.YtdolciclfpdcfaaGc228f34524
import Derived.Test.YtdolciclfpdcfaaGea278c5c5b
import Derived.Test.YtdolciclfpdcfaaGfb3176eed4
namespace Go.Proofs.Ytdolciclfpdcfaa.P
open Go.RowKit Go.Proofs.YtdolciclfpdcfaaW.PrintWords Go.Proofs.YtdolciclfpdcfaaW.PrintLast Go.Proofs.YtdolciclfpdcfaaW.PrintMore
attribute [local go_sem] max2_int min2_int max_two min_two max_three min_three max_four min_four   -- for this text's walks alone
set_option linter.unusedVariables false
set_option linter.unusedSimpArgs false

/-! ### spec_AddDivisors: function 31 -/
def spec_AddDivisors.l0 : Nat → List Int → List Int → List Int → Int → Int → Option (List Int × Bool)
 | 0, _, _, _, _, _ => none
 | k + 1, x1, x6, x15, x16, x17 => if x17 < x16 then (if 0 ≤ x17 then (if x17 < (x15.length : Int) then (if x17 < (x1.length : Int) then (if x6.length < 17592186044416 then (spec_AddDivisors.l0 k x1 (x6 ++ [wrap64 ((rd x15 x17) + (rd x1 x17))]) x15 x16 (wrap64 (x17 + 1))) else (none)) else (none)) else (none)) else (none)) else (some (x6, true))
def spec_AddDivisors.f (k : Nat) (l0 : List Int) (l1 : List Int) : Option (List Int × Bool) := if (l0.length : Int) = (l1.length : Int) then (spec_AddDivisors.l0 k l1 (([] : List Int)) l0 (l0.length : Int) 0) else (some (([] : List Int), false))
set_option maxHeartbeats 8000000 in
set_option maxRecDepth 100000 in
theorem spec_AddDivisors.calls (k : Nat) (A0 : Option Addr) (c0 : Nat) (l0 : List Int) (A1 : Option Addr) (c1 : Nat) (l1 : List Int) (r1 : List Int) (r2 : Bool) (w : World) (hr0 : Kd.C (Kd.int .i64) w A0 l0.length l0) (hc0 : l0.length ≤ c0) (hr1 : Kd.C (Kd.int .i64) w A1 l1.length l1) (hc1 : l1.length ≤ c1) (h : spec_AddDivisors.f k l0 l1 = some (r1, r2)) :
  Calls Try.prog 31 #[.slice A0 l0.length c0, .slice A1 l1.length c1] w fun e w' => ∃ v0_ : Value, e = .returned (.tuple #[v0_, .bool r2]) ∧ Kd.R (Kd.int .i64) 3 w' w.heap.size (fun _ => True) v0_ r1 ∧ Below w.heap.size w w' := by
 have HR0 := Aside0.mk hr0
 have HC0 := Aside0.mk hc0
 clear hr0 hc0
 have HR1 := Aside0.mk hr1
 have HC1 := Aside0.mk hc1
 clear hr1 hc1
 have HB := Aside0.mk (Below.refl w.heap.size w)
 have H : (if (l0.length : Int) = (l1.length : Int) then (spec_AddDivisors.l0 k l1 (([] : List Int)) l0 (l0.length : Int) 0) else (some (([] : List Int), false))) = some (r1, r2) := h
 clear h
 by_cases c3 : (l0.length : Int) = (l1.length : Int)
 ·rw [if_pos c3] at H
  have c3b0 : ((l0.length : Int) == (l1.length : Int)) = true := beq_iff_eq.mpr c3
  have c3b1 : ((l0.length : Int) != (l1.length : Int)) = false := bne_eq_false_iff_eq.mpr c3
  have c3b2 : (l0.length == l1.length) = true := by first | simpa using c3 | (simp at c3 ⊢; omega)
  clear c3
  obtain ⟨y217, hy217⟩ : ∃ y_ : List Int, y_ = (([] : List Int)) := ⟨_, rfl⟩
  replace H : (spec_AddDivisors.l0 k l1 y217 l0 (l0.length : Int) 0) = some (r1, r2) := by first | (rw [hy217]; with_reducible exact H) | (have H2_ := (Option.bind_some _ _).symm.trans H; rw [hy217]; with_reducible exact H2_) | (have H2_ := (Option.bind_some _ _).symm.trans H; with_reducible exact H2_) | with_reducible exact H | (rw [hy217]; exact H) | exact H
  have Ny217 := Aside0.mk hy217
  clear hy217
  have H' := Aside0.mk H
  clear H
  go_enter Try.func31, Try.ntmps31
  go_wp2_with (first | ((with_reducible refine gate_dst (N := 14) rfl ?_); refine Kd.R_lit (Kd.int .i64) _ 3 ?hg (N := 14) ?hd (xs := ([] : List Int)) (inner := []) (ok := fun _ => True) (okp := fun _ => True) ?hr ?hp (fun _ hk => hk) trivial (Below.refl _ _) (Nat.le_refl _) (by simp) ?_; (case hd => rfl); (case hg => rfl); (case hr => first | (go_simp; done) | (go_simp; rfl)); (case hp => exact (Reps.none _ _)); intro v218 w4 ho5 hb hg_ hnew_; clear hg_ hnew_; (first | rw [← Ny217.out] at ho5 | (simp only [Int.reduceToNat] at ho5; rw [← Ny217.out] at ho5)); have HO219 := Aside0.mk (Kd.R_lower ho5 (below_size (Lz HB))); replace HB := Aside0.mk (below_step (Lz HB) hb); clear hb ho5))
  go_loopg [6, 17] k (fun kq v6 v17 w' => ∃ (x6_1 : List Int) (x17_1 : Int), v17 = .int .i64 x17_1 ∧ Aside0 (spec_AddDivisors.l0 kq l1 x6_1 l0 (l0.length : Int) x17_1 = some (r1, r2)) ∧ Aside0 (kq ≤ k) ∧ Aside0 (Kd.R (Kd.int .i64) 3 w' w.heap.size (fun _ => True) v6 x6_1) ∧ Aside0 (Below w.heap.size w w'))
  case atStart => exact ⟨(y217), (0), (by first | rfl | (simp; done) | (simp [*]; done)), H', ⟨Nat.le_refl _⟩, ⟨by exact Rz HO219⟩, ⟨by exact Lz HB⟩⟩
  case round =>
   clear H'
   try clear c1
   try clear c3
   try clear c3b0
   try clear c3b1
   try clear c3b2
   obtain ⟨x6_1, x17_1, rfl, HA, HK1, HO_6, HB⟩ := hrel
   cases gk with
   | zero => exact absurd HA.out (by simp [spec_AddDivisors.l0])
   | succ k1 =>
    have H := HA.out
    clear HA
    simp only [spec_AddDivisors.l0] at H
    by_cases c6 : x17_1 < (l0.length : Int)
    ·rw [if_pos c6] at H
     have c6b0 : decide (x17_1 < (l0.length : Int)) = true := decide_eq_true c6
     clear c6
     by_cases c7 : 0 ≤ x17_1
     ·rw [if_pos c7] at H
      have c7b0 : decide (0 ≤ x17_1) = true := decide_eq_true c7
      clear c7
      by_cases c8 : x17_1 < (l0.length : Int)
      ·rw [if_pos c8] at H
       have c8b0 : decide (x17_1 < (l0.length : Int)) = true := decide_eq_true c8
       clear c8
       by_cases c9 : x17_1 < (l1.length : Int)
       ·rw [if_pos c9] at H
        have c9b0 : decide (x17_1 < (l1.length : Int)) = true := decide_eq_true c9
        clear c9
        by_cases c10 : x6_1.length < 17592186044416
        ·rw [if_pos c10] at H
         have LMc10 := Aside0.mk c10
         clear c10
         obtain ⟨y222, hy222⟩ : ∃ y_ : List Int, y_ = (x6_1 ++ [wrap64 ((rd l0 x17_1) + (rd l1 x17_1))]) := ⟨_, rfl⟩
         replace H : (spec_AddDivisors.l0 k1 l1 y222 l0 (l0.length : Int) (wrap64 (x17_1 + 1))) = some (r1, r2) := by first | (rw [hy222]; with_reducible exact H) | (have H2_ := (Option.bind_some _ _).symm.trans H; rw [hy222]; with_reducible exact H2_) | (have H2_ := (Option.bind_some _ _).symm.trans H; with_reducible exact H2_) | with_reducible exact H | (rw [hy222]; exact H) | exact H
         have Ny222 := Aside0.mk hy222
         clear hy222
         have H' := Aside0.mk H
         clear H
         have p220 : 0 ≤ (x17_1 : Int) := of_decide_eq_true (by first | (with_reducible assumption) | assumption)
         have q220 : x17_1 < (l0.length : Int) := of_decide_eq_true (by first | (with_reducible assumption) | assumption)
         obtain ⟨ad220, e220, hx220_0⟩ := Kd.at_int HR0.out x17_1 p220 q220
         cases e220
         replace hx220_0 := (HB.out.cell (World.block_lt_of_cell? w _ hx220_0)).trans hx220_0
         replace p220 := eq_true p220
         replace q220 := eq_true q220
         have p221 : 0 ≤ (x17_1 : Int) := of_decide_eq_true (by first | (with_reducible assumption) | assumption)
         have q221 : x17_1 < (l1.length : Int) := of_decide_eq_true (by first | (with_reducible assumption) | assumption)
         obtain ⟨ad221, e221, hx221_0⟩ := Kd.at_int HR1.out x17_1 p221 q221
         cases e221
         replace hx221_0 := (HB.out.cell (World.block_lt_of_cell? w _ hx221_0)).trans hx221_0
         replace p221 := eq_true p221
         replace q221 := eq_true q221
         go_wp2_with (first | ((with_reducible refine gate_builtin (b := .append) (xs := #[.tmp 22, .tmp 29]) rfl ?_); at_builtin; refine Kd.R_append (Kd.int .i64) (w0 := w) w.heap.size rfl (.tmp 22) (.tmp 29) 23 3 (.int .i64 0) 8 rfl Try.underlying23 info3 rfl (by decide) (by omega) u6 x6_1 (wrap64 ((rd l0 x17_1) + (rd l1 x17_1))) [.int .i64 (wrap64 ((rd l0 x17_1) + (rd l1 x17_1)))] (fun _ => True) (fun _ => False) rfl rfl ?aP (fun _ hk => hk.elim) ?aF ?aO ?aB ?aS ?aL ?_; (case aP => exact rfl); (case aB => exact (Lz HB)); (case aF => exact (fun _ _ => trivial)); (case aO => exact (Rz HO_6)); (case aS => exact (below_size (Lz HB))); (case aL => have := LMc10.out; omega); intro v223 w11 ho hb hg hat; rw [← Ny222.out] at ho; replace HB := Aside0.mk (hb); have HO224 := Aside0.mk (ho); clear HO_6; clear ho hb hg hat))
         go_roundg k1
         case measure => have := HK1.out; omega
         case rel => exact ⟨(y222), (wrap64 (x17_1 + 1)), (by first | rfl | (simp; done) | (simp [*]; done)), H', ⟨by have := HK1.out; omega⟩, ⟨by exact Rz HO224⟩, ⟨by exact Lz HB⟩⟩
        rw [if_neg c10] at H
        exact absurd H (by simp)
       rw [if_neg c9] at H
       exact absurd H (by simp)
      rw [if_neg c8] at H
      exact absurd H (by simp)
     rw [if_neg c7] at H
     exact absurd H (by simp)
    rw [if_neg c6] at H
    have c6b0 : decide (x17_1 < (l0.length : Int)) = false := decide_eq_false c6
    clear c6
    simp only [Option.some.injEq, Prod.mk.injEq] at H
    obtain ⟨rfl, rfl⟩ := H
    go_wp2
    go_ret2
    exact ⟨_, by first | rfl | (simp [errW_none, errW_some] <;> rfl) | (simp [*, errW_none, errW_some] <;> rfl), by exact Rz HO_6, by exact Lz HB⟩
 rw [if_neg c3] at H
 have c3b0 : ((l0.length : Int) == (l1.length : Int)) = false := beq_eq_false_iff_ne.mpr c3
 have c3b1 : ((l0.length : Int) != (l1.length : Int)) = true := bne_iff_ne.mpr c3
 have c3b2 : (l0.length == l1.length) = false := by first | simpa using c3 | (simp at c3 ⊢; omega)
 simp only [Option.some.injEq, Prod.mk.injEq] at H
 obtain ⟨rfl, rfl⟩ := H
 go_enter Try.func31, Try.ntmps31
 go_wp2
 go_ret2
 exact ⟨_, by first | rfl | (simp [errW_none, errW_some] <;> rfl) | (simp [*, errW_none, errW_some] <;> rfl), by first | exact Kd.R_nil _ _ _ _ _ | exact Kd.N_nil _ _ _ _ _ | exact Kd.V_nil _ _ _ _ _ | exact Kd.Q_nil _ _ _ _ _ | exact Kd.S_nil _ _ _ _ _, by exact Lz HB⟩

/-! ### impl_plus: function 50 -/
def impl_plus.l0 : Nat → List Int → List Int → Int → Int → Option (List Int)
 | 0, _, _, _, _ => none
 | k + 1, x1, x5, x10, x11 => if x11 < x10 then (if 0 ≤ x11 then (if x11 < (x5.length : Int) then (if x11 < (x1.length : Int) then (impl_plus.l0 k x1 (x5.set (x11 : Int).toNat (wrap64 ((rd x5 x11) + (rd x1 x11)))) x10 (wrap64 (x11 + 1))) else (none)) else (none)) else (none)) else (some x5)
def impl_plus.f (k : Nat) (l0 : List Int) (l1 : List Int) : Option (List Int) := (impl_copyInts.f l0).bind fun t225 => (impl_plus.l0 k l1 t225 (t225.length : Int) 0)
def impl_plus.T5 : Bool × List (List Nat × List Nat) := (true, [([], []), ([], []), ([0, 1], [0, 1]), ([2], [2]), ([], []), ([], []), ([4, 5], [4, 5]), ([6], [6]), ([3, 7], [3, 7]), ([0, 1, 0, 1, 2, 3, 4, 5, 6, 7, 8], [0, 1]), ([9, 8, 0, 1, 2, 3, 4, 5, 6, 7, 8], [8, 9])])
def impl_plus.B5 : List Nat := [0, 0, 3, 7, 0, 0, 48, 112, 255, 511, 1023]
theorem impl_plus.tab5 : rtab .any (opsOf Try.f50 5) = impl_plus.T5 := by kernel_rfl
theorem impl_plus.bits5 : waitsOk impl_plus.T5.2 impl_plus.B5 = true := by kernel_rfl
set_option maxHeartbeats 8000000 in
set_option maxRecDepth 100000 in
theorem impl_plus.calls (k : Nat) (A0 : Option Addr) (c0 : Nat) (l0 : List Int) (A1 : Option Addr) (c1 : Nat) (l1 : List Int) (r : List Int) (w : World) (hr0 : Kd.C (Kd.int .i64) w A0 l0.length l0) (hc0 : l0.length ≤ c0) (hr1 : Kd.C (Kd.int .i64) w A1 l1.length l1) (hc1 : l1.length ≤ c1) (h : impl_plus.f k l0 l1 = some r) :
  Calls Try.prog 50 #[.slice A0 l0.length c0, .slice A1 l1.length c1] w fun e w' => ∃ v0_ : Value, e = .returned (v0_) ∧ Kd.R (Kd.int .i64) 3 w' w.heap.size (fun _ => True) v0_ r ∧ Below w.heap.size w w' := by
 have HR0 := Aside0.mk hr0
 have HC0 := Aside0.mk hc0
 clear hr0 hc0
 have HR1 := Aside0.mk hr1
 have HC1 := Aside0.mk hc1
 clear hr1 hc1
 have HB := Aside0.mk (Below.refl w.heap.size w)
 have H : ((impl_copyInts.f l0).bind fun t225 => (impl_plus.l0 k l1 t225 (t225.length : Int) 0)) = some r := h
 clear h
 replace H := Option.bind_eq_some_iff.mp H
 obtain ⟨t225, A30, H⟩ := H
 replace H : (impl_plus.l0 k l1 t225 (t225.length : Int) 0) = some r := H
 have A3 := Aside0.mk A30
 clear A30
 have H' := Aside0.mk H
 clear H
 go_enter Try.func50, Try.ntmps50
 go_wp2_with (first | ((with_reducible refine gate_callee (f := 49) rfl ?_); refine goesM_ (some 8) rfl rfl Try.func49 (by kernel_rfl) rfl #[.slice A0 l0.length c0] rfl ?_; (with_reducible refine (impl_copyInts.calls _ _ l0 t225 _ ?side1 ?side2 A3.out).mono ?_); (case side1 => exact Cz (HR0.out)); (case side2 => exact HC0.out); rintro e w4 ⟨v226, rfl, ho0, hb⟩; refine ⟨_, rfl, ?_⟩; have HO227 := Aside0.mk (Kd.R_lower ho0 (below_size (Lz HB))); replace HB := Aside0.mk (below_step (Lz HB) hb); (try clear hb); (try clear ho0); obtain ⟨Ao5, co5, eo5⟩ := Kd.R_slice HO227.out; subst eo5))
 go_loopg [11] k (fun kq v11 w' => ∃ (x5_1 : List Int) (x11_1 : Int), v11 = .int .i64 x11_1 ∧ Aside0 (impl_plus.l0 kq l1 x5_1 (t225.length : Int) x11_1 = some r) ∧ Aside0 (kq ≤ k) ∧ Aside0 (Kd.R (Kd.int .i64) 3 w' w.heap.size (fun _ => True) (.slice Ao5 t225.length co5) x5_1) ∧ Aside0 (Below w.heap.size w w'))
 case atStart => exact ⟨(t225), (0), (by first | rfl | (simp; done) | (simp [*]; done)), H', ⟨Nat.le_refl _⟩, ⟨by exact Rz HO227⟩, ⟨by exact Lz HB⟩⟩
 case round =>
  clear H'
  try clear c1
  obtain ⟨x5_1, x11_1, rfl, HA, HK1, HO_5, HB⟩ := hrel
  have hl5_1 := (Kd.R_reads' HO_5.out).1
  rw [hl5_1] at HO_5
  (try simp only [hl5_1])
  cases gk with
  | zero => exact absurd HA.out (by simp [impl_plus.l0])
  | succ k1 =>
   have H := HA.out
   clear HA
   simp only [impl_plus.l0] at H
   by_cases c6 : x11_1 < (t225.length : Int)
   ·rw [if_pos c6] at H
    have c6b0 : decide (x11_1 < (t225.length : Int)) = true := decide_eq_true c6
    (try simp only [hl5_1] at c6b0)
    clear c6
    by_cases c7 : 0 ≤ x11_1
    ·rw [if_pos c7] at H
     have c7b0 : decide (0 ≤ x11_1) = true := decide_eq_true c7
     clear c7
     by_cases c8 : x11_1 < (x5_1.length : Int)
     ·rw [if_pos c8] at H
      have c8b0 : decide (x11_1 < (x5_1.length : Int)) = true := decide_eq_true c8
      (try simp only [hl5_1] at c8b0)
      clear c8
      by_cases c9 : x11_1 < (l1.length : Int)
      ·rw [if_pos c9] at H
       have c9b0 : decide (x11_1 < (l1.length : Int)) = true := decide_eq_true c9
       (try simp only [hl5_1] at c9b0)
       clear c9
       obtain ⟨y230, hy230⟩ : ∃ y_ : List Int, y_ = (x5_1.set (x11_1 : Int).toNat (wrap64 ((rd x5_1 x11_1) + (rd l1 x11_1)))) := ⟨_, rfl⟩
       replace H : (impl_plus.l0 k1 l1 y230 (t225.length : Int) (wrap64 (x11_1 + 1))) = some r := by first | (rw [hy230]; with_reducible exact H) | (have H2_ := (Option.bind_some _ _).symm.trans H; rw [hy230]; with_reducible exact H2_) | (have H2_ := (Option.bind_some _ _).symm.trans H; with_reducible exact H2_) | with_reducible exact H | (rw [hy230]; exact H) | exact H
       have Ny230 := Aside0.mk hy230
       clear hy230
       have H' := Aside0.mk H
       clear H
       try go_wp2
       replace HO_5 := Aside0.mk (Kd.R_drew HO_5.out)
       replace HB := Aside0.mk (below_drew1 HB.out)
       have p228 : 0 ≤ (x11_1 : Int) := of_decide_eq_true (by first | (with_reducible assumption) | assumption)
       have q228 : x11_1 < (x5_1.length : Int) := of_decide_eq_true (by first | (with_reducible assumption) | assumption)
       obtain ⟨ad228, e228, hx228_0⟩ := Kd.at_int (Kd.R_reads' HO_5.out).2.2 x11_1 p228 q228
       cases e228
       replace p228 := eq_true p228
       replace q228 := eq_true q228
       have p229 : 0 ≤ (x11_1 : Int) := of_decide_eq_true (by first | (with_reducible assumption) | assumption)
       have q229 : x11_1 < (l1.length : Int) := of_decide_eq_true (by first | (with_reducible assumption) | assumption)
       obtain ⟨ad229, e229, hx229_0⟩ := Kd.at_int HR1.out x11_1 p229 q229
       have hw229_0 := hx229_0
       cases e229
       replace hx229_0 := (HB.out.cell (World.block_lt_of_cell? w _ hx229_0)).trans hx229_0
       replace p229 := eq_true p229
       replace q229 := eq_true q229
       have p10 : 0 ≤ (x11_1 : Int) := of_decide_eq_true (by first | (with_reducible assumption) | assumption)
       have q10 : (x11_1 : Int) < ((x5_1.length : Int) : Int) := of_decide_eq_true (by first | (with_reducible assumption) | assumption)
       obtain ⟨go10, co10, eo10, gb10, gl10, cl10, HG10⟩ := Kd.R_form HO_5.out (by omega)
       (first | cases eo10 | (injection eo10 with ea_ en_ ec_; (first | subst ea_ | (injection ea_ with ea_; subst ea_)); subst ec_; clear en_))
       have GB10 := Aside0.mk gb10
       have GG10 := Aside0.mk HG10
       clear gb10 gl10 HG10
       (first | simp only [add_plain] at hx228_0 | skip)
       obtain ⟨hx10_0, hf10_0⟩ := Kd.R_celln 0 HO_5.out (x11_1 : Int) p10 q10
       replace p10 := eq_true p10
       replace q10 := eq_true q10
       have HP12 := Kd.R_putn HO_5.out (x11_1 : Int) (wrap64 ((rd x5_1 x11_1) + (rd l1 x11_1)))
       rw [← Ny230.out] at HP12
       have HQ12 := Aside0.mk HP12
       clear HP12
       refine start_ (n := 11) (S := fun w' => w'.cell? ⟨go10, (x11_1).toNat, none⟩ = some (.int .i64 (rd x5_1 x11_1)) ∧ w'.cell? (ad229.add (x11_1).toNat) = some (.int .i64 (rd l1 x11_1))) (ds := [10]) #[false, false, false, false, false, false, false, false, false, false, false] (by kernel_rfl) rfl rfl ⟨hx228_0, ((HB.out.cell (World.block_lt_of_cell? w _ hw229_0)).trans hw229_0)⟩ (fun hHeld => ?_); refine with_tabW impl_plus.tab5 impl_plus.bits5 (fun HT_ HW_ => ?_)
       generalize wr.drew = w11 at HO_5 HB GG10 HQ12 hf10_0 hx10_0 hx228_0 hx229_0 hHeld ⊢
       refine pureT_ 0 14 HT_ ?_
       refine pureT_ 1 15 HT_ ?_
       refine pureT_ 2 16 HT_ ?_
       refine pureT_ 4 18 HT_ ?_
       refine pureT_ 5 19 HT_ ?_
       refine pureT_ 6 20 HT_ ?_
       refine takeT_ 3 17 HT_ HW_ hHeld rfl (by rintro w' ⟨s0, s1⟩; go_simp; with_reducible rfl) ?_
       refine takeT_ 7 21 HT_ HW_ hHeld rfl (by rintro w' ⟨s0, s1⟩; go_simp; with_reducible rfl) ?_
       refine pureT_ 8 22 HT_ ?_
       refine pureT_ 9 23 HT_ ?_
       refine last_ (i := 10) (N := none) #[true, true, true, true, true, true, true, true, true, true, true] rfl rfl (one_of HT_.out (by kernel_rfl)) (by decide) (fun K hK => ?_)
       refine skip_ (w1 := ?_) (by rfl) rfl ?_ ?_
       rotate_left
       ·go_simp
        rfl
       refine hK.out _ _ ?_
       clear hK K
       refine done_ (done_of HT_.out (by kernel_rfl)) ?_
       try go_wp2
       (try simp only [← hl5_1])
       go_roundg k1
       case measure => have := HK1.out; omega
       case rel => exact ⟨(y230), (wrap64 (x11_1 + 1)), (by first | rfl | (simp; done) | (simp [*]; done)), H', ⟨by have := HK1.out; omega⟩, ⟨by (try simp only [hl5_1]); exact Rz HQ12⟩, ⟨by exact Lz1 HB GB10⟩⟩
      rw [if_neg c9] at H
      exact absurd H (by simp)
     rw [if_neg c8] at H
     exact absurd H (by simp)
    rw [if_neg c7] at H
    exact absurd H (by simp)
   rw [if_neg c6] at H
   have c6b0 : decide (x11_1 < (t225.length : Int)) = false := decide_eq_false c6
   (try simp only [hl5_1] at c6b0)
   clear c6
   obtain rfl := Option.some.inj H
   go_wp2
   go_ret
   exact ⟨_, by first | rfl | (simp [errW_none, errW_some] <;> rfl) | (simp [*, errW_none, errW_some] <;> rfl), by exact Rz HO_5, by exact Lz HB⟩

/-! ### impl_AddDivisors: function 32 -/
def impl_AddDivisors.f (k : Nat) (l0 : List Int) (l1 : List Int) : Option (List Int × Bool) := if (l0.length : Int) = (l1.length : Int) then ((impl_plus.f k l0 l1).bind fun t231 => (some (t231, true))) else (some (([] : List Int), false))
set_option maxHeartbeats 8000000 in
set_option maxRecDepth 100000 in
theorem impl_AddDivisors.calls (k : Nat) (A0 : Option Addr) (c0 : Nat) (l0 : List Int) (A1 : Option Addr) (c1 : Nat) (l1 : List Int) (r1 : List Int) (r2 : Bool) (w : World) (hr0 : Kd.C (Kd.int .i64) w A0 l0.length l0) (hc0 : l0.length ≤ c0) (hr1 : Kd.C (Kd.int .i64) w A1 l1.length l1) (hc1 : l1.length ≤ c1) (h : impl_AddDivisors.f k l0 l1 = some (r1, r2)) :
  Calls Try.prog 32 #[.slice A0 l0.length c0, .slice A1 l1.length c1] w fun e w' => ∃ v0_ : Value, e = .returned (.tuple #[v0_, .bool r2]) ∧ Kd.R (Kd.int .i64) 3 w' w.heap.size (fun _ => True) v0_ r1 ∧ Below w.heap.size w w' := by
 have HR0 := Aside0.mk hr0
 have HC0 := Aside0.mk hc0
 clear hr0 hc0
 have HR1 := Aside0.mk hr1
 have HC1 := Aside0.mk hc1
 clear hr1 hc1
 have HB := Aside0.mk (Below.refl w.heap.size w)
 have H : (if (l0.length : Int) = (l1.length : Int) then ((impl_plus.f k l0 l1).bind fun t231 => (some (t231, true))) else (some (([] : List Int), false))) = some (r1, r2) := h
 clear h
 by_cases c3 : (l0.length : Int) = (l1.length : Int)
 ·rw [if_pos c3] at H
  have c3b0 : ((l0.length : Int) == (l1.length : Int)) = true := beq_iff_eq.mpr c3
  have c3b1 : ((l0.length : Int) != (l1.length : Int)) = false := bne_eq_false_iff_eq.mpr c3
  have c3b2 : (l0.length == l1.length) = true := by first | simpa using c3 | (simp at c3 ⊢; omega)
  clear c3
  replace H := Option.bind_eq_some_iff.mp H
  obtain ⟨t231, A40, H⟩ := H
  replace H : (some (t231, true)) = some (r1, r2) := H
  have A4 := Aside0.mk A40
  clear A40
  simp only [Option.some.injEq, Prod.mk.injEq] at H
  obtain ⟨rfl, rfl⟩ := H
  go_enter Try.func32, Try.ntmps32
  go_wp2_with (first | ((with_reducible refine gate_callee (f := 50) rfl ?_); refine goesM_ (some 13) rfl rfl Try.func50 (by kernel_rfl) rfl #[.slice A0 l0.length c0, .slice A1 l1.length c1] rfl ?_; (with_reducible refine (impl_plus.calls k _ _ l0 _ _ l1 t231 _ ?side1 ?side2 ?side3 ?side4 A4.out).mono ?_); (case side1 => exact Cz (HR0.out)); (case side2 => exact HC0.out); (case side3 => exact Cz (HR1.out)); (case side4 => exact HC1.out); rintro e w5 ⟨v232, rfl, ho0, hb⟩; refine ⟨_, rfl, ?_⟩; have HO233 := Aside0.mk (Kd.R_lower ho0 (below_size (Lz HB))); replace HB := Aside0.mk (below_step (Lz HB) hb); (try clear hb); (try clear ho0)))
  go_ret2
  exact ⟨_, by first | rfl | (simp [errW_none, errW_some] <;> rfl) | (simp [*, errW_none, errW_some] <;> rfl), by exact Rz HO233, by exact Lz HB⟩
 rw [if_neg c3] at H
 have c3b0 : ((l0.length : Int) == (l1.length : Int)) = false := beq_eq_false_iff_ne.mpr c3
 have c3b1 : ((l0.length : Int) != (l1.length : Int)) = true := bne_iff_ne.mpr c3
 have c3b2 : (l0.length == l1.length) = false := by first | simpa using c3 | (simp at c3 ⊢; omega)
 simp only [Option.some.injEq, Prod.mk.injEq] at H
 obtain ⟨rfl, rfl⟩ := H
 go_enter Try.func32, Try.ntmps32
 go_wp2
 go_ret2
 exact ⟨_, by first | rfl | (simp [errW_none, errW_some] <;> rfl) | (simp [*, errW_none, errW_some] <;> rfl), by first | exact Kd.R_nil _ _ _ _ _ | exact Kd.N_nil _ _ _ _ _ | exact Kd.V_nil _ _ _ _ _ | exact Kd.Q_nil _ _ _ _ _ | exact Kd.S_nil _ _ _ _ _, by exact Lz HB⟩

/-! ### laws_FnExactAddDivisors: function 9 -/
mutual
def laws_FnExactAddDivisors.j0 : Nat → List Int → List Int → Option (Bool)
 | 0, _, _ => none
 | k + 1, x0, x1 => if (x1.length : Int) > 1048576 then (some true) else (laws_FnExactAddDivisors.j1 k x0 x1)
def laws_FnExactAddDivisors.j1 : Nat → List Int → List Int → Option (Bool)
 | 0, _, _ => none
 | k + 1, x0, x1 => (laws_toIntS.f k x0).bind fun t234 => ((laws_toIntS.f k x1).bind fun t237 => ((spec_AddDivisors.f k t234 t237).bind fun bt240 => ((laws_toIntS.f k x0).bind fun t244 => ((laws_toIntS.f k x1).bind fun t247 => ((impl_AddDivisors.f k t244 t247).bind fun bt250 => ((laws_eqIntS.f k bt250.1 bt240.1).bind fun t254 => (if t254 = true then (laws_FnExactAddDivisors.j2 k x0 x1 bt240.1 bt240.2 t244 t247 bt250.1 bt250.2 (bt250.2 != bt240.2)) else (laws_FnExactAddDivisors.j2 k x0 x1 bt240.1 bt240.2 t244 t247 bt250.1 bt250.2 true))))))))
def laws_FnExactAddDivisors.j2 : Nat → List Int → List Int → List Int → Bool → List Int → List Int → List Int → Bool → Bool → Option (Bool)
 | 0, _, _, _, _, _, _, _, _, _ => none
 | k + 1, x0, x1, x5, x6, x7, x8, x9, x10, x48 => if x48 = true then (some false) else (laws_FnExactAddDivisors.j3 k x0 x1 x5 x6 x7 x8 x9 x10)
def laws_FnExactAddDivisors.j3 : Nat → List Int → List Int → List Int → Bool → List Int → List Int → List Int → Bool → Option (Bool)
 | 0, _, _, _, _, _, _, _, _ => none
 | k + 1, x0, x1, x5, x6, x7, x8, x9, x10 => (laws_toIntS.f k x0).bind fun t255 => ((laws_eqIntS.f k x7 t255).bind fun t258 => (if t258 = true then (laws_FnExactAddDivisors.j4 k x0 x1 x5 x6 x7 x8 x9 x10) else (some false)))
def laws_FnExactAddDivisors.j4 : Nat → List Int → List Int → List Int → Bool → List Int → List Int → List Int → Bool → Option (Bool)
 | 0, _, _, _, _, _, _, _, _ => none
 | k + 1, x0, x1, x5, x6, x7, x8, x9, x10 => (laws_toIntS.f k x1).bind fun t259 => ((laws_eqIntS.f k x8 t259).bind fun t262 => (if t262 = true then (laws_FnExactAddDivisors.j5 k x0 x1 x5 x6 x7 x8 x9 x10) else (some false)))
def laws_FnExactAddDivisors.j5 : Nat → List Int → List Int → List Int → Bool → List Int → List Int → List Int → Bool → Option (Bool)
 | 0, _, _, _, _, _, _, _, _ => none
 | k + 1, x0, x1, x5, x6, x7, x8, x9, x10 => (laws_markIntS.f k x7 1).bind fun bt263 => ((laws_markIntS.f k x8 bt263.1).bind fun bt265 => (if bt265.1 < 0 then (laws_FnExactAddDivisors.j6 k x0 x1 x5 x6 x9 true) else ((laws_eqIntS.f k x9 x5).bind fun t267 => (if t267 = true then (laws_FnExactAddDivisors.j6 k x0 x1 x5 x6 x9 (x10 != x6)) else (laws_FnExactAddDivisors.j6 k x0 x1 x5 x6 x9 true)))))
def laws_FnExactAddDivisors.j6 : Nat → List Int → List Int → List Int → Bool → List Int → Bool → Option (Bool)
 | 0, _, _, _, _, _, _ => none
 | k + 1, x0, x1, x5, x6, x9, x77 => if x77 = true then (some false) else (laws_FnExactAddDivisors.j7 k x0 x1 x5 x6 x9)
def laws_FnExactAddDivisors.j7 : Nat → List Int → List Int → List Int → Bool → List Int → Option (Bool)
 | 0, _, _, _, _, _ => none
 | k + 1, x0, x1, x5, x6, x9 => (laws_markIntS.f k x9 1).bind fun bt268 => ((laws_heldIntS.f k bt268.2 1).bind fun t270 => (if t270 < 0 then (some false) else (laws_FnExactAddDivisors.j8 k x0 x1 x5 x6 bt268.2 bt268.1 t270)))
def laws_FnExactAddDivisors.j8 : Nat → List Int → List Int → List Int → Bool → List Int → Int → Int → Option (Bool)
 | 0, _, _, _, _, _, _, _ => none
 | k + 1, x0, x1, x5, x6, x9, x12, x13 => if x13 = x12 then (laws_FnExactAddDivisors.j9 k x0 x1 x5 x6 x9 x12) else (some false)
def laws_FnExactAddDivisors.j9 : Nat → List Int → List Int → List Int → Bool → List Int → Int → Option (Bool)
 | 0, _, _, _, _, _, _ => none
 | k + 1, x0, x1, x5, x6, x9, x12 => (laws_toIntS.f k x0).bind fun t271 => ((laws_toIntS.f k x1).bind fun t274 => ((impl_AddDivisors.f k t271 t274).bind fun bt277 => ((laws_eqIntS.f k bt277.1 x5).bind fun t281 => (if t281 = true then (laws_FnExactAddDivisors.j10 k x9 x12 (bt277.2 != x6)) else (laws_FnExactAddDivisors.j10 k x9 x12 true)))))
def laws_FnExactAddDivisors.j10 : Nat → List Int → Int → Bool → Option (Bool)
 | 0, _, _, _ => none
 | k + 1, x9, x12, x105 => if x105 = true then (some false) else (laws_FnExactAddDivisors.j11 k x9 x12)
def laws_FnExactAddDivisors.j11 : Nat → List Int → Int → Option (Bool)
 | 0, _, _ => none
 | k + 1, x9, x12 => (laws_heldIntS.f k x9 1).bind fun t282 => (if t282 < 0 then (some false) else (laws_FnExactAddDivisors.j12 k x12 t282))
def laws_FnExactAddDivisors.j12 : Nat → Int → Int → Option (Bool)
 | 0, _, _ => none
 | k + 1, x12, x13 => if x13 = x12 then (some true) else (some false)
end
def laws_FnExactAddDivisors.f (k : Nat) (l0 : List Int) (l1 : List Int) : Option (Bool) := if (l0.length : Int) > 1048576 then (some true) else (laws_FnExactAddDivisors.j0 k l0 l1)
set_option maxHeartbeats 8000000 in
set_option maxRecDepth 100000 in
theorem laws_FnExactAddDivisors.calls (k : Nat) (A0 : Option Addr) (c0 : Nat) (l0 : List Int) (A1 : Option Addr) (c1 : Nat) (l1 : List Int) (r : Bool) (w : World) (hr0 : Kd.C (Kd.int .i64) w A0 l0.length l0) (hc0 : l0.length ≤ c0) (hr1 : Kd.C (Kd.int .i64) w A1 l1.length l1) (hc1 : l1.length ≤ c1) (h : laws_FnExactAddDivisors.f k l0 l1 = some r) :
  Calls Try.prog 9 #[.slice A0 l0.length c0, .slice A1 l1.length c1] w fun e w' => e = .returned (.bool r) ∧ Below w.heap.size w w' := by
 have HR0 := Aside0.mk hr0
 have HC0 := Aside0.mk hc0
 clear hr0 hc0
 have HR1 := Aside0.mk hr1
 have HC1 := Aside0.mk hc1
 clear hr1 hc1
 have HB := Aside0.mk (Below.refl w.heap.size w)
 have H : (if (l0.length : Int) > 1048576 then (some true) else (laws_FnExactAddDivisors.j0 k l0 l1)) = some r := h
 clear h
 have HC3 := Aside0.mk H
 clear H
 go_enter Try.func9, Try.ntmps9
 go_upto_if 18 with (fail)
 go_cut [] (fun wc => ∃ (kq : Nat), Aside0 (laws_FnExactAddDivisors.j0 kq l0 l1 = some r) ∧ Aside0 (kq ≤ k) ∧ Aside0 (Below w.heap.size w wc))
 case first =>
  have H := HC3.out
  clear HC3
  by_cases c4 : (l0.length : Int) > 1048576
  ·rw [if_pos c4] at H
   have c4b0 : decide (1048576 < (l0.length : Int)) = true := decide_eq_true c4
   (try simp only [hl9_59] at c4b0)
   have c4b1 : decide (1048576 < l0.length) = true := decide_eq_true (by omega)
   (try simp only [hl9_59] at c4b1)
   clear c4
   (first | rw [c4b0] | (simp only [i64_w, i32_w]; rw [c4b0]) | skip)
   obtain rfl := Option.some.inj H
   go_wp2
   go_ret
   exact ⟨by first | rfl | (simp [errW_none, errW_some] <;> rfl) | (simp [*, errW_none, errW_some] <;> rfl), by exact Lz HB⟩
  rw [if_neg c4] at H
  have c4b0 : decide (1048576 < (l0.length : Int)) = false := decide_eq_false c4
  (try simp only [hl9_59] at c4b0)
  have c4b1 : decide (1048576 < l0.length) = false := decide_eq_false (by omega)
  (try simp only [hl9_59] at c4b1)
  clear c4
  (first | rw [c4b0] | (simp only [i64_w, i32_w]; rw [c4b0]) | skip)
  have H' := Aside0.mk H
  clear H
  go_wp2
  go_meet
  case rel => exact ⟨_, H', ⟨by first | omega | exact Nat.le_refl _⟩, ⟨by exact Lz HB⟩⟩
 case rest =>
  clear HC3
  try clear c1
  try clear c4
  try clear c4b0
  try clear c4b1
  obtain ⟨kq, HA, HJ2, HB⟩ := hcut
  cases kq with
  | zero => exact absurd HA.out (by simp [laws_FnExactAddDivisors.j0])
  | succ kj2 =>
   have H := HA.out
   clear HA
   simp only [laws_FnExactAddDivisors.j0] at H
   have HC5 := Aside0.mk H
   clear H
   go_upto_if 21 with (fail)
   go_cut [] (fun wc => ∃ (kq : Nat), Aside0 (laws_FnExactAddDivisors.j1 kq l0 l1 = some r) ∧ Aside0 (kq ≤ kj2) ∧ Aside0 (Below w.heap.size w wc))
   case first =>
    have H := HC5.out
    clear HC5
    by_cases c6 : (l1.length : Int) > 1048576
    ·rw [if_pos c6] at H
     have c6b0 : decide (1048576 < (l1.length : Int)) = true := decide_eq_true c6
     (try simp only [hl9_59] at c6b0)
     have c6b1 : decide (1048576 < l1.length) = true := decide_eq_true (by omega)
     (try simp only [hl9_59] at c6b1)
     clear c6
     (first | rw [c6b0] | (simp only [i64_w, i32_w]; rw [c6b0]) | skip)
     obtain rfl := Option.some.inj H
     go_wp2
     go_ret
     exact ⟨by first | rfl | (simp [errW_none, errW_some] <;> rfl) | (simp [*, errW_none, errW_some] <;> rfl), by exact Lz HB⟩
    rw [if_neg c6] at H
    have c6b0 : decide (1048576 < (l1.length : Int)) = false := decide_eq_false c6
    (try simp only [hl9_59] at c6b0)
    have c6b1 : decide (1048576 < l1.length) = false := decide_eq_false (by omega)
    (try simp only [hl9_59] at c6b1)
    clear c6
    (first | rw [c6b0] | (simp only [i64_w, i32_w]; rw [c6b0]) | skip)
    have H' := Aside0.mk H
    clear H
    go_wp2
    go_meet
    case rel => exact ⟨_, H', ⟨by have := HJ2.out; first | omega | exact Nat.le_refl _⟩, ⟨by exact Lz HB⟩⟩
   case rest =>
    clear HC5
    try clear c1
    try clear c4
    try clear c4b0
    try clear c4b1
    try clear c6
    try clear c6b0
    try clear c6b1
    obtain ⟨kq, HA, HJ4, HB⟩ := hcut
    cases kq with
    | zero => exact absurd HA.out (by simp [laws_FnExactAddDivisors.j1])
    | succ kj4 =>
     have H := HA.out
     clear HA
     simp only [laws_FnExactAddDivisors.j1] at H
     replace H := Option.bind_eq_some_iff.mp H
     obtain ⟨t234, A70, H⟩ := H
     replace H : ((laws_toIntS.f kj4 l1).bind fun t237 => ((spec_AddDivisors.f kj4 t234 t237).bind fun bt240 => ((laws_toIntS.f kj4 l0).bind fun t244 => ((laws_toIntS.f kj4 l1).bind fun t247 => ((impl_AddDivisors.f kj4 t244 t247).bind fun bt250 => ((laws_eqIntS.f kj4 bt250.1 bt240.1).bind fun t254 => (if t254 = true then (laws_FnExactAddDivisors.j2 kj4 l0 l1 bt240.1 bt240.2 t244 t247 bt250.1 bt250.2 (bt250.2 != bt240.2)) else (laws_FnExactAddDivisors.j2 kj4 l0 l1 bt240.1 bt240.2 t244 t247 bt250.1 bt250.2 true)))))))) = some r := H
     have A7 := Aside0.mk A70
     clear A70
     replace H := Option.bind_eq_some_iff.mp H
     obtain ⟨t237, A80, H⟩ := H
     replace H : ((spec_AddDivisors.f kj4 t234 t237).bind fun bt240 => ((laws_toIntS.f kj4 l0).bind fun t244 => ((laws_toIntS.f kj4 l1).bind fun t247 => ((impl_AddDivisors.f kj4 t244 t247).bind fun bt250 => ((laws_eqIntS.f kj4 bt250.1 bt240.1).bind fun t254 => (if t254 = true then (laws_FnExactAddDivisors.j2 kj4 l0 l1 bt240.1 bt240.2 t244 t247 bt250.1 bt250.2 (bt250.2 != bt240.2)) else (laws_FnExactAddDivisors.j2 kj4 l0 l1 bt240.1 bt240.2 t244 t247 bt250.1 bt250.2 true))))))) = some r := H
     have A8 := Aside0.mk A80
     clear A80
     replace H := Option.bind_eq_some_iff.mp H
     obtain ⟨⟨t240, t241⟩, A90, H⟩ := H
     replace H : ((laws_toIntS.f kj4 l0).bind fun t244 => ((laws_toIntS.f kj4 l1).bind fun t247 => ((impl_AddDivisors.f kj4 t244 t247).bind fun bt250 => ((laws_eqIntS.f kj4 bt250.1 t240).bind fun t254 => (if t254 = true then (laws_FnExactAddDivisors.j2 kj4 l0 l1 t240 t241 t244 t247 bt250.1 bt250.2 (bt250.2 != t241)) else (laws_FnExactAddDivisors.j2 kj4 l0 l1 t240 t241 t244 t247 bt250.1 bt250.2 true)))))) = some r := H
     have A9 := Aside0.mk A90
     clear A90
     replace H := Option.bind_eq_some_iff.mp H
     obtain ⟨t244, A100, H⟩ := H
     replace H : ((laws_toIntS.f kj4 l1).bind fun t247 => ((impl_AddDivisors.f kj4 t244 t247).bind fun bt250 => ((laws_eqIntS.f kj4 bt250.1 t240).bind fun t254 => (if t254 = true then (laws_FnExactAddDivisors.j2 kj4 l0 l1 t240 t241 t244 t247 bt250.1 bt250.2 (bt250.2 != t241)) else (laws_FnExactAddDivisors.j2 kj4 l0 l1 t240 t241 t244 t247 bt250.1 bt250.2 true))))) = some r := H
     have A10 := Aside0.mk A100
     clear A100
     replace H := Option.bind_eq_some_iff.mp H
     obtain ⟨t247, A110, H⟩ := H
     replace H : ((impl_AddDivisors.f kj4 t244 t247).bind fun bt250 => ((laws_eqIntS.f kj4 bt250.1 t240).bind fun t254 => (if t254 = true then (laws_FnExactAddDivisors.j2 kj4 l0 l1 t240 t241 t244 t247 bt250.1 bt250.2 (bt250.2 != t241)) else (laws_FnExactAddDivisors.j2 kj4 l0 l1 t240 t241 t244 t247 bt250.1 bt250.2 true)))) = some r := H
     have A11 := Aside0.mk A110
     clear A110
     replace H := Option.bind_eq_some_iff.mp H
     obtain ⟨⟨t250, t251⟩, A120, H⟩ := H
     replace H : ((laws_eqIntS.f kj4 t250 t240).bind fun t254 => (if t254 = true then (laws_FnExactAddDivisors.j2 kj4 l0 l1 t240 t241 t244 t247 t250 t251 (t251 != t241)) else (laws_FnExactAddDivisors.j2 kj4 l0 l1 t240 t241 t244 t247 t250 t251 true))) = some r := H
     have A12 := Aside0.mk A120
     clear A120
     have HC13 := Aside0.mk H
     clear H
     go_upto_region 9 with (first | ((with_reducible refine gate_callee (f := 20) rfl ?_); refine goesM_ (some 24) rfl rfl Try.func20 (by kernel_rfl) rfl #[.slice A0 l0.length c0] rfl ?_; (with_reducible refine (laws_toIntS.calls kj4 _ _ l0 t234 _ ?side1 ?side2 A7.out).mono ?_); (case side1 => exact Cz ((Kd.C_below HR0.out HB.out))); (case side2 => exact HC0.out); rintro e w14 ⟨v235, rfl, ho0, hb⟩; refine ⟨_, rfl, ?_⟩; have HO236 := Aside0.mk (Kd.R_lower ho0 (below_size (Lz HB))); replace HB := Aside0.mk (below_step (Lz HB) hb); (try clear hb); (try clear ho0)) | ((with_reducible refine gate_callee (f := 20) rfl ?_); refine goesM_ (some 26) rfl rfl Try.func20 (by kernel_rfl) rfl #[.slice A1 l1.length c1] rfl ?_; (with_reducible refine (laws_toIntS.calls kj4 _ _ l1 t237 _ ?side1 ?side2 A8.out).mono ?_); (case side1 => exact Cz ((Kd.C_below HR1.out HB.out))); (case side2 => exact HC1.out); rintro e w15 ⟨v238, rfl, ho0, hb⟩; refine ⟨_, rfl, ?_⟩; have HO239 := Aside0.mk (Kd.R_lower (Kd.R_new' ho0 (Kd.R_lt (Rz HO236))) (below_size (Lz HB))); replace HO236 := Aside0.mk (Kd.R_elder' (Rz HO236) (Kd.R_base ho0) hb); replace HB := Aside0.mk (below_step (Lz HB) hb); (try clear hb); (try clear ho0); obtain ⟨Ao16, co16, eo16⟩ := Kd.R_slice HO236.out; subst eo16; obtain ⟨Ao17, co17, eo17⟩ := Kd.R_slice HO239.out; subst eo17) | ((with_reducible refine gate_callee (f := 31) rfl ?_); refine goesM_ (some 27) rfl rfl Try.func31 (by kernel_rfl) rfl #[.slice Ao16 t234.length co16, .slice Ao17 t237.length co17] rfl ?_; (with_reducible refine (spec_AddDivisors.calls kj4 _ _ t234 _ _ t237 t240 t241 _ ?side1 ?side2 ?side3 ?side4 A9.out).mono ?_); (case side1 => exact Cz ((Kd.R_reads' HO236.out).2.2)); (case side2 => exact (Kd.R_reads' HO236.out).2.1); (case side3 => exact Cz ((Kd.R_reads' HO239.out).2.2)); (case side4 => exact (Kd.R_reads' HO239.out).2.1); rintro e w18 ⟨v242, rfl, ho0, hb⟩; refine ⟨_, rfl, ?_⟩; have HO243 := Aside0.mk (Kd.R_lower (Kd.R_new' (Kd.R_new' ho0 (Kd.R_lt (Rz HO236))) (Kd.R_lt (Rz HO239))) (below_size (Lz HB))); replace HO236 := Aside0.mk (Kd.R_elder' (Rz HO236) (Kd.R_base ho0) hb); replace HO239 := Aside0.mk (Kd.R_elder' (Rz HO239) (Kd.R_base ho0) hb); replace HB := Aside0.mk (below_step (Lz HB) hb); (try clear hb); (try clear ho0)) | ((with_reducible refine gate_callee (f := 20) rfl ?_); refine goesM_ (some 31) rfl rfl Try.func20 (by kernel_rfl) rfl #[.slice A0 l0.length c0] rfl ?_; (with_reducible refine (laws_toIntS.calls kj4 _ _ l0 t244 _ ?side1 ?side2 A10.out).mono ?_); (case side1 => exact Cz ((Kd.C_below HR0.out HB.out))); (case side2 => exact HC0.out); rintro e w19 ⟨v245, rfl, ho0, hb⟩; refine ⟨_, rfl, ?_⟩; have HO246 := Aside0.mk (Kd.R_lower (Kd.R_new' (Kd.R_new' (Kd.R_new' ho0 (Kd.R_lt (Rz HO236))) (Kd.R_lt (Rz HO239))) (Kd.R_lt (Rz HO243))) (below_size (Lz HB))); replace HO236 := Aside0.mk (Kd.R_elder' (Rz HO236) (Kd.R_base ho0) hb); replace HO239 := Aside0.mk (Kd.R_elder' (Rz HO239) (Kd.R_base ho0) hb); replace HO243 := Aside0.mk (Kd.R_elder' (Rz HO243) (Kd.R_base ho0) hb); replace HB := Aside0.mk (below_step (Lz HB) hb); (try clear hb); (try clear ho0)) | ((with_reducible refine gate_callee (f := 20) rfl ?_); refine goesM_ (some 33) rfl rfl Try.func20 (by kernel_rfl) rfl #[.slice A1 l1.length c1] rfl ?_; (with_reducible refine (laws_toIntS.calls kj4 _ _ l1 t247 _ ?side1 ?side2 A11.out).mono ?_); (case side1 => exact Cz ((Kd.C_below HR1.out HB.out))); (case side2 => exact HC1.out); rintro e w20 ⟨v248, rfl, ho0, hb⟩; refine ⟨_, rfl, ?_⟩; have HO249 := Aside0.mk (Kd.R_lower (Kd.R_new' (Kd.R_new' (Kd.R_new' (Kd.R_new' ho0 (Kd.R_lt (Rz HO236))) (Kd.R_lt (Rz HO239))) (Kd.R_lt (Rz HO243))) (Kd.R_lt (Rz HO246))) (below_size (Lz HB))); replace HO236 := Aside0.mk (Kd.R_elder' (Rz HO236) (Kd.R_base ho0) hb); replace HO239 := Aside0.mk (Kd.R_elder' (Rz HO239) (Kd.R_base ho0) hb); replace HO243 := Aside0.mk (Kd.R_elder' (Rz HO243) (Kd.R_base ho0) hb); replace HO246 := Aside0.mk (Kd.R_elder' (Rz HO246) (Kd.R_base ho0) hb); replace HB := Aside0.mk (below_step (Lz HB) hb); (try clear hb); (try clear ho0); obtain ⟨Ao21, co21, eo21⟩ := Kd.R_slice HO246.out; subst eo21; obtain ⟨Ao22, co22, eo22⟩ := Kd.R_slice HO249.out; subst eo22) | ((with_reducible refine gate_callee (f := 32) rfl ?_); refine goesM_ (some 37) rfl rfl Try.func32 (by kernel_rfl) rfl #[.slice Ao21 t244.length co21, .slice Ao22 t247.length co22] rfl ?_; (with_reducible refine (impl_AddDivisors.calls kj4 _ _ t244 _ _ t247 t250 t251 _ ?side1 ?side2 ?side3 ?side4 A12.out).mono ?_); (case side1 => exact Cz ((Kd.R_reads' HO246.out).2.2)); (case side2 => exact (Kd.R_reads' HO246.out).2.1); (case side3 => exact Cz ((Kd.R_reads' HO249.out).2.2)); (case side4 => exact (Kd.R_reads' HO249.out).2.1); rintro e w23 ⟨v252, rfl, ho0, hb⟩; refine ⟨_, rfl, ?_⟩; have HO253 := Aside0.mk (Kd.R_lower (Kd.R_new' (Kd.R_new' (Kd.R_new' (Kd.R_new' (Kd.R_new' ho0 (Kd.R_lt (Rz HO236))) (Kd.R_lt (Rz HO239))) (Kd.R_lt (Rz HO243))) (Kd.R_lt (Rz HO246))) (Kd.R_lt (Rz HO249))) (below_size (Lz HB))); replace HO236 := Aside0.mk (Kd.R_elder' (Rz HO236) (Kd.R_base ho0) hb); replace HO239 := Aside0.mk (Kd.R_elder' (Rz HO239) (Kd.R_base ho0) hb); replace HO243 := Aside0.mk (Kd.R_elder' (Rz HO243) (Kd.R_base ho0) hb); replace HO246 := Aside0.mk (Kd.R_elder' (Rz HO246) (Kd.R_base ho0) hb); replace HO249 := Aside0.mk (Kd.R_elder' (Rz HO249) (Kd.R_base ho0) hb); replace HB := Aside0.mk (below_step (Lz HB) hb); (try clear hb); (try clear ho0)))
     (try simp only [Act.put, List.setIfInBounds_toArray, List.set_cons_zero, List.set_cons_succ])
     go_cut [48] (fun v48 wc => ∃ (kq : Nat) (x48_12 : Bool), v48 = .bool x48_12 ∧ Aside0 (laws_FnExactAddDivisors.j2 kq l0 l1 t240 t241 t244 t247 t250 t251 x48_12 = some r) ∧ Aside0 (kq ≤ kj4) ∧ Aside0 (Kd.R (Kd.int .i64) 3 wc w.heap.size (fun k_ => some k_ ≠ ((.slice Ao21 t244.length co21) : Value).ownBlock ∧ some k_ ≠ ((.slice Ao22 t247.length co22) : Value).ownBlock ∧ some k_ ≠ (v252 : Value).ownBlock) v242 t240) ∧ Aside0 (Kd.R (Kd.int .i64) 3 wc w.heap.size (fun k_ => some k_ ≠ (v242 : Value).ownBlock ∧ some k_ ≠ ((.slice Ao22 t247.length co22) : Value).ownBlock ∧ some k_ ≠ (v252 : Value).ownBlock) (.slice Ao21 t244.length co21) t244) ∧ Aside0 (Kd.R (Kd.int .i64) 3 wc w.heap.size (fun k_ => some k_ ≠ (v242 : Value).ownBlock ∧ some k_ ≠ ((.slice Ao21 t244.length co21) : Value).ownBlock ∧ some k_ ≠ (v252 : Value).ownBlock) (.slice Ao22 t247.length co22) t247) ∧ Aside0 (Kd.R (Kd.int .i64) 3 wc w.heap.size (fun k_ => some k_ ≠ (v242 : Value).ownBlock ∧ some k_ ≠ ((.slice Ao21 t244.length co21) : Value).ownBlock ∧ some k_ ≠ ((.slice Ao22 t247.length co22) : Value).ownBlock) v252 t250) ∧ Aside0 (Below w.heap.size w wc))
     case first =>
      have H := HC13.out
      clear HC13
      replace H := Option.bind_eq_some_iff.mp H
      obtain ⟨t254, A240, H⟩ := H
      replace H : (if t254 = true then (laws_FnExactAddDivisors.j2 kj4 l0 l1 t240 t241 t244 t247 t250 t251 (t251 != t241)) else (laws_FnExactAddDivisors.j2 kj4 l0 l1 t240 t241 t244 t247 t250 t251 true)) = some r := H
      have A24 := Aside0.mk A240
      clear A240
      by_cases c25 : t254 = true
      ·subst c25
       have H1 : (laws_FnExactAddDivisors.j2 kj4 l0 l1 t240 t241 t244 t247 t250 t251 (t251 != t241)) = some r := by rw [if_pos rfl] at H; exact H
       clear H
       have H := H1
       clear H1
       have H' := Aside0.mk H
       clear H
       obtain ⟨Ao26, co26, eo26⟩ := Kd.R_slice HO253.out
       subst eo26
       obtain ⟨Ao27, co27, eo27⟩ := Kd.R_slice HO243.out
       subst eo27
       go_wp2_with (first | ((with_reducible refine gate_callee (f := 22) rfl ?_); refine goesM_ (some 42) rfl rfl Try.func22 (by kernel_rfl) rfl #[.slice Ao26 t250.length co26, .slice Ao27 t240.length co27] rfl ?_; (with_reducible refine (laws_eqIntS.calls kj4 _ _ t250 _ _ t240 true _ ?side1 ?side2 ?side3 ?side4 A24.out).mono ?_); (case side1 => exact Cz ((Kd.R_reads' HO253.out).2.2)); (case side2 => exact (Kd.R_reads' HO253.out).2.1); (case side3 => exact Cz ((Kd.R_reads' HO243.out).2.2)); (case side4 => exact (Kd.R_reads' HO243.out).2.1); rintro e w' ⟨rfl, ⟨nd, rfl⟩⟩; refine ⟨_, rfl, ?_⟩))
       go_meet
       case rel => exact ⟨_, ((t251 != t241)), (by first | rfl | (simp; done) | (simp [*]; done)), H', ⟨by have := HJ2.out; have := HJ4.out; first | omega | exact Nat.le_refl _⟩, ⟨by (with_reducible repeat (first | apply Kd.R_alloc | apply Kd.R_drewN | apply Kd.R_drew)); exact Kd.R_mono HO243.out (fun _ hk => ⟨hk.1.1.2, ⟨hk.1.2, hk.2⟩⟩)⟩, ⟨by (with_reducible repeat (first | apply Kd.R_alloc | apply Kd.R_drewN | apply Kd.R_drew)); exact Kd.R_mono HO246.out (fun _ hk => ⟨hk.1.1.2, ⟨hk.1.2, hk.2⟩⟩)⟩, ⟨by (with_reducible repeat (first | apply Kd.R_alloc | apply Kd.R_drewN | apply Kd.R_drew)); exact Kd.R_mono HO249.out (fun _ hk => ⟨hk.1.1.2, ⟨hk.1.2, hk.2⟩⟩)⟩, ⟨by (with_reducible repeat (first | apply Kd.R_alloc | apply Kd.R_drewN | apply Kd.R_drew)); exact Kd.R_mono HO253.out (fun _ hk => ⟨hk.1.1.2, ⟨hk.1.2, hk.2⟩⟩)⟩, ⟨by exact Lz HB⟩⟩
      replace c25 := Bool.eq_false_iff.mpr c25
      subst c25
      have H1 : (laws_FnExactAddDivisors.j2 kj4 l0 l1 t240 t241 t244 t247 t250 t251 true) = some r := by rw [if_neg (show ¬ (false = true) by decide)] at H; exact H
      clear H
      have H := H1
      clear H1
      have H' := Aside0.mk H
      clear H
      obtain ⟨Ao28, co28, eo28⟩ := Kd.R_slice HO253.out
      subst eo28
      obtain ⟨Ao29, co29, eo29⟩ := Kd.R_slice HO243.out
      subst eo29
      go_wp2_with (first | ((with_reducible refine gate_callee (f := 22) rfl ?_); refine goesM_ (some 42) rfl rfl Try.func22 (by kernel_rfl) rfl #[.slice Ao28 t250.length co28, .slice Ao29 t240.length co29] rfl ?_; (with_reducible refine (laws_eqIntS.calls kj4 _ _ t250 _ _ t240 false _ ?side1 ?side2 ?side3 ?side4 A24.out).mono ?_); (case side1 => exact Cz ((Kd.R_reads' HO253.out).2.2)); (case side2 => exact (Kd.R_reads' HO253.out).2.1); (case side3 => exact Cz ((Kd.R_reads' HO243.out).2.2)); (case side4 => exact (Kd.R_reads' HO243.out).2.1); rintro e w' ⟨rfl, ⟨nd, rfl⟩⟩; refine ⟨_, rfl, ?_⟩))
      go_meet
      case rel => exact ⟨_, (true), (by first | rfl | (simp; done) | (simp [*]; done)), H', ⟨by have := HJ2.out; have := HJ4.out; first | omega | exact Nat.le_refl _⟩, ⟨by (with_reducible repeat (first | apply Kd.R_alloc | apply Kd.R_drewN | apply Kd.R_drew)); exact Kd.R_mono HO243.out (fun _ hk => ⟨hk.1.1.2, ⟨hk.1.2, hk.2⟩⟩)⟩, ⟨by (with_reducible repeat (first | apply Kd.R_alloc | apply Kd.R_drewN | apply Kd.R_drew)); exact Kd.R_mono HO246.out (fun _ hk => ⟨hk.1.1.2, ⟨hk.1.2, hk.2⟩⟩)⟩, ⟨by (with_reducible repeat (first | apply Kd.R_alloc | apply Kd.R_drewN | apply Kd.R_drew)); exact Kd.R_mono HO249.out (fun _ hk => ⟨hk.1.1.2, ⟨hk.1.2, hk.2⟩⟩)⟩, ⟨by (with_reducible repeat (first | apply Kd.R_alloc | apply Kd.R_drewN | apply Kd.R_drew)); exact Kd.R_mono HO253.out (fun _ hk => ⟨hk.1.1.2, ⟨hk.1.2, hk.2⟩⟩)⟩, ⟨by exact Lz HB⟩⟩
     case rest =>
      clear HC13
      try clear c1
      try clear c4
      try clear c4b0
      try clear c4b1
      try clear c6
      try clear c6b0
      try clear c6b1
      try clear c25
      obtain ⟨kq, x48_12, rfl, HA, HJ12, HO_5, HO_7, HO_8, HO_9, HB⟩ := hcut
      cases kq with
      | zero => exact absurd HA.out (by simp [laws_FnExactAddDivisors.j2])
      | succ kj12 =>
       have H := HA.out
       clear HA
       simp only [laws_FnExactAddDivisors.j2] at H
       have HC30 := Aside0.mk H
       clear H
       go_upto_if 48 with (fail)
       go_cut [] (fun wc => ∃ (kq : Nat), Aside0 (laws_FnExactAddDivisors.j3 kq l0 l1 t240 t241 t244 t247 t250 t251 = some r) ∧ Aside0 (kq ≤ kj12) ∧ Aside0 (Kd.R (Kd.int .i64) 3 wc w.heap.size (fun k_ => some k_ ≠ ((.slice Ao21 t244.length co21) : Value).ownBlock ∧ some k_ ≠ ((.slice Ao22 t247.length co22) : Value).ownBlock ∧ some k_ ≠ (v252 : Value).ownBlock) v242 t240) ∧ Aside0 (Kd.R (Kd.int .i64) 3 wc w.heap.size (fun k_ => some k_ ≠ (v242 : Value).ownBlock ∧ some k_ ≠ ((.slice Ao22 t247.length co22) : Value).ownBlock ∧ some k_ ≠ (v252 : Value).ownBlock) (.slice Ao21 t244.length co21) t244) ∧ Aside0 (Kd.R (Kd.int .i64) 3 wc w.heap.size (fun k_ => some k_ ≠ (v242 : Value).ownBlock ∧ some k_ ≠ ((.slice Ao21 t244.length co21) : Value).ownBlock ∧ some k_ ≠ (v252 : Value).ownBlock) (.slice Ao22 t247.length co22) t247) ∧ Aside0 (Kd.R (Kd.int .i64) 3 wc w.heap.size (fun k_ => some k_ ≠ (v242 : Value).ownBlock ∧ some k_ ≠ ((.slice Ao21 t244.length co21) : Value).ownBlock ∧ some k_ ≠ ((.slice Ao22 t247.length co22) : Value).ownBlock) v252 t250) ∧ Aside0 (Below w.heap.size w wc))
       case first =>
        have H := HC30.out
        clear HC30
        by_cases c31 : x48_12 = true
        ·subst c31
         have H1 : (some false) = some r := by rw [if_pos rfl] at H; exact H
         clear H
         have H := H1
         clear H1
         obtain rfl := Option.some.inj H
         go_wp2
         go_ret
         exact ⟨by first | rfl | (simp [errW_none, errW_some] <;> rfl) | (simp [*, errW_none, errW_some] <;> rfl), by exact Lz HB⟩
        replace c31 := Bool.eq_false_iff.mpr c31
        subst c31
        have H1 : (laws_FnExactAddDivisors.j3 kj12 l0 l1 t240 t241 t244 t247 t250 t251) = some r := by rw [if_neg (show ¬ (false = true) by decide)] at H; exact H
        clear H
        have H := H1
        clear H1
        have H' := Aside0.mk H
        clear H
        go_wp2
        go_meet
        case rel => exact ⟨_, H', ⟨by have := HJ2.out; have := HJ4.out; have := HJ12.out; first | omega | exact Nat.le_refl _⟩, ⟨by exact Rz HO_5⟩, ⟨by exact Rz HO_7⟩, ⟨by exact Rz HO_8⟩, ⟨by exact Rz HO_9⟩, ⟨by exact Lz HB⟩⟩
       case rest =>
        clear HC30
        try clear c1
        try clear c4
        try clear c4b0
        try clear c4b1
        try clear c6
        try clear c6b0
        try clear c6b1
        try clear c25
        try clear c31
        obtain ⟨kq, HA, HJ29, HO_5, HO_7, HO_8, HO_9, HB⟩ := hcut
        cases kq with
        | zero => exact absurd HA.out (by simp [laws_FnExactAddDivisors.j3])
        | succ kj29 =>
         have H := HA.out
         clear HA
         simp only [laws_FnExactAddDivisors.j3] at H
         replace H := Option.bind_eq_some_iff.mp H
         obtain ⟨t255, A320, H⟩ := H
         replace H : ((laws_eqIntS.f kj29 t244 t255).bind fun t258 => (if t258 = true then (laws_FnExactAddDivisors.j4 kj29 l0 l1 t240 t241 t244 t247 t250 t251) else (some false))) = some r := H
         have A32 := Aside0.mk A320
         clear A320
         replace H := Option.bind_eq_some_iff.mp H
         obtain ⟨t258, A330, H⟩ := H
         replace H : (if t258 = true then (laws_FnExactAddDivisors.j4 kj29 l0 l1 t240 t241 t244 t247 t250 t251) else (some false)) = some r := H
         have A33 := Aside0.mk A330
         clear A330
         have HC34 := Aside0.mk H
         clear H
         go_upto_if 53 with (first | ((with_reducible refine gate_callee (f := 20) rfl ?_); refine goesM_ (some 51) rfl rfl Try.func20 (by kernel_rfl) rfl #[.slice A0 l0.length c0] rfl ?_; (with_reducible refine (laws_toIntS.calls kj29 _ _ l0 t255 _ ?side1 ?side2 A32.out).mono ?_); (case side1 => exact Cz ((Kd.C_below HR0.out HB.out))); (case side2 => exact HC0.out); rintro e w35 ⟨v256, rfl, ho0, hb⟩; refine ⟨_, rfl, ?_⟩; have HO257 := Aside0.mk (Kd.R_lower (Kd.R_new' (Kd.R_new' (Kd.R_new' (Kd.R_new' ho0 (Kd.R_lt (Rz HO_5))) (Kd.R_lt (Rz HO_7))) (Kd.R_lt (Rz HO_8))) (Kd.R_lt (Rz HO_9))) (below_size (Lz HB))); replace HO_5 := Aside0.mk (Kd.R_elder' (Rz HO_5) (Kd.R_base ho0) hb); replace HO_7 := Aside0.mk (Kd.R_elder' (Rz HO_7) (Kd.R_base ho0) hb); replace HO_8 := Aside0.mk (Kd.R_elder' (Rz HO_8) (Kd.R_base ho0) hb); replace HO_9 := Aside0.mk (Kd.R_elder' (Rz HO_9) (Kd.R_base ho0) hb); replace HB := Aside0.mk (below_step (Lz HB) hb); (try clear hb); (try clear ho0); obtain ⟨Ao36, co36, eo36⟩ := Kd.R_slice HO257.out; subst eo36) | ((with_reducible refine gate_callee (f := 22) rfl ?_); refine goesM_ (some 52) rfl rfl Try.func22 (by kernel_rfl) rfl #[.slice Ao21 t244.length co21, .slice Ao36 t255.length co36] rfl ?_; (with_reducible refine (laws_eqIntS.calls kj29 _ _ t244 _ _ t255 t258 _ ?side1 ?side2 ?side3 ?side4 A33.out).mono ?_); (case side1 => exact Cz ((Kd.R_reads' HO_7.out).2.2)); (case side2 => exact (Kd.R_reads' HO_7.out).2.1); (case side3 => exact Cz ((Kd.R_reads' HO257.out).2.2)); (case side4 => exact (Kd.R_reads' HO257.out).2.1); rintro e w' ⟨rfl, ⟨nd, rfl⟩⟩; refine ⟨_, rfl, ?_⟩))
         (try simp only [Act.put, List.setIfInBounds_toArray, List.set_cons_zero, List.set_cons_succ])
         go_cut [] (fun wc => ∃ (kq : Nat), Aside0 (laws_FnExactAddDivisors.j4 kq l0 l1 t240 t241 t244 t247 t250 t251 = some r) ∧ Aside0 (kq ≤ kj29) ∧ Aside0 (Kd.R (Kd.int .i64) 3 wc w.heap.size (fun k_ => some k_ ≠ ((.slice Ao21 t244.length co21) : Value).ownBlock ∧ some k_ ≠ ((.slice Ao22 t247.length co22) : Value).ownBlock ∧ some k_ ≠ (v252 : Value).ownBlock) v242 t240) ∧ Aside0 (Kd.R (Kd.int .i64) 3 wc w.heap.size (fun k_ => some k_ ≠ (v242 : Value).ownBlock ∧ some k_ ≠ ((.slice Ao22 t247.length co22) : Value).ownBlock ∧ some k_ ≠ (v252 : Value).ownBlock) (.slice Ao21 t244.length co21) t244) ∧ Aside0 (Kd.R (Kd.int .i64) 3 wc w.heap.size (fun k_ => some k_ ≠ (v242 : Value).ownBlock ∧ some k_ ≠ ((.slice Ao21 t244.length co21) : Value).ownBlock ∧ some k_ ≠ (v252 : Value).ownBlock) (.slice Ao22 t247.length co22) t247) ∧ Aside0 (Kd.R (Kd.int .i64) 3 wc w.heap.size (fun k_ => some k_ ≠ (v242 : Value).ownBlock ∧ some k_ ≠ ((.slice Ao21 t244.length co21) : Value).ownBlock ∧ some k_ ≠ ((.slice Ao22 t247.length co22) : Value).ownBlock) v252 t250) ∧ Aside0 (Below w.heap.size w wc))
         case first =>
          have H := HC34.out
          clear HC34
          by_cases c37 : t258 = true
          ·subst c37
           have H1 : (laws_FnExactAddDivisors.j4 kj29 l0 l1 t240 t241 t244 t247 t250 t251) = some r := by rw [if_pos rfl] at H; exact H
           clear H
           have H := H1
           clear H1
           have H' := Aside0.mk H
           clear H
           go_wp2
           go_meet
           case rel => exact ⟨_, H', ⟨by have := HJ2.out; have := HJ4.out; have := HJ12.out; have := HJ29.out; first | omega | exact Nat.le_refl _⟩, ⟨by (with_reducible repeat (first | apply Kd.R_alloc | apply Kd.R_drewN | apply Kd.R_drew)); exact Kd.R_mono HO_5.out (fun _ hk => ⟨hk.1.1, ⟨hk.1.2.1, hk.1.2.2⟩⟩)⟩, ⟨by (with_reducible repeat (first | apply Kd.R_alloc | apply Kd.R_drewN | apply Kd.R_drew)); exact Kd.R_mono HO_7.out (fun _ hk => ⟨hk.1.1, ⟨hk.1.2.1, hk.1.2.2⟩⟩)⟩, ⟨by (with_reducible repeat (first | apply Kd.R_alloc | apply Kd.R_drewN | apply Kd.R_drew)); exact Kd.R_mono HO_8.out (fun _ hk => ⟨hk.1.1, ⟨hk.1.2.1, hk.1.2.2⟩⟩)⟩, ⟨by (with_reducible repeat (first | apply Kd.R_alloc | apply Kd.R_drewN | apply Kd.R_drew)); exact Kd.R_mono HO_9.out (fun _ hk => ⟨hk.1.1, ⟨hk.1.2.1, hk.1.2.2⟩⟩)⟩, ⟨by exact Lz HB⟩⟩
          replace c37 := Bool.eq_false_iff.mpr c37
          subst c37
          have H1 : (some false) = some r := by rw [if_neg (show ¬ (false = true) by decide)] at H; exact H
          clear H
          have H := H1
          clear H1
          obtain rfl := Option.some.inj H
          go_wp2
          go_ret
          exact ⟨by first | rfl | (simp [errW_none, errW_some] <;> rfl) | (simp [*, errW_none, errW_some] <;> rfl), by exact Lz HB⟩
         case rest =>
          clear HC34
          try clear c1
          try clear c4
          try clear c4b0
          try clear c4b1
          try clear c6
          try clear c6b0
          try clear c6b1
          try clear c25
          try clear c31
          try clear c37
          obtain ⟨kq, HA, HJ33, HO_5, HO_7, HO_8, HO_9, HB⟩ := hcut
          cases kq with
          | zero => exact absurd HA.out (by simp [laws_FnExactAddDivisors.j4])
          | succ kj33 =>
           have H := HA.out
           clear HA
           simp only [laws_FnExactAddDivisors.j4] at H
           replace H := Option.bind_eq_some_iff.mp H
           obtain ⟨t259, A380, H⟩ := H
           replace H : ((laws_eqIntS.f kj33 t247 t259).bind fun t262 => (if t262 = true then (laws_FnExactAddDivisors.j5 kj33 l0 l1 t240 t241 t244 t247 t250 t251) else (some false))) = some r := H
           have A38 := Aside0.mk A380
           clear A380
           replace H := Option.bind_eq_some_iff.mp H
           obtain ⟨t262, A390, H⟩ := H
           replace H : (if t262 = true then (laws_FnExactAddDivisors.j5 kj33 l0 l1 t240 t241 t244 t247 t250 t251) else (some false)) = some r := H
           have A39 := Aside0.mk A390
           clear A390
           have HC40 := Aside0.mk H
           clear H
           go_upto_if 58 with (first | ((with_reducible refine gate_callee (f := 20) rfl ?_); refine goesM_ (some 56) rfl rfl Try.func20 (by kernel_rfl) rfl #[.slice A1 l1.length c1] rfl ?_; (with_reducible refine (laws_toIntS.calls kj33 _ _ l1 t259 _ ?side1 ?side2 A38.out).mono ?_); (case side1 => exact Cz ((Kd.C_below HR1.out HB.out))); (case side2 => exact HC1.out); rintro e w41 ⟨v260, rfl, ho0, hb⟩; refine ⟨_, rfl, ?_⟩; have HO261 := Aside0.mk (Kd.R_lower (Kd.R_new' (Kd.R_new' (Kd.R_new' (Kd.R_new' ho0 (Kd.R_lt (Rz HO_5))) (Kd.R_lt (Rz HO_7))) (Kd.R_lt (Rz HO_8))) (Kd.R_lt (Rz HO_9))) (below_size (Lz HB))); replace HO_5 := Aside0.mk (Kd.R_elder' (Rz HO_5) (Kd.R_base ho0) hb); replace HO_7 := Aside0.mk (Kd.R_elder' (Rz HO_7) (Kd.R_base ho0) hb); replace HO_8 := Aside0.mk (Kd.R_elder' (Rz HO_8) (Kd.R_base ho0) hb); replace HO_9 := Aside0.mk (Kd.R_elder' (Rz HO_9) (Kd.R_base ho0) hb); replace HB := Aside0.mk (below_step (Lz HB) hb); (try clear hb); (try clear ho0); obtain ⟨Ao42, co42, eo42⟩ := Kd.R_slice HO261.out; subst eo42) | ((with_reducible refine gate_callee (f := 22) rfl ?_); refine goesM_ (some 57) rfl rfl Try.func22 (by kernel_rfl) rfl #[.slice Ao22 t247.length co22, .slice Ao42 t259.length co42] rfl ?_; (with_reducible refine (laws_eqIntS.calls kj33 _ _ t247 _ _ t259 t262 _ ?side1 ?side2 ?side3 ?side4 A39.out).mono ?_); (case side1 => exact Cz ((Kd.R_reads' HO_8.out).2.2)); (case side2 => exact (Kd.R_reads' HO_8.out).2.1); (case side3 => exact Cz ((Kd.R_reads' HO261.out).2.2)); (case side4 => exact (Kd.R_reads' HO261.out).2.1); rintro e w' ⟨rfl, ⟨nd, rfl⟩⟩; refine ⟨_, rfl, ?_⟩))
           (try simp only [Act.put, List.setIfInBounds_toArray, List.set_cons_zero, List.set_cons_succ])
           go_cut [] (fun wc => ∃ (kq : Nat), Aside0 (laws_FnExactAddDivisors.j5 kq l0 l1 t240 t241 t244 t247 t250 t251 = some r) ∧ Aside0 (kq ≤ kj33) ∧ Aside0 (Kd.R (Kd.int .i64) 3 wc w.heap.size (fun k_ => some k_ ≠ ((.slice Ao21 t244.length co21) : Value).ownBlock ∧ some k_ ≠ ((.slice Ao22 t247.length co22) : Value).ownBlock ∧ some k_ ≠ (v252 : Value).ownBlock) v242 t240) ∧ Aside0 (Kd.R (Kd.int .i64) 3 wc w.heap.size (fun k_ => some k_ ≠ (v242 : Value).ownBlock ∧ some k_ ≠ ((.slice Ao22 t247.length co22) : Value).ownBlock ∧ some k_ ≠ (v252 : Value).ownBlock) (.slice Ao21 t244.length co21) t244) ∧ Aside0 (Kd.R (Kd.int .i64) 3 wc w.heap.size (fun k_ => some k_ ≠ (v242 : Value).ownBlock ∧ some k_ ≠ ((.slice Ao21 t244.length co21) : Value).ownBlock ∧ some k_ ≠ (v252 : Value).ownBlock) (.slice Ao22 t247.length co22) t247) ∧ Aside0 (Kd.R (Kd.int .i64) 3 wc w.heap.size (fun k_ => some k_ ≠ (v242 : Value).ownBlock ∧ some k_ ≠ ((.slice Ao21 t244.length co21) : Value).ownBlock ∧ some k_ ≠ ((.slice Ao22 t247.length co22) : Value).ownBlock) v252 t250) ∧ Aside0 (Below w.heap.size w wc))
           case first =>
            have H := HC40.out
            clear HC40
            by_cases c43 : t262 = true
            ·subst c43
             have H1 : (laws_FnExactAddDivisors.j5 kj33 l0 l1 t240 t241 t244 t247 t250 t251) = some r := by rw [if_pos rfl] at H; exact H
             clear H
             have H := H1
             clear H1
             have H' := Aside0.mk H
             clear H
             go_wp2
             go_meet
             case rel => exact ⟨_, H', ⟨by have := HJ2.out; have := HJ4.out; have := HJ12.out; have := HJ29.out; have := HJ33.out; first | omega | exact Nat.le_refl _⟩, ⟨by (with_reducible repeat (first | apply Kd.R_alloc | apply Kd.R_drewN | apply Kd.R_drew)); exact Kd.R_mono HO_5.out (fun _ hk => ⟨hk.1.1, ⟨hk.1.2.1, hk.1.2.2⟩⟩)⟩, ⟨by (with_reducible repeat (first | apply Kd.R_alloc | apply Kd.R_drewN | apply Kd.R_drew)); exact Kd.R_mono HO_7.out (fun _ hk => ⟨hk.1.1, ⟨hk.1.2.1, hk.1.2.2⟩⟩)⟩, ⟨by (with_reducible repeat (first | apply Kd.R_alloc | apply Kd.R_drewN | apply Kd.R_drew)); exact Kd.R_mono HO_8.out (fun _ hk => ⟨hk.1.1, ⟨hk.1.2.1, hk.1.2.2⟩⟩)⟩, ⟨by (with_reducible repeat (first | apply Kd.R_alloc | apply Kd.R_drewN | apply Kd.R_drew)); exact Kd.R_mono HO_9.out (fun _ hk => ⟨hk.1.1, ⟨hk.1.2.1, hk.1.2.2⟩⟩)⟩, ⟨by exact Lz HB⟩⟩
            replace c43 := Bool.eq_false_iff.mpr c43
            subst c43
            have H1 : (some false) = some r := by rw [if_neg (show ¬ (false = true) by decide)] at H; exact H
            clear H
            have H := H1
            clear H1
            obtain rfl := Option.some.inj H
            go_wp2
            go_ret
            exact ⟨by first | rfl | (simp [errW_none, errW_some] <;> rfl) | (simp [*, errW_none, errW_some] <;> rfl), by exact Lz HB⟩
           case rest =>
            clear HC40
            try clear c1
            try clear c4
            try clear c4b0
            try clear c4b1
            try clear c6
            try clear c6b0
            try clear c6b1
            try clear c25
            try clear c31
            try clear c37
            try clear c43
            obtain ⟨kq, HA, HJ39, HO_5, HO_7, HO_8, HO_9, HB⟩ := hcut
            cases kq with
            | zero => exact absurd HA.out (by simp [laws_FnExactAddDivisors.j5])
            | succ kj39 =>
             have H := HA.out
             clear HA
             simp only [laws_FnExactAddDivisors.j5] at H
             replace H := Option.bind_eq_some_iff.mp H
             obtain ⟨⟨t263, t264⟩, A440, H⟩ := H
             replace H : ((laws_markIntS.f kj39 t247 t263).bind fun bt265 => (if bt265.1 < 0 then (laws_FnExactAddDivisors.j6 kj39 l0 l1 t240 t241 t250 true) else ((laws_eqIntS.f kj39 t250 t240).bind fun t267 => (if t267 = true then (laws_FnExactAddDivisors.j6 kj39 l0 l1 t240 t241 t250 (t251 != t241)) else (laws_FnExactAddDivisors.j6 kj39 l0 l1 t240 t241 t250 true))))) = some r := H
             have A44 := Aside0.mk A440
             clear A440
             replace H := Option.bind_eq_some_iff.mp H
             obtain ⟨⟨t265, t266⟩, A450, H⟩ := H
             replace H : (if t265 < 0 then (laws_FnExactAddDivisors.j6 kj39 l0 l1 t240 t241 t250 true) else ((laws_eqIntS.f kj39 t250 t240).bind fun t267 => (if t267 = true then (laws_FnExactAddDivisors.j6 kj39 l0 l1 t240 t241 t250 (t251 != t241)) else (laws_FnExactAddDivisors.j6 kj39 l0 l1 t240 t241 t250 true)))) = some r := H
             have A45 := Aside0.mk A450
             clear A450
             have HC46 := Aside0.mk H
             clear H
             go_upto_region 18 with (first | ((with_reducible refine gate_callee (f := 29) rfl ?_); refine goesM_ (some 61) rfl rfl Try.func29 (by kernel_rfl) rfl #[.slice Ao21 t244.length co21, .int .i64 1] rfl ?_; (with_reducible refine (laws_markIntS.calls kj39 (fun k_ => some k_ = (.slice Ao21 t244.length co21 : Value).ownBlock) (.slice Ao21 t244.length co21) t244 1 t263 t264 w _ ?side1 ?side2 A44.out).mono ?_); (case side1 => exact Lz HB); (case side2 => exact Kd.R_tight rfl HO_7.out); rintro e w47 ⟨rfl, hy0, hb, hkp⟩; refine ⟨_, rfl, ?_⟩; replace HO_5 := Aside0.mk (Kd.R_mono (ok' := fun k_ => some k_ ≠ (.slice Ao21 t244.length co21 : Value).ownBlock ∧ some k_ ≠ (.slice Ao22 t247.length co22 : Value).ownBlock ∧ some k_ ≠ (v252 : Value).ownBlock) (Kd.R_keptB (HO_5.out) hkp (fun k_ hk_ hs_ => (hk_.1) hs_)) (fun k_ hk_ => ⟨hk_.1.1, hk_.1.2.1, hk_.1.2.2⟩)); replace HO_7 := Aside0.mk (Kd.R_reok rfl hy0 (fun k_ e_ => HO_7.out.1 k_ e_)); replace HO_8 := Aside0.mk (Kd.R_mono (ok' := fun k_ => some k_ ≠ (v242 : Value).ownBlock ∧ some k_ ≠ (.slice Ao21 t244.length co21 : Value).ownBlock ∧ some k_ ≠ (v252 : Value).ownBlock) (Kd.R_keptB (HO_8.out) hkp (fun k_ hk_ hs_ => (hk_.2.1) hs_)) (fun k_ hk_ => ⟨hk_.1.1, hk_.1.2.1, hk_.1.2.2⟩)); replace HO_9 := Aside0.mk (Kd.R_mono (ok' := fun k_ => some k_ ≠ (v242 : Value).ownBlock ∧ some k_ ≠ (.slice Ao21 t244.length co21 : Value).ownBlock ∧ some k_ ≠ (.slice Ao22 t247.length co22 : Value).ownBlock) (Kd.R_keptB (HO_9.out) hkp (fun k_ hk_ hs_ => (hk_.2.1) hs_)) (fun k_ hk_ => ⟨hk_.1.1, hk_.1.2.1, hk_.1.2.2⟩)); replace HB := Aside0.mk (hb); (try clear hb); (try clear hkp); (try clear hy0)) | ((with_reducible refine gate_callee (f := 29) rfl ?_); refine goesM_ (some 64) rfl rfl Try.func29 (by kernel_rfl) rfl #[.slice Ao22 t247.length co22, .int .i64 t263] rfl ?_; (with_reducible refine (laws_markIntS.calls kj39 (fun k_ => some k_ = (.slice Ao22 t247.length co22 : Value).ownBlock) (.slice Ao22 t247.length co22) t247 t263 t265 t266 w _ ?side1 ?side2 A45.out).mono ?_); (case side1 => exact Lz HB); (case side2 => exact Kd.R_tight rfl HO_8.out); rintro e w48 ⟨rfl, hy0, hb, hkp⟩; refine ⟨_, rfl, ?_⟩; replace HO_5 := Aside0.mk (Kd.R_mono (ok' := fun k_ => some k_ ≠ (.slice Ao21 t244.length co21 : Value).ownBlock ∧ some k_ ≠ (.slice Ao22 t247.length co22 : Value).ownBlock ∧ some k_ ≠ (v252 : Value).ownBlock) (Kd.R_keptB (HO_5.out) hkp (fun k_ hk_ hs_ => (hk_.2.1) hs_)) (fun k_ hk_ => ⟨hk_.1.1, hk_.1.2.1, hk_.1.2.2⟩)); replace HO_7 := Aside0.mk (Kd.R_mono (ok' := fun k_ => some k_ ≠ (v242 : Value).ownBlock ∧ some k_ ≠ (.slice Ao22 t247.length co22 : Value).ownBlock ∧ some k_ ≠ (v252 : Value).ownBlock) (Kd.R_keptB (HO_7.out) hkp (fun k_ hk_ hs_ => (hk_.2.1) hs_)) (fun k_ hk_ => ⟨hk_.1.1, hk_.1.2.1, hk_.1.2.2⟩)); replace HO_8 := Aside0.mk (Kd.R_reok rfl hy0 (fun k_ e_ => HO_8.out.1 k_ e_)); replace HO_9 := Aside0.mk (Kd.R_mono (ok' := fun k_ => some k_ ≠ (v242 : Value).ownBlock ∧ some k_ ≠ (.slice Ao21 t244.length co21 : Value).ownBlock ∧ some k_ ≠ (.slice Ao22 t247.length co22 : Value).ownBlock) (Kd.R_keptB (HO_9.out) hkp (fun k_ hk_ hs_ => (hk_.2.2) hs_)) (fun k_ hk_ => ⟨hk_.1.1, hk_.1.2.1, hk_.1.2.2⟩)); replace HB := Aside0.mk (hb); (try clear hb); (try clear hkp); (try clear hy0)))
             (try simp only [Act.put, List.setIfInBounds_toArray, List.set_cons_zero, List.set_cons_succ])
             go_cut [77] (fun v77 wc => ∃ (kq : Nat) (x77_45 : Bool), v77 = .bool x77_45 ∧ Aside0 (laws_FnExactAddDivisors.j6 kq l0 l1 t240 t241 t250 x77_45 = some r) ∧ Aside0 (kq ≤ kj39) ∧ Aside0 (Kd.R (Kd.int .i64) 3 wc w.heap.size (fun k_ => some k_ ≠ (v252 : Value).ownBlock) v242 t240) ∧ Aside0 (Kd.R (Kd.int .i64) 3 wc w.heap.size (fun k_ => some k_ ≠ (v242 : Value).ownBlock) v252 t250) ∧ Aside0 (Below w.heap.size w wc))
             case first =>
              have H := HC46.out
              clear HC46
              by_cases c49 : t265 < 0
              ·rw [if_pos c49] at H
               have c49b0 : decide (t265 < 0) = true := decide_eq_true c49
               clear c49
               (first | rw [c49b0] | (simp only [i64_w, i32_w]; rw [c49b0]) | skip)
               have H' := Aside0.mk H
               clear H
               go_wp2
               go_meet
               case rel => exact ⟨_, (true), (by first | rfl | (simp; done) | (simp [*]; done)), H', ⟨by have := HJ2.out; have := HJ4.out; have := HJ12.out; have := HJ29.out; have := HJ33.out; have := HJ39.out; first | omega | exact Nat.le_refl _⟩, ⟨by (with_reducible repeat (first | apply Kd.R_alloc | apply Kd.R_drewN | apply Kd.R_drew)); exact Kd.R_mono HO_5.out (fun _ hk => hk.2.2)⟩, ⟨by (with_reducible repeat (first | apply Kd.R_alloc | apply Kd.R_drewN | apply Kd.R_drew)); exact Kd.R_mono HO_9.out (fun _ hk => hk.1)⟩, ⟨by exact Lz HB⟩⟩
              rw [if_neg c49] at H
              have c49b0 : decide (t265 < 0) = false := decide_eq_false c49
              clear c49
              (first | rw [c49b0] | (simp only [i64_w, i32_w]; rw [c49b0]) | skip)
              replace H := Option.bind_eq_some_iff.mp H
              obtain ⟨t267, A500, H⟩ := H
              replace H : (if t267 = true then (laws_FnExactAddDivisors.j6 kj39 l0 l1 t240 t241 t250 (t251 != t241)) else (laws_FnExactAddDivisors.j6 kj39 l0 l1 t240 t241 t250 true)) = some r := H
              have A50 := Aside0.mk A500
              clear A500
              by_cases c51 : t267 = true
              ·subst c51
               have H1 : (laws_FnExactAddDivisors.j6 kj39 l0 l1 t240 t241 t250 (t251 != t241)) = some r := by rw [if_pos rfl] at H; exact H
               clear H
               have H := H1
               clear H1
               have H' := Aside0.mk H
               clear H
               obtain ⟨Ao52, co52, eo52⟩ := Kd.R_slice HO_9.out
               subst eo52
               obtain ⟨Ao53, co53, eo53⟩ := Kd.R_slice HO_5.out
               subst eo53
               go_wp2_with (first | (go_at_call 22; (with_reducible refine (laws_eqIntS.calls kj39 _ _ t250 _ _ t240 true _ ?side1 ?side2 ?side3 ?side4 A50.out).mono ?_); (case side1 => exact Cz ((Kd.R_reads' HO_9.out).2.2)); (case side2 => exact (Kd.R_reads' HO_9.out).2.1); (case side3 => exact Cz ((Kd.R_reads' HO_5.out).2.2)); (case side4 => exact (Kd.R_reads' HO_5.out).2.1); rintro e w' ⟨rfl, ⟨nd, rfl⟩⟩))
               go_meet
               case rel => exact ⟨_, ((t251 != t241)), (by first | rfl | (simp; done) | (simp [*]; done)), H', ⟨by have := HJ2.out; have := HJ4.out; have := HJ12.out; have := HJ29.out; have := HJ33.out; have := HJ39.out; first | omega | exact Nat.le_refl _⟩, ⟨by (with_reducible repeat (first | apply Kd.R_alloc | apply Kd.R_drewN | apply Kd.R_drew)); exact Kd.R_mono HO_5.out (fun _ hk => hk.2.2)⟩, ⟨by (with_reducible repeat (first | apply Kd.R_alloc | apply Kd.R_drewN | apply Kd.R_drew)); exact Kd.R_mono HO_9.out (fun _ hk => hk.1)⟩, ⟨by exact Lz HB⟩⟩
              replace c51 := Bool.eq_false_iff.mpr c51
              subst c51
              have H1 : (laws_FnExactAddDivisors.j6 kj39 l0 l1 t240 t241 t250 true) = some r := by rw [if_neg (show ¬ (false = true) by decide)] at H; exact H
              clear H
              have H := H1
              clear H1
              have H' := Aside0.mk H
              clear H
              obtain ⟨Ao54, co54, eo54⟩ := Kd.R_slice HO_9.out
              subst eo54
              obtain ⟨Ao55, co55, eo55⟩ := Kd.R_slice HO_5.out
              subst eo55
              go_wp2_with (first | (go_at_call 22; (with_reducible refine (laws_eqIntS.calls kj39 _ _ t250 _ _ t240 false _ ?side1 ?side2 ?side3 ?side4 A50.out).mono ?_); (case side1 => exact Cz ((Kd.R_reads' HO_9.out).2.2)); (case side2 => exact (Kd.R_reads' HO_9.out).2.1); (case side3 => exact Cz ((Kd.R_reads' HO_5.out).2.2)); (case side4 => exact (Kd.R_reads' HO_5.out).2.1); rintro e w' ⟨rfl, ⟨nd, rfl⟩⟩))
              go_meet
              case rel => exact ⟨_, (true), (by first | rfl | (simp; done) | (simp [*]; done)), H', ⟨by have := HJ2.out; have := HJ4.out; have := HJ12.out; have := HJ29.out; have := HJ33.out; have := HJ39.out; first | omega | exact Nat.le_refl _⟩, ⟨by (with_reducible repeat (first | apply Kd.R_alloc | apply Kd.R_drewN | apply Kd.R_drew)); exact Kd.R_mono HO_5.out (fun _ hk => hk.2.2)⟩, ⟨by (with_reducible repeat (first | apply Kd.R_alloc | apply Kd.R_drewN | apply Kd.R_drew)); exact Kd.R_mono HO_9.out (fun _ hk => hk.1)⟩, ⟨by exact Lz HB⟩⟩
             case rest =>
              clear HC46
              try clear c1
              try clear c4
              try clear c4b0
              try clear c4b1
              try clear c6
              try clear c6b0
              try clear c6b1
              try clear c25
              try clear c31
              try clear c37
              try clear c43
              try clear c49
              try clear c49b0
              try clear c51
              obtain ⟨kq, x77_45, rfl, HA, HJ45, HO_5, HO_9, HB⟩ := hcut
              cases kq with
              | zero => exact absurd HA.out (by simp [laws_FnExactAddDivisors.j6])
              | succ kj45 =>
               have H := HA.out
               clear HA
               simp only [laws_FnExactAddDivisors.j6] at H
               have HC56 := Aside0.mk H
               clear H
               go_upto_if 77 with (fail)
               go_cut [] (fun wc => ∃ (kq : Nat), Aside0 (laws_FnExactAddDivisors.j7 kq l0 l1 t240 t241 t250 = some r) ∧ Aside0 (kq ≤ kj45) ∧ Aside0 (Kd.R (Kd.int .i64) 3 wc w.heap.size (fun k_ => some k_ ≠ (v252 : Value).ownBlock) v242 t240) ∧ Aside0 (Kd.R (Kd.int .i64) 3 wc w.heap.size (fun k_ => some k_ ≠ (v242 : Value).ownBlock) v252 t250) ∧ Aside0 (Below w.heap.size w wc))
               case first =>
                have H := HC56.out
                clear HC56
                by_cases c57 : x77_45 = true
                ·subst c57
                 have H1 : (some false) = some r := by rw [if_pos rfl] at H; exact H
                 clear H
                 have H := H1
                 clear H1
                 obtain rfl := Option.some.inj H
                 go_wp2
                 go_ret
                 exact ⟨by first | rfl | (simp [errW_none, errW_some] <;> rfl) | (simp [*, errW_none, errW_some] <;> rfl), by exact Lz HB⟩
                replace c57 := Bool.eq_false_iff.mpr c57
                subst c57
                have H1 : (laws_FnExactAddDivisors.j7 kj45 l0 l1 t240 t241 t250) = some r := by rw [if_neg (show ¬ (false = true) by decide)] at H; exact H
                clear H
                have H := H1
                clear H1
                have H' := Aside0.mk H
                clear H
                go_wp2
                go_meet
                case rel => exact ⟨_, H', ⟨by have := HJ2.out; have := HJ4.out; have := HJ12.out; have := HJ29.out; have := HJ33.out; have := HJ39.out; have := HJ45.out; first | omega | exact Nat.le_refl _⟩, ⟨by exact Rz HO_5⟩, ⟨by exact Rz HO_9⟩, ⟨by exact Lz HB⟩⟩
               case rest =>
                clear HC56
                try clear c1
                try clear c4
                try clear c4b0
                try clear c4b1
                try clear c6
                try clear c6b0
                try clear c6b1
                try clear c25
                try clear c31
                try clear c37
                try clear c43
                try clear c49
                try clear c49b0
                try clear c51
                try clear c57
                obtain ⟨kq, HA, HJ55, HO_5, HO_9, HB⟩ := hcut
                cases kq with
                | zero => exact absurd HA.out (by simp [laws_FnExactAddDivisors.j7])
                | succ kj55 =>
                 have H := HA.out
                 clear HA
                 simp only [laws_FnExactAddDivisors.j7] at H
                 replace H := Option.bind_eq_some_iff.mp H
                 obtain ⟨⟨t268, t269⟩, A580, H⟩ := H
                 replace H : ((laws_heldIntS.f kj55 t269 1).bind fun t270 => (if t270 < 0 then (some false) else (laws_FnExactAddDivisors.j8 kj55 l0 l1 t240 t241 t269 t268 t270))) = some r := H
                 have A58 := Aside0.mk A580
                 clear A580
                 replace H := Option.bind_eq_some_iff.mp H
                 obtain ⟨t270, A590, H⟩ := H
                 replace H : (if t270 < 0 then (some false) else (laws_FnExactAddDivisors.j8 kj55 l0 l1 t240 t241 t269 t268 t270)) = some r := H
                 have A59 := Aside0.mk A590
                 clear A590
                 have HC60 := Aside0.mk H
                 clear H
                 obtain ⟨Ao61, co61, eo61⟩ := Kd.R_slice HO_9.out
                 subst eo61
                 go_upto_if 85 with (first | ((with_reducible refine gate_callee (f := 29) rfl ?_); refine goesM_ (some 80) rfl rfl Try.func29 (by kernel_rfl) rfl #[.slice Ao61 t250.length co61, .int .i64 1] rfl ?_; (with_reducible refine (laws_markIntS.calls kj55 (fun k_ => some k_ = (.slice Ao61 t250.length co61 : Value).ownBlock) (.slice Ao61 t250.length co61) t250 1 t268 t269 w _ ?side1 ?side2 A58.out).mono ?_); (case side1 => exact Lz HB); (case side2 => exact Kd.R_tight rfl HO_9.out); rintro e w62 ⟨rfl, hy0, hb, hkp⟩; refine ⟨_, rfl, ?_⟩; replace HO_5 := Aside0.mk (Kd.R_mono (ok' := fun k_ => some k_ ≠ (.slice Ao61 t250.length co61 : Value).ownBlock) (Kd.R_keptB (HO_5.out) hkp (fun k_ hk_ hs_ => (hk_) hs_)) (fun k_ hk_ => hk_.1)); replace HO_9 := Aside0.mk (Kd.R_reok rfl hy0 (fun k_ e_ => HO_9.out.1 k_ e_)); replace HB := Aside0.mk (hb); (try clear hb); (try clear hkp); (try clear hy0)) | ((with_reducible refine gate_callee (f := 30) rfl ?_); refine goesL_ (some 83) rfl rfl Try.func30 (by kernel_rfl) rfl #[.slice Ao61 t269.length co61, .int .i64 1] rfl (by (try simp only [List.map_toArray, List.map_cons, List.map_nil]); first | done | (rw [show t269.length = t250.length from (Kd.R_reads' HO_9.out).1.symm] <;> rfl) | rfl | (simp only [List.length_drop, List.length_take]; rfl)) ?_; (with_reducible refine (laws_heldIntS.calls kj55 _ _ t269 1 t270 _ ?side1 ?side2 A59.out).mono ?_); (case side1 => exact Cz ((Kd.R_reads' HO_9.out).2.2)); (case side2 => rw [show t269.length = t250.length from (Kd.R_reads' HO_9.out).1.symm]; exact (Kd.R_reads' HO_9.out).2.1); rintro e w' ⟨rfl, ⟨nd, rfl⟩⟩; refine ⟨_, rfl, ?_⟩))
                 (try simp only [Act.put, List.setIfInBounds_toArray, List.set_cons_zero, List.set_cons_succ])
                 go_cut [] (fun wc => ∃ (kq : Nat), Aside0 (laws_FnExactAddDivisors.j8 kq l0 l1 t240 t241 t269 t268 t270 = some r) ∧ Aside0 (kq ≤ kj55) ∧ Aside0 (Kd.R (Kd.int .i64) 3 wc w.heap.size (fun k_ => some k_ ≠ ((.slice Ao61 t250.length co61) : Value).ownBlock) v242 t240) ∧ Aside0 (Kd.R (Kd.int .i64) 3 wc w.heap.size (fun k_ => some k_ ≠ (v242 : Value).ownBlock) (.slice Ao61 t250.length co61) t269) ∧ Aside0 (Below w.heap.size w wc))
                 case first =>
                  have H := HC60.out
                  clear HC60
                  by_cases c63 : t270 < 0
                  ·rw [if_pos c63] at H
                   have c63b0 : decide (t270 < 0) = true := decide_eq_true c63
                   clear c63
                   (first | rw [c63b0] | (simp only [i64_w, i32_w]; rw [c63b0]) | skip)
                   obtain rfl := Option.some.inj H
                   go_wp2
                   go_ret
                   exact ⟨by first | rfl | (simp [errW_none, errW_some] <;> rfl) | (simp [*, errW_none, errW_some] <;> rfl), by exact Lz HB⟩
                  rw [if_neg c63] at H
                  have c63b0 : decide (t270 < 0) = false := decide_eq_false c63
                  clear c63
                  (first | rw [c63b0] | (simp only [i64_w, i32_w]; rw [c63b0]) | skip)
                  have H' := Aside0.mk H
                  clear H
                  go_wp2
                  go_meet
                  case rel => exact ⟨_, H', ⟨by have := HJ2.out; have := HJ4.out; have := HJ12.out; have := HJ29.out; have := HJ33.out; have := HJ39.out; have := HJ45.out; have := HJ55.out; first | omega | exact Nat.le_refl _⟩, ⟨by exact Rz HO_5⟩, ⟨by exact Rz HO_9⟩, ⟨by exact Lz HB⟩⟩
                 case rest =>
                  clear HC60
                  try clear c1
                  try clear c4
                  try clear c4b0
                  try clear c4b1
                  try clear c6
                  try clear c6b0
                  try clear c6b1
                  try clear c25
                  try clear c31
                  try clear c37
                  try clear c43
                  try clear c49
                  try clear c49b0
                  try clear c51
                  try clear c57
                  try clear c63
                  try clear c63b0
                  obtain ⟨kq, HA, HJ59, HO_5, HO_9, HB⟩ := hcut
                  have hl9_59 := (Kd.R_reads' HO_9.out).1
                  rw [hl9_59] at HO_9
                  (try simp only [hl9_59])
                  (try simp only [hl9_59] at HO_5)
                  cases kq with
                  | zero => exact absurd HA.out (by simp [laws_FnExactAddDivisors.j8])
                  | succ kj59 =>
                   have H := HA.out
                   clear HA
                   simp only [laws_FnExactAddDivisors.j8] at H
                   have HC64 := Aside0.mk H
                   clear H
                   go_upto_if 88 with (fail)
                   go_cut [] (fun wc => ∃ (kq : Nat), Aside0 (laws_FnExactAddDivisors.j9 kq l0 l1 t240 t241 t269 t268 = some r) ∧ Aside0 (kq ≤ kj59) ∧ Aside0 (Kd.R (Kd.int .i64) 3 wc w.heap.size (fun k_ => some k_ ≠ ((.slice Ao61 t269.length co61) : Value).ownBlock) v242 t240) ∧ Aside0 (Kd.R (Kd.int .i64) 3 wc w.heap.size (fun k_ => some k_ ≠ (v242 : Value).ownBlock) (.slice Ao61 t269.length co61) t269) ∧ Aside0 (Below w.heap.size w wc))
                   case first =>
                    have H := HC64.out
                    clear HC64
                    by_cases c65 : t270 = t268
                    ·rw [if_pos c65] at H
                     have c65b0 : (t270 == t268) = true := beq_iff_eq.mpr c65
                     have c65b1 : (t270 != t268) = false := bne_eq_false_iff_eq.mpr c65
                     clear c65
                     (first | rw [c65b0] | (simp only [i64_w, i32_w]; rw [c65b0]) | skip)
                     have H' := Aside0.mk H
                     clear H
                     go_wp2
                     go_meet
                     case rel => exact ⟨_, H', ⟨by have := HJ2.out; have := HJ4.out; have := HJ12.out; have := HJ29.out; have := HJ33.out; have := HJ39.out; have := HJ45.out; have := HJ55.out; have := HJ59.out; first | omega | exact Nat.le_refl _⟩, ⟨by (try simp only [hl9_59]); exact Rz HO_5⟩, ⟨by (try simp only [hl9_59]); exact Rz HO_9⟩, ⟨by exact Lz HB⟩⟩
                    rw [if_neg c65] at H
                    have c65b0 : (t270 == t268) = false := beq_eq_false_iff_ne.mpr c65
                    have c65b1 : (t270 != t268) = true := bne_iff_ne.mpr c65
                    (first | rw [c65b0] | (simp only [i64_w, i32_w]; rw [c65b0]) | skip)
                    obtain rfl := Option.some.inj H
                    go_wp2
                    go_ret
                    exact ⟨by first | rfl | (simp [errW_none, errW_some] <;> rfl) | (simp [*, errW_none, errW_some] <;> rfl), by exact Lz HB⟩
                   case rest =>
                    clear HC64
                    try clear c1
                    try clear c4
                    try clear c4b0
                    try clear c4b1
                    try clear c6
                    try clear c6b0
                    try clear c6b1
                    try clear c25
                    try clear c31
                    try clear c37
                    try clear c43
                    try clear c49
                    try clear c49b0
                    try clear c51
                    try clear c57
                    try clear c63
                    try clear c63b0
                    try clear c65
                    try clear c65b0
                    try clear c65b1
                    obtain ⟨kq, HA, HJ63, HO_5, HO_9, HB⟩ := hcut
                    cases kq with
                    | zero => exact absurd HA.out (by simp [laws_FnExactAddDivisors.j9])
                    | succ kj63 =>
                     have H := HA.out
                     clear HA
                     simp only [laws_FnExactAddDivisors.j9] at H
                     replace H := Option.bind_eq_some_iff.mp H
                     obtain ⟨t271, A660, H⟩ := H
                     replace H : ((laws_toIntS.f kj63 l1).bind fun t274 => ((impl_AddDivisors.f kj63 t271 t274).bind fun bt277 => ((laws_eqIntS.f kj63 bt277.1 t240).bind fun t281 => (if t281 = true then (laws_FnExactAddDivisors.j10 kj63 t269 t268 (bt277.2 != t241)) else (laws_FnExactAddDivisors.j10 kj63 t269 t268 true))))) = some r := H
                     have A66 := Aside0.mk A660
                     clear A660
                     replace H := Option.bind_eq_some_iff.mp H
                     obtain ⟨t274, A670, H⟩ := H
                     replace H : ((impl_AddDivisors.f kj63 t271 t274).bind fun bt277 => ((laws_eqIntS.f kj63 bt277.1 t240).bind fun t281 => (if t281 = true then (laws_FnExactAddDivisors.j10 kj63 t269 t268 (bt277.2 != t241)) else (laws_FnExactAddDivisors.j10 kj63 t269 t268 true)))) = some r := H
                     have A67 := Aside0.mk A670
                     clear A670
                     replace H := Option.bind_eq_some_iff.mp H
                     obtain ⟨⟨t277, t278⟩, A680, H⟩ := H
                     replace H : ((laws_eqIntS.f kj63 t277 t240).bind fun t281 => (if t281 = true then (laws_FnExactAddDivisors.j10 kj63 t269 t268 (t278 != t241)) else (laws_FnExactAddDivisors.j10 kj63 t269 t268 true))) = some r := H
                     have A68 := Aside0.mk A680
                     clear A680
                     have HC69 := Aside0.mk H
                     clear H
                     go_upto_region 29 with (first | ((with_reducible refine gate_callee (f := 20) rfl ?_); refine goesM_ (some 91) rfl rfl Try.func20 (by kernel_rfl) rfl #[.slice A0 l0.length c0] rfl ?_; (with_reducible refine (laws_toIntS.calls kj63 _ _ l0 t271 _ ?side1 ?side2 A66.out).mono ?_); (case side1 => exact Cz ((Kd.C_below HR0.out HB.out))); (case side2 => exact HC0.out); rintro e w70 ⟨v272, rfl, ho0, hb⟩; refine ⟨_, rfl, ?_⟩; have HO273 := Aside0.mk (Kd.R_lower (Kd.R_new' (Kd.R_new' ho0 (Kd.R_lt (Rz HO_5))) (Kd.R_lt (Rz HO_9))) (below_size (Lz HB))); replace HO_5 := Aside0.mk (Kd.R_elder' (Rz HO_5) (Kd.R_base ho0) hb); replace HO_9 := Aside0.mk (Kd.R_elder' (Rz HO_9) (Kd.R_base ho0) hb); replace HB := Aside0.mk (below_step (Lz HB) hb); (try clear hb); (try clear ho0)) | ((with_reducible refine gate_callee (f := 20) rfl ?_); refine goesM_ (some 93) rfl rfl Try.func20 (by kernel_rfl) rfl #[.slice A1 l1.length c1] rfl ?_; (with_reducible refine (laws_toIntS.calls kj63 _ _ l1 t274 _ ?side1 ?side2 A67.out).mono ?_); (case side1 => exact Cz ((Kd.C_below HR1.out HB.out))); (case side2 => exact HC1.out); rintro e w71 ⟨v275, rfl, ho0, hb⟩; refine ⟨_, rfl, ?_⟩; have HO276 := Aside0.mk (Kd.R_lower (Kd.R_new' (Kd.R_new' (Kd.R_new' ho0 (Kd.R_lt (Rz HO_5))) (Kd.R_lt (Rz HO_9))) (Kd.R_lt (Rz HO273))) (below_size (Lz HB))); replace HO_5 := Aside0.mk (Kd.R_elder' (Rz HO_5) (Kd.R_base ho0) hb); replace HO_9 := Aside0.mk (Kd.R_elder' (Rz HO_9) (Kd.R_base ho0) hb); replace HO273 := Aside0.mk (Kd.R_elder' (Rz HO273) (Kd.R_base ho0) hb); replace HB := Aside0.mk (below_step (Lz HB) hb); (try clear hb); (try clear ho0); obtain ⟨Ao72, co72, eo72⟩ := Kd.R_slice HO273.out; subst eo72; obtain ⟨Ao73, co73, eo73⟩ := Kd.R_slice HO276.out; subst eo73) | ((with_reducible refine gate_callee (f := 32) rfl ?_); refine goesM_ (some 94) rfl rfl Try.func32 (by kernel_rfl) rfl #[.slice Ao72 t271.length co72, .slice Ao73 t274.length co73] rfl ?_; (with_reducible refine (impl_AddDivisors.calls kj63 _ _ t271 _ _ t274 t277 t278 _ ?side1 ?side2 ?side3 ?side4 A68.out).mono ?_); (case side1 => exact Cz ((Kd.R_reads' HO273.out).2.2)); (case side2 => exact (Kd.R_reads' HO273.out).2.1); (case side3 => exact Cz ((Kd.R_reads' HO276.out).2.2)); (case side4 => exact (Kd.R_reads' HO276.out).2.1); rintro e w74 ⟨v279, rfl, ho0, hb⟩; refine ⟨_, rfl, ?_⟩; have HO280 := Aside0.mk (Kd.R_lower (Kd.R_new' (Kd.R_new' (Kd.R_new' (Kd.R_new' ho0 (Kd.R_lt (Rz HO_5))) (Kd.R_lt (Rz HO_9))) (Kd.R_lt (Rz HO273))) (Kd.R_lt (Rz HO276))) (below_size (Lz HB))); replace HO_5 := Aside0.mk (Kd.R_elder' (Rz HO_5) (Kd.R_base ho0) hb); replace HO_9 := Aside0.mk (Kd.R_elder' (Rz HO_9) (Kd.R_base ho0) hb); replace HO273 := Aside0.mk (Kd.R_elder' (Rz HO273) (Kd.R_base ho0) hb); replace HO276 := Aside0.mk (Kd.R_elder' (Rz HO276) (Kd.R_base ho0) hb); replace HB := Aside0.mk (below_step (Lz HB) hb); (try clear hb); (try clear ho0)))
                     (try simp only [Act.put, List.setIfInBounds_toArray, List.set_cons_zero, List.set_cons_succ])
                     go_cut [105] (fun v105 wc => ∃ (kq : Nat) (x105_68 : Bool), v105 = .bool x105_68 ∧ Aside0 (laws_FnExactAddDivisors.j10 kq t269 t268 x105_68 = some r) ∧ Aside0 (kq ≤ kj63) ∧ Aside0 (Kd.R (Kd.int .i64) 3 wc w.heap.size (fun _ => True) (.slice Ao61 t269.length co61) t269) ∧ Aside0 (Below w.heap.size w wc))
                     case first =>
                      have H := HC69.out
                      clear HC69
                      replace H := Option.bind_eq_some_iff.mp H
                      obtain ⟨t281, A750, H⟩ := H
                      replace H : (if t281 = true then (laws_FnExactAddDivisors.j10 kj63 t269 t268 (t278 != t241)) else (laws_FnExactAddDivisors.j10 kj63 t269 t268 true)) = some r := H
                      have A75 := Aside0.mk A750
                      clear A750
                      by_cases c76 : t281 = true
                      ·subst c76
                       have H1 : (laws_FnExactAddDivisors.j10 kj63 t269 t268 (t278 != t241)) = some r := by rw [if_pos rfl] at H; exact H
                       clear H
                       have H := H1
                       clear H1
                       have H' := Aside0.mk H
                       clear H
                       obtain ⟨Ao77, co77, eo77⟩ := Kd.R_slice HO280.out
                       subst eo77
                       obtain ⟨Ao78, co78, eo78⟩ := Kd.R_slice HO_5.out
                       subst eo78
                       go_wp2_with (first | ((with_reducible refine gate_callee (f := 22) rfl ?_); refine goesM_ (some 99) rfl rfl Try.func22 (by kernel_rfl) rfl #[.slice Ao77 t277.length co77, .slice Ao78 t240.length co78] rfl ?_; (with_reducible refine (laws_eqIntS.calls kj63 _ _ t277 _ _ t240 true _ ?side1 ?side2 ?side3 ?side4 A75.out).mono ?_); (case side1 => exact Cz ((Kd.R_reads' HO280.out).2.2)); (case side2 => exact (Kd.R_reads' HO280.out).2.1); (case side3 => exact Cz ((Kd.R_reads' HO_5.out).2.2)); (case side4 => exact (Kd.R_reads' HO_5.out).2.1); rintro e w' ⟨rfl, ⟨nd, rfl⟩⟩; refine ⟨_, rfl, ?_⟩))
                       go_meet
                       case rel => exact ⟨_, ((t278 != t241)), (by first | rfl | (simp; done) | (simp [*]; done)), H', ⟨by have := HJ2.out; have := HJ4.out; have := HJ12.out; have := HJ29.out; have := HJ33.out; have := HJ39.out; have := HJ45.out; have := HJ55.out; have := HJ59.out; have := HJ63.out; first | omega | exact Nat.le_refl _⟩, ⟨by (try simp only [hl9_59]); (with_reducible repeat (first | apply Kd.R_alloc | apply Kd.R_drewN | apply Kd.R_drew)); exact Kd.R_mono HO_9.out (fun _ hk => trivial)⟩, ⟨by exact Lz HB⟩⟩
                      replace c76 := Bool.eq_false_iff.mpr c76
                      subst c76
                      have H1 : (laws_FnExactAddDivisors.j10 kj63 t269 t268 true) = some r := by rw [if_neg (show ¬ (false = true) by decide)] at H; exact H
                      clear H
                      have H := H1
                      clear H1
                      have H' := Aside0.mk H
                      clear H
                      obtain ⟨Ao79, co79, eo79⟩ := Kd.R_slice HO280.out
                      subst eo79
                      obtain ⟨Ao80, co80, eo80⟩ := Kd.R_slice HO_5.out
                      subst eo80
                      go_wp2_with (first | ((with_reducible refine gate_callee (f := 22) rfl ?_); refine goesM_ (some 99) rfl rfl Try.func22 (by kernel_rfl) rfl #[.slice Ao79 t277.length co79, .slice Ao80 t240.length co80] rfl ?_; (with_reducible refine (laws_eqIntS.calls kj63 _ _ t277 _ _ t240 false _ ?side1 ?side2 ?side3 ?side4 A75.out).mono ?_); (case side1 => exact Cz ((Kd.R_reads' HO280.out).2.2)); (case side2 => exact (Kd.R_reads' HO280.out).2.1); (case side3 => exact Cz ((Kd.R_reads' HO_5.out).2.2)); (case side4 => exact (Kd.R_reads' HO_5.out).2.1); rintro e w' ⟨rfl, ⟨nd, rfl⟩⟩; refine ⟨_, rfl, ?_⟩))
                      go_meet
                      case rel => exact ⟨_, (true), (by first | rfl | (simp; done) | (simp [*]; done)), H', ⟨by have := HJ2.out; have := HJ4.out; have := HJ12.out; have := HJ29.out; have := HJ33.out; have := HJ39.out; have := HJ45.out; have := HJ55.out; have := HJ59.out; have := HJ63.out; first | omega | exact Nat.le_refl _⟩, ⟨by (try simp only [hl9_59]); (with_reducible repeat (first | apply Kd.R_alloc | apply Kd.R_drewN | apply Kd.R_drew)); exact Kd.R_mono HO_9.out (fun _ hk => trivial)⟩, ⟨by exact Lz HB⟩⟩
                     case rest =>
                      clear HC69
                      try clear c1
                      try clear c4
                      try clear c4b0
                      try clear c4b1
                      try clear c6
                      try clear c6b0
                      try clear c6b1
                      try clear c25
                      try clear c31
                      try clear c37
                      try clear c43
                      try clear c49
                      try clear c49b0
                      try clear c51
                      try clear c57
                      try clear c63
                      try clear c63b0
                      try clear c65
                      try clear c65b0
                      try clear c65b1
                      try clear c76
                      obtain ⟨kq, x105_68, rfl, HA, HJ68, HO_9, HB⟩ := hcut
                      cases kq with
                      | zero => exact absurd HA.out (by simp [laws_FnExactAddDivisors.j10])
                      | succ kj68 =>
                       have H := HA.out
                       clear HA
                       simp only [laws_FnExactAddDivisors.j10] at H
                       have HC81 := Aside0.mk H
                       clear H
                       go_upto_if 105 with (fail)
                       go_cut [] (fun wc => ∃ (kq : Nat), Aside0 (laws_FnExactAddDivisors.j11 kq t269 t268 = some r) ∧ Aside0 (kq ≤ kj68) ∧ Aside0 (Kd.R (Kd.int .i64) 3 wc w.heap.size (fun _ => True) (.slice Ao61 t269.length co61) t269) ∧ Aside0 (Below w.heap.size w wc))
                       case first =>
                        have H := HC81.out
                        clear HC81
                        by_cases c82 : x105_68 = true
                        ·subst c82
                         have H1 : (some false) = some r := by rw [if_pos rfl] at H; exact H
                         clear H
                         have H := H1
                         clear H1
                         obtain rfl := Option.some.inj H
                         go_wp2
                         go_ret
                         exact ⟨by first | rfl | (simp [errW_none, errW_some] <;> rfl) | (simp [*, errW_none, errW_some] <;> rfl), by exact Lz HB⟩
                        replace c82 := Bool.eq_false_iff.mpr c82
                        subst c82
                        have H1 : (laws_FnExactAddDivisors.j11 kj68 t269 t268) = some r := by rw [if_neg (show ¬ (false = true) by decide)] at H; exact H
                        clear H
                        have H := H1
                        clear H1
                        have H' := Aside0.mk H
                        clear H
                        go_wp2
                        go_meet
                        case rel => exact ⟨_, H', ⟨by have := HJ2.out; have := HJ4.out; have := HJ12.out; have := HJ29.out; have := HJ33.out; have := HJ39.out; have := HJ45.out; have := HJ55.out; have := HJ59.out; have := HJ63.out; have := HJ68.out; first | omega | exact Nat.le_refl _⟩, ⟨by (try simp only [hl9_59]); exact Rz HO_9⟩, ⟨by exact Lz HB⟩⟩
                       case rest =>
                        clear HC81
                        try clear c1
                        try clear c4
                        try clear c4b0
                        try clear c4b1
                        try clear c6
                        try clear c6b0
                        try clear c6b1
                        try clear c25
                        try clear c31
                        try clear c37
                        try clear c43
                        try clear c49
                        try clear c49b0
                        try clear c51
                        try clear c57
                        try clear c63
                        try clear c63b0
                        try clear c65
                        try clear c65b0
                        try clear c65b1
                        try clear c76
                        try clear c82
                        obtain ⟨kq, HA, HJ80, HO_9, HB⟩ := hcut
                        cases kq with
                        | zero => exact absurd HA.out (by simp [laws_FnExactAddDivisors.j11])
                        | succ kj80 =>
                         have H := HA.out
                         clear HA
                         simp only [laws_FnExactAddDivisors.j11] at H
                         replace H := Option.bind_eq_some_iff.mp H
                         obtain ⟨t282, A830, H⟩ := H
                         replace H : (if t282 < 0 then (some false) else (laws_FnExactAddDivisors.j12 kj80 t268 t282)) = some r := H
                         have A83 := Aside0.mk A830
                         clear A830
                         have HC84 := Aside0.mk H
                         clear H
                         go_upto_if 110 with (first | ((with_reducible refine gate_callee (f := 30) rfl ?_); refine goesM_ (some 108) rfl rfl Try.func30 (by kernel_rfl) rfl #[.slice Ao61 t269.length co61, .int .i64 1] rfl ?_; (with_reducible refine (laws_heldIntS.calls kj80 _ _ t269 1 t282 _ ?side1 ?side2 A83.out).mono ?_); (case side1 => exact Cz ((Kd.R_reads' HO_9.out).2.2)); (case side2 => exact (Kd.R_reads' HO_9.out).2.1); rintro e w' ⟨rfl, ⟨nd, rfl⟩⟩; refine ⟨_, rfl, ?_⟩))
                         (try simp only [Act.put, List.setIfInBounds_toArray, List.set_cons_zero, List.set_cons_succ])
                         go_cut [] (fun wc => ∃ (kq : Nat), Aside0 (laws_FnExactAddDivisors.j12 kq t268 t282 = some r) ∧ Aside0 (kq ≤ kj80) ∧ Aside0 (Below w.heap.size w wc))
                         case first =>
                          have H := HC84.out
                          clear HC84
                          by_cases c85 : t282 < 0
                          ·rw [if_pos c85] at H
                           have c85b0 : decide (t282 < 0) = true := decide_eq_true c85
                           clear c85
                           (first | rw [c85b0] | (simp only [i64_w, i32_w]; rw [c85b0]) | skip)
                           obtain rfl := Option.some.inj H
                           go_wp2
                           go_ret
                           exact ⟨by first | rfl | (simp [errW_none, errW_some] <;> rfl) | (simp [*, errW_none, errW_some] <;> rfl), by exact Lz HB⟩
                          rw [if_neg c85] at H
                          have c85b0 : decide (t282 < 0) = false := decide_eq_false c85
                          clear c85
                          (first | rw [c85b0] | (simp only [i64_w, i32_w]; rw [c85b0]) | skip)
                          have H' := Aside0.mk H
                          clear H
                          go_wp2
                          go_meet
                          case rel => exact ⟨_, H', ⟨by have := HJ2.out; have := HJ4.out; have := HJ12.out; have := HJ29.out; have := HJ33.out; have := HJ39.out; have := HJ45.out; have := HJ55.out; have := HJ59.out; have := HJ63.out; have := HJ68.out; have := HJ80.out; first | omega | exact Nat.le_refl _⟩, ⟨by exact Lz HB⟩⟩
                         case rest =>
                          clear HC84
                          try clear c1
                          try clear c4
                          try clear c4b0
                          try clear c4b1
                          try clear c6
                          try clear c6b0
                          try clear c6b1
                          try clear c25
                          try clear c31
                          try clear c37
                          try clear c43
                          try clear c49
                          try clear c49b0
                          try clear c51
                          try clear c57
                          try clear c63
                          try clear c63b0
                          try clear c65
                          try clear c65b0
                          try clear c65b1
                          try clear c76
                          try clear c82
                          try clear c85
                          try clear c85b0
                          obtain ⟨kq, HA, HJ83, HB⟩ := hcut
                          cases kq with
                          | zero => exact absurd HA.out (by simp [laws_FnExactAddDivisors.j12])
                          | succ kj83 =>
                           have H := HA.out
                           clear HA
                           simp only [laws_FnExactAddDivisors.j12] at H
                           by_cases c86 : t282 = t268
                           ·rw [if_pos c86] at H
                            have c86b0 : (t282 == t268) = true := beq_iff_eq.mpr c86
                            have c86b1 : (t282 != t268) = false := bne_eq_false_iff_eq.mpr c86
                            clear c86
                            obtain rfl := Option.some.inj H
                            go_wp2
                            go_ret
                            exact ⟨by first | rfl | (simp [errW_none, errW_some] <;> rfl) | (simp [*, errW_none, errW_some] <;> rfl), by exact Lz HB⟩
                           rw [if_neg c86] at H
                           have c86b0 : (t282 == t268) = false := beq_eq_false_iff_ne.mpr c86
                           have c86b1 : (t282 != t268) = true := bne_iff_ne.mpr c86
                           obtain rfl := Option.some.inj H
                           go_wp2
                           go_ret
                           exact ⟨by first | rfl | (simp [errW_none, errW_some] <;> rfl) | (simp [*, errW_none, errW_some] <;> rfl), by exact Lz HB⟩

/-- THE ONE PURE STATEMENT of laws_FnExactAddDivisors: yours. -/
def laws_FnExactAddDivisors.Pure : Prop := ∀ (l0 : List Int) (l1 : List Int), l0.length ≤ maxLen → l0.length * 8 ≤ 140737488351232 → (∀ x ∈ l0, (Lit.int .i64 x).wf = true) → l1.length ≤ maxLen → l1.length * 8 ≤ 140737488351232 → (∀ x ∈ l1, (Lit.int .i64 x).wf = true) → ∃ k, laws_FnExactAddDivisors.f k l0 l1 = some true
theorem laws_FnExactAddDivisors.walk (P : laws_FnExactAddDivisors.Pure) (a0 : Option Addr) (len0 cap0 : Nat) (z0 : List Int) (a1 : Option Addr) (len1 cap1 : Nat) (z1 : List Int) (w : World) (w0 : (a0 = none ∧ len0 = 0 ∧ cap0 = 0 ∧ z0 = []) ∨ ∃ x, a0 = some x ∧ len0 ≤ cap0 ∧ cap0 ≤ maxLen ∧ z0.length = cap0 ∧ (∀ i, i < z0.length → w.cell? (x.add i) = some (.int .i64 (z0.getD i 0))) ∧ ∀ n ∈ z0, (Lit.int .i64 n).wf = true) (y0 : len0 * 8 ≤ 140737488351232) (w1 : (a1 = none ∧ len1 = 0 ∧ cap1 = 0 ∧ z1 = []) ∨ ∃ x, a1 = some x ∧ len1 ≤ cap1 ∧ cap1 ≤ maxLen ∧ z1.length = cap1 ∧ (∀ i, i < z1.length → w.cell? (x.add i) = some (.int .i64 (z1.getD i 0))) ∧ ∀ n ∈ z1, (Lit.int .i64 n).wf = true) (y1 : len1 * 8 ≤ 140737488351232) :
  Calls Try.prog 9 #[.slice a0 len0 cap0, .slice a1 len1 cap1] w fun e w' => e = .returned (.bool true) ∧ Below w.heap.size w w' := by
 obtain ⟨l0, rfl, hr0, hm0, hw0, hc0⟩ := ReadsInt.ofRowC w0
 obtain ⟨l1, rfl, hr1, hm1, hw1, hc1⟩ := ReadsInt.ofRowC w1
 obtain ⟨k, h⟩ := P l0 l1 hm0 y0 hw0 hm1 y1 hw1
 refine (laws_FnExactAddDivisors.calls k _ _ l0 _ _ l1 true w (Kd.C_of_reads (d := (0 : Int)) (h1 := fun _ => rfl) hr0) hc0 (Kd.C_of_reads (d := (0 : Int)) (h1 := fun _ => rfl) hr1) hc1 h).mono ?_
 rintro e w' ⟨rfl, hd⟩
 exact ⟨rfl, hd⟩

end Go.Proofs.Ytdolciclfpdcfaa.P
