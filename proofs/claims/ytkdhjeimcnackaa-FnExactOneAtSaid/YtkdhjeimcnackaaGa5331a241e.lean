/- Functions of the program as plain Lean functions, and that the machine's calls answer as they do. Written for this claim by a program of this work that drives the kit's print engine; Lean checks it. -/
import Derived.Test.YtkdhjeimcnackaaG1d043a2c8f
import Derived.Test.YtkdhjeimcnackaaG4fa0bcc631
import Derived.Test.YtkdhjeimcnackaaG88baca4164
import Derived.Test.YtkdhjeimcnackaaG2ff5270b7a
import Derived.Test.YtkdhjeimcnackaaGd8b44d0e14
namespace Go.Proofs.Ytkdhjeimcnackaa.P
open Go.RowKit Go.Proofs.YtkdhjeimcnackaaW.PrintWords Go.Proofs.YtkdhjeimcnackaaW.PrintLast Go.Proofs.YtkdhjeimcnackaaW.PrintMore
attribute [local go_sem] max2_int min2_int max_two min_two max_three min_three max_four min_four   -- for this text's walks alone
set_option linter.unusedVariables false
set_option linter.unusedSimpArgs false

/-! ### laws_markIntS: function 36 -/
def laws_markIntS.l0 : Nat → List Int → Int → Int → Option (Int × List Int)
 | 0, _, _, _ => none
 | k + 1, x0, x1, x5 => if x5 < (x0.length : Int) then (if 0 ≤ x5 then (laws_markIntS.l0 k (x0.set (x5 : Int).toNat x1) (wrap64 (x1 + 1)) (wrap64 (x5 + 1))) else (none)) else (some (x1, x0))
def laws_markIntS.f (k : Nat) (l0 : List Int) (a1 : Int) : Option (Int × List Int) := laws_markIntS.l0 k l0 a1 0
set_option maxHeartbeats 8000000 in
set_option maxRecDepth 100000 in
theorem laws_markIntS.calls (k : Nat) (P0_ : Nat → Prop) (u9000_ : Value) (l0 : List Int) (a1 : Int) (r1 : Int) (r2 : List Int) (w0 w : World) (hB : Below w0.heap.size w0 w) (ho0 : Kd.R (Kd.int .i64) 3 w w0.heap.size P0_ u9000_ l0) (h : laws_markIntS.f k l0 a1 = some (r1, r2)) :
  Calls Try.prog 36 #[u9000_, .int .i64 a1] w fun e w' => e = .returned (.int .i64 r1) ∧ Kd.R (Kd.int .i64) 3 w' w0.heap.size (fun k_ => (P0_ k_ ∨ w.heap.size ≤ k_)) u9000_ r2 ∧ Below w0.heap.size w0 w' ∧ Kept w w' (fun k_ => P0_ k_) := by
 have HO0 := Aside0.mk (show Kd.R (Kd.int .i64) 3 w w0.heap.size (fun k_ => (P0_ k_ ∨ w.heap.size ≤ k_)) u9000_ l0 from Kd.R_mono ho0 (fun k_ hk => (.inl hk)))
 have HK := Aside0.mk (Kept.refl w (fun k_ => P0_ k_))
 have HW0 := Aside0.mk hB.size
 have HB := Aside0.mk hB
 clear hB
 have H : (laws_markIntS.l0 k l0 a1 0) = some (r1, r2) := h
 clear h
 have H' := Aside0.mk H
 clear H
 go_enter Try.func36, Try.ntmps36
 go_wp2
 go_loopg [1, 5] k (fun kq v1 v5 w' => ∃ (x0_1 : List Int) (x1_1 : Int) (x5_1 : Int), v1 = .int .i64 x1_1 ∧ v5 = .int .i64 x5_1 ∧ Aside0 (laws_markIntS.l0 kq x0_1 x1_1 x5_1 = some (r1, r2)) ∧ Aside0 (kq ≤ k) ∧ Aside0 (Kd.R (Kd.int .i64) 3 w' w0.heap.size (fun k_ => (P0_ k_ ∨ w.heap.size ≤ k_)) u9000_ x0_1) ∧ Aside0 (Kept w w' (fun k_ => P0_ k_)) ∧ Aside0 (Below w0.heap.size w0 w'))
 case atStart => exact ⟨(l0), (a1), (0), (by first | rfl | (simp; done) | (simp [*]; done)), (by first | rfl | (simp; done) | (simp [*]; done)), H', ⟨Nat.le_refl _⟩, ⟨by exact Rz HO0⟩, ⟨by repeat (first | (with_reducible first | exact HK.out | apply Kept.alloc | apply Kept.drewN | apply Kept.drew) | exact HK.out)⟩, ⟨by exact Lz HB⟩⟩
 case round =>
  clear H'
  obtain ⟨x0_1, x1_1, x5_1, rfl, rfl, HA, HK1, HO_0, HK, HB⟩ := hrel
  cases gk with
  | zero => exact absurd HA.out (by simp [laws_markIntS.l0])
  | succ k1 =>
   have H := HA.out
   clear HA
   simp only [laws_markIntS.l0] at H
   by_cases c3 : x5_1 < (x0_1.length : Int)
   ·rw [if_pos c3] at H
    have c3b0 : decide (x5_1 < (x0_1.length : Int)) = true := decide_eq_true c3
    clear c3
    by_cases c4 : 0 ≤ x5_1
    ·rw [if_pos c4] at H
     have c4b0 : decide (0 ≤ x5_1) = true := decide_eq_true c4
     clear c4
     obtain ⟨y308, hy308⟩ : ∃ y_ : List Int, y_ = (x0_1.set (x5_1 : Int).toNat x1_1) := ⟨_, rfl⟩
     replace H : (laws_markIntS.l0 k1 y308 (wrap64 (x1_1 + 1)) (wrap64 (x5_1 + 1))) = some (r1, r2) := by first | (rw [hy308]; with_reducible exact H) | (have H2_ := (Option.bind_some _ _).symm.trans H; rw [hy308]; with_reducible exact H2_) | (have H2_ := (Option.bind_some _ _).symm.trans H; with_reducible exact H2_) | with_reducible exact H | (rw [hy308]; exact H) | exact H
     have Ny308 := Aside0.mk hy308
     clear hy308
     have H' := Aside0.mk H
     clear H
     obtain ⟨Ao6, co6, eo6⟩ := Kd.R_slice HO_0.out
     subst eo6
     have p5 : 0 ≤ (x5_1 : Int) := of_decide_eq_true (by first | (with_reducible assumption) | assumption)
     have q5 : (x5_1 : Int) < ((x0_1.length : Int) : Int) := of_decide_eq_true (by first | (with_reducible assumption) | assumption)
     obtain ⟨go5, co5, eo5, gb5, gl5, cl5, HG5⟩ := Kd.R_form HO_0.out (by omega)
     (first | cases eo5 | (injection eo5 with ea_ en_ ec_; (first | subst ea_ | (injection ea_ with ea_; subst ea_)); subst ec_; clear en_))
     have GB5 := Aside0.mk gb5
     have GG5 := Aside0.mk HG5
     clear gb5 gl5 HG5
     have HMgo5 := Aside0.mk (show (P0_ go5 ∨ w.heap.size ≤ go5) from (HO_0.out.1 _ rfl))
     obtain ⟨hx5_0, hf5_0⟩ := Kd.R_celln 0 HO_0.out (x5_1 : Int) p5 q5
     replace p5 := eq_true p5
     replace q5 := eq_true q5
     have HP7 := Kd.R_putg HO_0.out (x5_1 : Int) x1_1
     go_wp2_with (first | ((with_reducible refine gate_store (t := 3) (p := 15) rfl ?_); refine store_event (t := 3) (p := 15) (v := ?vo_w8) (w1 := (wr.setCell ⟨go5, (x5_1 : Int).toNat, none⟩ (.int .i64 x1_1))) ?hg ?ho ?hn ?hr ?_; (case ho => rfl); (case hg => rfl); (case hn => rfl); (case hr => first | (go_simp; done) | (go_simp; rfl)); intro w8 hw; have hg : wr.grownBy w8 (some go5) := (by rw [hw]; exact HP7.2); have hp_ : Kd.R (Kd.int .i64) 3 w8 w0.heap.size (fun k_ => (P0_ k_ ∨ w.heap.size ≤ k_)) (.slice (some ⟨go5, 0, none⟩) x0_1.length co6) y308 := (by rw [hw, Ny308.out]; exact HP7.1); clear HP7; replace HB := Aside0.mk ((by rw [hw]; exact below_set (HB.out) GB5.out : Below w0.heap.size w0 w8)); replace HK := Aside0.mk (Kept.of_grown (S := (fun k_ => P0_ k_)) hg (by repeat (first | (with_reducible first | exact HK.out | apply Kept.alloc | apply Kept.drewN | apply Kept.drew) | exact HK.out)) (fun k_ e_ => (HO_0.out.1 k_ e_))); replace HO_0 := Aside0.mk (hp_); clear hg hw hp_))
     go_roundg k1
     case measure => have := HK1.out; omega
     case rel => exact ⟨(y308), (wrap64 (x1_1 + 1)), (wrap64 (x5_1 + 1)), (by first | rfl | (simp; done) | (simp [*]; done)), (by first | rfl | (simp; done) | (simp [*]; done)), H', ⟨by have := HK1.out; omega⟩, ⟨by exact Rz HO_0⟩, ⟨by repeat (first | (with_reducible first | exact HK.out | apply Kept.alloc | apply Kept.drewN | apply Kept.drew) | exact HK.out)⟩, ⟨by exact Lz HB⟩⟩
    rw [if_neg c4] at H
    exact absurd H (by simp)
   rw [if_neg c3] at H
   have c3b0 : decide (x5_1 < (x0_1.length : Int)) = false := decide_eq_false c3
   clear c3
   simp only [Option.some.injEq, Prod.mk.injEq] at H
   obtain ⟨rfl, rfl⟩ := H
   obtain ⟨Ao9, co9, eo9⟩ := Kd.R_slice HO_0.out
   subst eo9
   go_wp2
   go_ret
   exact ⟨by first | rfl | (simp [errW_none, errW_some] <;> rfl) | (simp [*, errW_none, errW_some] <;> rfl), by exact Rz HO_0, by exact Lz HB, by repeat (first | (with_reducible first | exact HK.out | apply Kept.alloc | apply Kept.drewN | apply Kept.drew) | exact HK.out)⟩

/-! ### laws_heldIntS: function 37 -/
def laws_heldIntS.l0 : Nat → List Int → Int → Int → Option (Int)
 | 0, _, _, _ => none
 | k + 1, x0, x1, x5 => if x5 < (x0.length : Int) then (if 0 ≤ x5 then (if (rd x0 x5) = x1 then (laws_heldIntS.l0 k x0 (wrap64 (x1 + 1)) (wrap64 (x5 + 1))) else (some (-1))) else (none)) else (some x1)
def laws_heldIntS.f (k : Nat) (l0 : List Int) (a1 : Int) : Option (Int) := laws_heldIntS.l0 k l0 a1 0
set_option maxHeartbeats 8000000 in
set_option maxRecDepth 100000 in
theorem laws_heldIntS.calls (k : Nat) (A0 : Option Addr) (c0 : Nat) (l0 : List Int) (a1 : Int) (r : Int) (w : World) (hr0 : Kd.C (Kd.int .i64) w A0 l0.length l0) (hc0 : l0.length ≤ c0) (h : laws_heldIntS.f k l0 a1 = some r) :
  Calls Try.prog 37 #[.slice A0 l0.length c0, .int .i64 a1] w fun e w' => e = .returned (.int .i64 r) ∧ Drawn0 w w' := by
 have HR0 := Aside0.mk hr0
 have HC0 := Aside0.mk hc0
 clear hr0 hc0
 have H : (laws_heldIntS.l0 k l0 a1 0) = some r := h
 clear h
 have H' := Aside0.mk H
 clear H
 go_enter Try.func37, Try.ntmps37
 go_wp2
 go_loopg [1, 5] k (fun kq v1 v5 w' => ∃ (x1_1 : Int) (x5_1 : Int), v1 = .int .i64 x1_1 ∧ v5 = .int .i64 x5_1 ∧ Aside0 (laws_heldIntS.l0 kq l0 x1_1 x5_1 = some r) ∧ Aside0 (kq ≤ k) ∧ Drawn0 w w')
 case atStart => exact ⟨(a1), (0), (by first | rfl | (simp; done) | (simp [*]; done)), (by first | rfl | (simp; done) | (simp [*]; done)), H', ⟨Nat.le_refl _⟩, by repeat (first | exact Drawn0.refl _ | apply Drawn0.step)⟩
 case round =>
  clear H'
  obtain ⟨x1_1, x5_1, rfl, rfl, HA, HK1, ⟨m1, rfl⟩⟩ := hrel
  cases gk with
  | zero => exact absurd HA.out (by simp [laws_heldIntS.l0])
  | succ k1 =>
   have H := HA.out
   clear HA
   simp only [laws_heldIntS.l0] at H
   by_cases c3 : x5_1 < (l0.length : Int)
   ·rw [if_pos c3] at H
    have c3b0 : decide (x5_1 < (l0.length : Int)) = true := decide_eq_true c3
    clear c3
    by_cases c4 : 0 ≤ x5_1
    ·rw [if_pos c4] at H
     have c4b0 : decide (0 ≤ x5_1) = true := decide_eq_true c4
     clear c4
     by_cases c5 : (rd l0 x5_1) = x1_1
     ·rw [if_pos c5] at H
      have c5b0 : ((rd l0 x5_1) == x1_1) = true := beq_iff_eq.mpr c5
      have c5b1 : ((rd l0 x5_1) != x1_1) = false := bne_eq_false_iff_eq.mpr c5
      clear c5
      have H' := Aside0.mk H
      clear H
      have p310 : 0 ≤ (x5_1 : Int) := of_decide_eq_true (by first | (with_reducible assumption) | assumption)
      have q310 : x5_1 < (l0.length : Int) := of_decide_eq_true (by first | (with_reducible assumption) | assumption)
      obtain ⟨ad310, e310, hx310_0⟩ := Kd.at_int HR0.out x5_1 p310 q310
      cases e310
      replace p310 := eq_true p310
      replace q310 := eq_true q310
      go_wp2
      go_roundg k1
      case measure => have := HK1.out; omega
      case rel => exact ⟨(wrap64 (x1_1 + 1)), (wrap64 (x5_1 + 1)), (by first | rfl | (simp; done) | (simp [*]; done)), (by first | rfl | (simp; done) | (simp [*]; done)), H', ⟨by have := HK1.out; omega⟩, by repeat (first | exact Drawn0.refl _ | apply Drawn0.step)⟩
     rw [if_neg c5] at H
     have c5b0 : ((rd l0 x5_1) == x1_1) = false := beq_eq_false_iff_ne.mpr c5
     have c5b1 : ((rd l0 x5_1) != x1_1) = true := bne_iff_ne.mpr c5
     obtain rfl := Option.some.inj H
     have p310 : 0 ≤ (x5_1 : Int) := of_decide_eq_true (by first | (with_reducible assumption) | assumption)
     have q310 : x5_1 < (l0.length : Int) := of_decide_eq_true (by first | (with_reducible assumption) | assumption)
     obtain ⟨ad310, e310, hx310_0⟩ := Kd.at_int HR0.out x5_1 p310 q310
     cases e310
     replace p310 := eq_true p310
     replace q310 := eq_true q310
     go_wp2
     go_ret
     exact ⟨by first | rfl | (simp; done) | (simp [*]; done), by repeat (first | exact Drawn0.refl _ | apply Drawn0.step)⟩
    rw [if_neg c4] at H
    exact absurd H (by simp)
   rw [if_neg c3] at H
   have c3b0 : decide (x5_1 < (l0.length : Int)) = false := decide_eq_false c3
   clear c3
   obtain rfl := Option.some.inj H
   go_wp2
   go_ret
   exact ⟨by first | rfl | (simp; done) | (simp [*]; done), by repeat (first | exact Drawn0.refl _ | apply Drawn0.step)⟩

/-! ### spec_OneAt: function 48 -/
def spec_OneAt.j0 : Nat → Int → Int → Bool → Int → List (S57) → Option (List Int × Bool)
 | 0, _, _, _, _, _ => none
 | k + 1, x1, x2, x24, x549000, x549001 => if x24 = true then (some (([] : List Int), false)) else (if 0 ≤ x549000 then (if (x549000 : Int).toNat ≤ 35184372088832 then ((some (List.replicate (x549000 : Int).toNat 0 : List Int)).bind fun y552 => (if 0 ≤ x1 then (if x1 < (y552.length : Int) then (some ((y552.set (x1 : Int).toNat x2), true)) else (none)) else (none))) else (none)) else (none))
def spec_OneAt.f (k : Nat) (a0_0 : Int) (l0_1 : List (S57)) (a1 : Int) (a2 : Int) : Option (List Int × Bool) := (spec_GraphOk.f k a0_0 l0_1).bind fun t549 => (if t549 = true then ((spec_l01In.f a1 0 (wrap64 (a0_0 - 1))).bind fun t550 => (if t550 = true then ((spec_l01In.f a2 (-60) 60).bind fun t551 => (spec_OneAt.j0 k a1 a2 (!t551) a0_0 l0_1)) else (spec_OneAt.j0 k a1 a2 true a0_0 l0_1))) else (spec_OneAt.j0 k a1 a2 true a0_0 l0_1))
set_option maxHeartbeats 8000000 in
set_option maxRecDepth 100000 in
theorem spec_OneAt.calls (k : Nat) (a0_0 : Int) (A0_1 : Option Addr) (c0_1 : Nat) (l0_1 : List (S57)) (a1 : Int) (a2 : Int) (r1 : List Int) (r2 : Bool) (w : World) (hr0_1 : Kd.C k57 w A0_1 l0_1.length l0_1) (hc0_1 : l0_1.length ≤ c0_1) (h : spec_OneAt.f k a0_0 l0_1 a1 a2 = some (r1, r2)) :
  Calls Try.prog 48 #[.agg #[.int .i64 a0_0, .slice A0_1 l0_1.length c0_1], .int .i64 a1, .int .i64 a2] w fun e w' => ∃ v0_ : Value, e = .returned (.tuple #[v0_, .bool r2]) ∧ Kd.R (Kd.int .i64) 3 w' w.heap.size (fun _ => True) v0_ r1 ∧ Below w.heap.size w w' := by
 have hu29 := Try.underlying29
 have HR0_1 := Aside0.mk hr0_1
 have HC0_1 := Aside0.mk hc0_1
 clear hr0_1 hc0_1
 have HB := Aside0.mk (Below.refl w.heap.size w)
 have H : ((spec_GraphOk.f k a0_0 l0_1).bind fun t549 => (if t549 = true then ((spec_l01In.f a1 0 (wrap64 (a0_0 - 1))).bind fun t550 => (if t550 = true then ((spec_l01In.f a2 (-60) 60).bind fun t551 => (spec_OneAt.j0 k a1 a2 (!t551) a0_0 l0_1)) else (spec_OneAt.j0 k a1 a2 true a0_0 l0_1))) else (spec_OneAt.j0 k a1 a2 true a0_0 l0_1))) = some (r1, r2) := h
 clear h
 have HC4 := Aside0.mk H
 clear H
 go_enter Try.func48, Try.ntmps48
 go_upto_region 1 with (first | ((with_reducible refine gate_dst (N := 3) rfl ?_); refine box_event ?hg (N := 3) ?hd (cs := #[.int .i64 a0_0, .slice A0_1 l0_1.length c0_1]) (t := 29) ?hr ?_; (case hd => rfl); (case hg => rfl); (case hr => first | (go_simp; done) | (go_simp; rfl)); intro gb548 hg w5 hbox hb; have BK548 := Aside0.mk (hbox); have GW548 := Aside0.mk ((by rw [hg]; exact (below_size (Lz HB)) : w.heap.size ≤ gb548)); have GE548 := Aside0.mk ((by rw [hg]; exact (below_size (Lz HB)) : w.heap.size ≤ gb548)); replace HB := Aside0.mk (below_step (Lz HB) hb); clear hb hbox hg))
 (try simp only [Act.put, List.setIfInBounds_toArray, List.set_cons_zero, List.set_cons_succ])
 go_cut [24] (fun v24 wc => ∃ (kq : Nat) (x24_3 : Bool), v24 = .bool x24_3 ∧ Aside0 (spec_OneAt.j0 kq a1 a2 x24_3 a0_0 l0_1 = some (r1, r2)) ∧ Aside0 (kq ≤ k) ∧ Aside0 (wc.heap[gb548]? = some (.cells #[.int .i64 a0_0, (.slice A0_1 l0_1.length c0_1)] 29 (0, 0))) ∧ Aside0 (Below w.heap.size w wc))
 case first =>
  have H := HC4.out
  clear HC4
  replace H := Option.bind_eq_some_iff.mp H
  obtain ⟨t549, A60, H⟩ := H
  replace H : (if t549 = true then ((spec_l01In.f a1 0 (wrap64 (a0_0 - 1))).bind fun t550 => (if t550 = true then ((spec_l01In.f a2 (-60) 60).bind fun t551 => (spec_OneAt.j0 k a1 a2 (!t551) a0_0 l0_1)) else (spec_OneAt.j0 k a1 a2 true a0_0 l0_1))) else (spec_OneAt.j0 k a1 a2 true a0_0 l0_1)) = some (r1, r2) := H
  have A6 := Aside0.mk A60
  clear A60
  by_cases c7 : t549 = true
  ·subst c7
   have H1 : ((spec_l01In.f a1 0 (wrap64 (a0_0 - 1))).bind fun t550 => (if t550 = true then ((spec_l01In.f a2 (-60) 60).bind fun t551 => (spec_OneAt.j0 k a1 a2 (!t551) a0_0 l0_1)) else (spec_OneAt.j0 k a1 a2 true a0_0 l0_1))) = some (r1, r2) := by rw [if_pos rfl] at H; exact H
   clear H
   have H := H1
   clear H1
   replace H := Option.bind_eq_some_iff.mp H
   obtain ⟨t550, A80, H⟩ := H
   replace H : (if t550 = true then ((spec_l01In.f a2 (-60) 60).bind fun t551 => (spec_OneAt.j0 k a1 a2 (!t551) a0_0 l0_1)) else (spec_OneAt.j0 k a1 a2 true a0_0 l0_1)) = some (r1, r2) := H
   have A8 := Aside0.mk A80
   clear A80
   by_cases c9 : t550 = true
   ·subst c9
    have H1 : ((spec_l01In.f a2 (-60) 60).bind fun t551 => (spec_OneAt.j0 k a1 a2 (!t551) a0_0 l0_1)) = some (r1, r2) := by rw [if_pos rfl] at H; exact H
    clear H
    have H := H1
    clear H1
    replace H := Option.bind_eq_some_iff.mp H
    obtain ⟨t551, A100, H⟩ := H
    replace H : (spec_OneAt.j0 k a1 a2 (!t551) a0_0 l0_1) = some (r1, r2) := H
    have A10 := Aside0.mk A100
    clear A100
    have H' := Aside0.mk H
    clear H
    have hcz11_0 : w5.cell? ⟨gb548, 0, none⟩ = some (.int .i64 a0_0) := (blk_cell BK548.out 0).trans rfl
    have hcz11_1 : w5.cell? ⟨gb548, 1, none⟩ = some (.slice A0_1 l0_1.length c0_1) := (blk_cell BK548.out 1).trans rfl
    have hfz11_0 := blk_frozen BK548.out 0
    have hfz11_1 := blk_frozen BK548.out 1
    go_wp2_with (first | ((with_reducible refine gate_callee (f := 40) rfl ?_); refine goesM_ (some 10) rfl rfl Try.func40 (by kernel_rfl) rfl #[.agg #[.int .i64 a0_0, .slice A0_1 l0_1.length c0_1]] rfl ?_; (with_reducible refine (spec_GraphOk.calls k a0_0 _ _ l0_1 true _ ?side1 ?side2 A6.out).mono ?_); (case side1 => exact Cz ((Kd.C_below HR0_1.out HB.out))); (case side2 => exact HC0_1.out); rintro e w12 ⟨rfl, hb⟩; refine ⟨_, rfl, ?_⟩; replace BK548 := Aside0.mk (blk_below (g := gb548) (o := .cells #[.int .i64 a0_0, .slice A0_1 l0_1.length c0_1] 29 (0, 0)) (Bz BK548) hb); replace HB := Aside0.mk (below_step (by exact Lz1 HB GE548) hb); (try clear hb); (try clear hb2); (try clear hk); (try clear hi); have hcz13_0 : w12.cell? ⟨gb548, 0, none⟩ = some (.int .i64 a0_0) := (blk_cell BK548.out 0).trans rfl; have hcz13_1 : w12.cell? ⟨gb548, 1, none⟩ = some (.slice A0_1 l0_1.length c0_1) := (blk_cell BK548.out 1).trans rfl; have hfz13_0 := blk_frozen BK548.out 0; have hfz13_1 := blk_frozen BK548.out 1) | (go_at_call 55; (with_reducible refine (spec_l01In.calls a1 0 (wrap64 (a0_0 - 1)) true _ A8.out).mono ?_); rintro e w' ⟨rfl, ⟨nd, rfl⟩⟩) | (go_at_call 55; (with_reducible refine (spec_l01In.calls a2 (-60) 60 t551 _ A10.out).mono ?_); rintro e w' ⟨rfl, ⟨nd, rfl⟩⟩))
    go_meet
    case rel => exact ⟨_, (!t551), (by first | rfl | (simp; done) | (simp [*]; done)), H', ⟨by first | omega | exact Nat.le_refl _⟩, ⟨by exact Bz BK548⟩, ⟨by exact Lz1 HB GE548⟩⟩
   replace c9 := Bool.eq_false_iff.mpr c9
   subst c9
   have H1 : (spec_OneAt.j0 k a1 a2 true a0_0 l0_1) = some (r1, r2) := by rw [if_neg (show ¬ (false = true) by decide)] at H; exact H
   clear H
   have H := H1
   clear H1
   have H' := Aside0.mk H
   clear H
   have hcz14_0 : w5.cell? ⟨gb548, 0, none⟩ = some (.int .i64 a0_0) := (blk_cell BK548.out 0).trans rfl
   have hcz14_1 : w5.cell? ⟨gb548, 1, none⟩ = some (.slice A0_1 l0_1.length c0_1) := (blk_cell BK548.out 1).trans rfl
   have hfz14_0 := blk_frozen BK548.out 0
   have hfz14_1 := blk_frozen BK548.out 1
   go_wp2_with (first | ((with_reducible refine gate_callee (f := 40) rfl ?_); refine goesM_ (some 10) rfl rfl Try.func40 (by kernel_rfl) rfl #[.agg #[.int .i64 a0_0, .slice A0_1 l0_1.length c0_1]] rfl ?_; (with_reducible refine (spec_GraphOk.calls k a0_0 _ _ l0_1 true _ ?side1 ?side2 A6.out).mono ?_); (case side1 => exact Cz ((Kd.C_below HR0_1.out HB.out))); (case side2 => exact HC0_1.out); rintro e w15 ⟨rfl, hb⟩; refine ⟨_, rfl, ?_⟩; replace BK548 := Aside0.mk (blk_below (g := gb548) (o := .cells #[.int .i64 a0_0, .slice A0_1 l0_1.length c0_1] 29 (0, 0)) (Bz BK548) hb); replace HB := Aside0.mk (below_step (by exact Lz1 HB GE548) hb); (try clear hb); (try clear hb2); (try clear hk); (try clear hi); have hcz16_0 : w15.cell? ⟨gb548, 0, none⟩ = some (.int .i64 a0_0) := (blk_cell BK548.out 0).trans rfl; have hcz16_1 : w15.cell? ⟨gb548, 1, none⟩ = some (.slice A0_1 l0_1.length c0_1) := (blk_cell BK548.out 1).trans rfl; have hfz16_0 := blk_frozen BK548.out 0; have hfz16_1 := blk_frozen BK548.out 1) | (go_at_call 55; (with_reducible refine (spec_l01In.calls a1 0 (wrap64 (a0_0 - 1)) false _ A8.out).mono ?_); rintro e w' ⟨rfl, ⟨nd, rfl⟩⟩))
   go_meet
   case rel => exact ⟨_, (true), (by first | rfl | (simp; done) | (simp [*]; done)), H', ⟨by first | omega | exact Nat.le_refl _⟩, ⟨by exact Bz BK548⟩, ⟨by exact Lz1 HB GE548⟩⟩
  replace c7 := Bool.eq_false_iff.mpr c7
  subst c7
  have H1 : (spec_OneAt.j0 k a1 a2 true a0_0 l0_1) = some (r1, r2) := by rw [if_neg (show ¬ (false = true) by decide)] at H; exact H
  clear H
  have H := H1
  clear H1
  have H' := Aside0.mk H
  clear H
  have hcz17_0 : w5.cell? ⟨gb548, 0, none⟩ = some (.int .i64 a0_0) := (blk_cell BK548.out 0).trans rfl
  have hcz17_1 : w5.cell? ⟨gb548, 1, none⟩ = some (.slice A0_1 l0_1.length c0_1) := (blk_cell BK548.out 1).trans rfl
  have hfz17_0 := blk_frozen BK548.out 0
  have hfz17_1 := blk_frozen BK548.out 1
  go_wp2_with (first | ((with_reducible refine gate_callee (f := 40) rfl ?_); refine goesM_ (some 10) rfl rfl Try.func40 (by kernel_rfl) rfl #[.agg #[.int .i64 a0_0, .slice A0_1 l0_1.length c0_1]] rfl ?_; (with_reducible refine (spec_GraphOk.calls k a0_0 _ _ l0_1 false _ ?side1 ?side2 A6.out).mono ?_); (case side1 => exact Cz ((Kd.C_below HR0_1.out HB.out))); (case side2 => exact HC0_1.out); rintro e w18 ⟨rfl, hb⟩; refine ⟨_, rfl, ?_⟩; replace BK548 := Aside0.mk (blk_below (g := gb548) (o := .cells #[.int .i64 a0_0, .slice A0_1 l0_1.length c0_1] 29 (0, 0)) (Bz BK548) hb); replace HB := Aside0.mk (below_step (by exact Lz1 HB GE548) hb); (try clear hb); (try clear hb2); (try clear hk); (try clear hi)))
  go_meet
  case rel => exact ⟨_, (true), (by first | rfl | (simp; done) | (simp [*]; done)), H', ⟨by first | omega | exact Nat.le_refl _⟩, ⟨by exact Bz BK548⟩, ⟨by exact Lz1 HB GE548⟩⟩
 case rest =>
  clear HC4
  try clear c7
  try clear c9
  obtain ⟨kq, x24_3, rfl, HA, HJ3, BK548, HB⟩ := hcut
  cases kq with
  | zero => exact absurd HA.out (by simp [spec_OneAt.j0])
  | succ kj3 =>
   have H := HA.out
   clear HA
   simp only [spec_OneAt.j0] at H
   by_cases c19 : x24_3 = true
   ·subst c19
    have H1 : (some (([] : List Int), false)) = some (r1, r2) := by rw [if_pos rfl] at H; exact H
    clear H
    have H := H1
    clear H1
    simp only [Option.some.injEq, Prod.mk.injEq] at H
    obtain ⟨rfl, rfl⟩ := H
    go_wp2
    go_ret2
    exact ⟨_, by first | rfl | (simp [errW_none, errW_some] <;> rfl) | (simp [*, errW_none, errW_some] <;> rfl), by first | exact Kd.R_nil _ _ _ _ _ | exact Kd.N_nil _ _ _ _ _ | exact Kd.V_nil _ _ _ _ _ | exact Kd.Q_nil _ _ _ _ _ | exact Kd.S_nil _ _ _ _ _, by exact Lz1 HB GE548⟩
   replace c19 := Bool.eq_false_iff.mpr c19
   subst c19
   have H1 : (if 0 ≤ a0_0 then (if (a0_0 : Int).toNat ≤ 35184372088832 then ((some (List.replicate (a0_0 : Int).toNat 0 : List Int)).bind fun y552 => (if 0 ≤ a1 then (if a1 < (y552.length : Int) then (some ((y552.set (a1 : Int).toNat a2), true)) else (none)) else (none))) else (none)) else (none)) = some (r1, r2) := by rw [if_neg (show ¬ (false = true) by decide)] at H; exact H
   clear H
   have H := H1
   clear H1
   by_cases c20 : 0 ≤ a0_0
   ·rw [if_pos c20] at H
    have c20b0 := eq_true c20
    have c20b1 : decide (0 ≤ a0_0) = true := decide_eq_true c20
    clear c20
    by_cases c21 : (a0_0 : Int).toNat ≤ 35184372088832
    ·rw [if_pos c21] at H
     have c21b0 := eq_true c21
     have c21b1 : decide ((a0_0 : Int).toNat ≤ 35184372088832) = true := decide_eq_true c21
     clear c21
     obtain ⟨y552, hy552⟩ : ∃ y_ : List Int, y_ = (List.replicate (a0_0 : Int).toNat 0) := ⟨_, rfl⟩
     replace H : (if 0 ≤ a1 then (if a1 < (y552.length : Int) then (some ((y552.set (a1 : Int).toNat a2), true)) else (none)) else (none)) = some (r1, r2) := by first | (rw [hy552]; with_reducible exact H) | (have H2_ := (Option.bind_some _ _).symm.trans H; rw [hy552]; with_reducible exact H2_) | (have H2_ := (Option.bind_some _ _).symm.trans H; with_reducible exact H2_) | with_reducible exact H | (rw [hy552]; exact H) | exact H
     have Ny552 := Aside0.mk hy552
     clear hy552
     by_cases c22 : 0 ≤ a1
     ·rw [if_pos c22] at H
      have c22b0 : decide (0 ≤ a1) = true := decide_eq_true c22
      clear c22
      by_cases c23 : a1 < (y552.length : Int)
      ·rw [if_pos c23] at H
       have c23b0 : decide (a1 < (y552.length : Int)) = true := decide_eq_true c23
       clear c23
       obtain ⟨y555, hy555⟩ : ∃ y_ : List Int, y_ = (y552.set (a1 : Int).toNat a2) := ⟨_, rfl⟩
       replace H : (some (y555, true)) = some (r1, r2) := by first | (rw [hy555]; with_reducible exact H) | (have H2_ := (Option.bind_some _ _).symm.trans H; rw [hy555]; with_reducible exact H2_) | (have H2_ := (Option.bind_some _ _).symm.trans H; with_reducible exact H2_) | with_reducible exact H | (rw [hy555]; exact H) | exact H
       have Ny555 := Aside0.mk hy555
       clear hy555
       simp only [Option.some.injEq, Prod.mk.injEq] at H
       obtain ⟨rfl, rfl⟩ := H
       have hcz25_0 : wc.cell? ⟨gb548, 0, none⟩ = some (.int .i64 a0_0) := (blk_cell BK548.out 0).trans rfl
       have hcz25_1 : wc.cell? ⟨gb548, 1, none⟩ = some (.slice A0_1 l0_1.length c0_1) := (blk_cell BK548.out 1).trans rfl
       have hfz25_0 := blk_frozen BK548.out 0
       have hfz25_1 := blk_frozen BK548.out 1
       go_wp2_with (first | ((with_reducible refine gate_dst (N := 27) rfl ?_); refine Kd.R_make (Kd.int .i64) _ 3 rfl (N := 27) rfl 43 _ _ rfl a0_0 rfl rfl Try.underlying43 (.int .i64 0) 8 info3 rfl (by decide) (by omega) 0 (ok := fun _ => True) (okp := fun _ => True) rfl (fun _ hk => hk) trivial (of_decide_eq_true (by first | (with_reducible assumption) | assumption)) (Nat.le_trans (Nat.mul_le_mul_right _ (of_decide_eq_true (by first | (with_reducible assumption) | assumption) : a0_0.toNat ≤ 35184372088832)) (by omega)) (Below.refl _ _) (Nat.le_refl _) ?_; intro v553 w26 ho27 hb hg_ hnew_; clear hg_ hnew_; (first | rw [← Ny552.out] at ho27 | (simp only [Int.reduceToNat] at ho27; rw [← Ny552.out] at ho27)); have HO554 := Aside0.mk (Kd.R_lower ho27 (below_size (by exact Lz1 HB GE548))); replace BK548 := Aside0.mk (blk_below (g := gb548) (o := .cells #[.int .i64 a0_0, .slice A0_1 l0_1.length c0_1] 29 (0, 0)) (Bz BK548) hb); replace HB := Aside0.mk (below_step (by exact Lz1 HB GE548) hb); clear hb ho27; have p24 : 0 ≤ (a1 : Int) := of_decide_eq_true (by first | (with_reducible assumption) | assumption); have q24 : (a1 : Int) < ((y552.length : Int) : Int) := of_decide_eq_true (by first | (with_reducible assumption) | assumption); obtain ⟨go24, co24, eo24, gb24, gl24, cl24, HG24⟩ := Kd.R_form HO554.out (by omega); (first | cases eo24 | (injection eo24 with ea_ en_ ec_; (first | subst ea_ | (injection ea_ with ea_; subst ea_)); subst ec_; clear en_)); have GB24 := Aside0.mk gb24; have GG24 := Aside0.mk HG24; clear gb24 gl24 HG24; obtain ⟨hx24_0, hf24_0⟩ := Kd.R_celln 0 HO554.out (a1 : Int) p24 q24; replace p24 := eq_true p24; replace q24 := eq_true q24; obtain ⟨hy28_, hz28_⟩ := Kd.R_celln 0 HO554.out (a1 : Int) (of_decide_eq_true (by first | (with_reducible assumption) | assumption)) (of_decide_eq_true (by first | (with_reducible assumption) | assumption)); have HP28 := Kd.R_putg HO554.out (a1 : Int) a2) | ((with_reducible refine gate_store (t := 3) (p := 31) rfl ?_); refine store_event (t := 3) (p := 31) (v := ?vo_w29) (w1 := (w26.setCell ⟨go24, (a1 : Int).toNat, none⟩ (.int .i64 a2))) ?hg ?ho ?hn ?hr ?_; (case ho => rfl); (case hg => rfl); (case hn => rfl); (case hr => first | (go_simp; done) | (go_simp; rfl)); intro w29 hw; have hg : w26.grownBy w29 (some go24) := (by rw [hw]; exact HP28.2); have hp_ : Kd.R (Kd.int .i64) 3 w29 w.heap.size (fun _ => True) (.slice (some ⟨go24, 0, none⟩) y552.length co24) y555 := (by rw [hw, Ny555.out]; exact HP28.1); clear HP28; replace BK548 := Aside0.mk (blk_grown (g := gb548) (o := .cells #[.int .i64 a0_0, .slice A0_1 l0_1.length c0_1] 29 (0, 0)) (Bz BK548) hg (Kd.R_ne HO554.out BK548.out (by decide))); replace HO554 := Aside0.mk (hp_); replace HB := Aside0.mk ((by rw [hw]; exact below_set (HB.out) GB24.out : Below w.heap.size w w29)); clear hg hw hp_))
       go_ret2
       exact ⟨_, by first | rfl | (simp [errW_none, errW_some] <;> rfl) | (simp [*, errW_none, errW_some] <;> rfl), by exact Rz HO554, by exact Lz1 HB GE548⟩
      rw [if_neg c23] at H
      exact absurd H (by simp)
     rw [if_neg c22] at H
     exact absurd H (by simp)
    rw [if_neg c21] at H
    exact absurd H (by simp)
   rw [if_neg c20] at H
   exact absurd H (by simp)

/-! ### impl_isVertex: function 68 -/
def impl_isVertex.f (k : Nat) (a0_0 : Int) (l0_1 : List (S57)) (a1 : Int) : Option (Bool) := (impl_GraphOk.f k a0_0 l0_1).bind fun t557 => (if t557 = true then ((impl_within.f a1 0 (wrap64 (a0_0 - 1))).bind fun t558 => (some t558)) else (some false))
set_option maxHeartbeats 8000000 in
set_option maxRecDepth 100000 in
theorem impl_isVertex.calls (k : Nat) (a0_0 : Int) (A0_1 : Option Addr) (c0_1 : Nat) (l0_1 : List (S57)) (a1 : Int) (r : Bool) (w : World) (hr0_1 : Kd.C k57 w A0_1 l0_1.length l0_1) (hc0_1 : l0_1.length ≤ c0_1) (h : impl_isVertex.f k a0_0 l0_1 a1 = some r) :
  Calls Try.prog 68 #[.agg #[.int .i64 a0_0, .slice A0_1 l0_1.length c0_1], .int .i64 a1] w fun e w' => e = .returned (.bool r) ∧ Below w.heap.size w w' := by
 have hu29 := Try.underlying29
 have HR0_1 := Aside0.mk hr0_1
 have HC0_1 := Aside0.mk hc0_1
 clear hr0_1 hc0_1
 have HB := Aside0.mk (Below.refl w.heap.size w)
 have H : ((impl_GraphOk.f k a0_0 l0_1).bind fun t557 => (if t557 = true then ((impl_within.f a1 0 (wrap64 (a0_0 - 1))).bind fun t558 => (some t558)) else (some false))) = some r := h
 clear h
 replace H := Option.bind_eq_some_iff.mp H
 obtain ⟨t557, A30, H⟩ := H
 replace H : (if t557 = true then ((impl_within.f a1 0 (wrap64 (a0_0 - 1))).bind fun t558 => (some t558)) else (some false)) = some r := H
 have A3 := Aside0.mk A30
 clear A30
 by_cases c4 : t557 = true
 ·subst c4
  have H1 : ((impl_within.f a1 0 (wrap64 (a0_0 - 1))).bind fun t558 => (some t558)) = some r := by rw [if_pos rfl] at H; exact H
  clear H
  have H := H1
  clear H1
  replace H := Option.bind_eq_some_iff.mp H
  obtain ⟨t558, A50, H⟩ := H
  replace H : (some t558) = some r := H
  have A5 := Aside0.mk A50
  clear A50
  obtain rfl := Option.some.inj H
  go_enter Try.func68, Try.ntmps68
  go_wp2_with (first | ((with_reducible refine gate_dst (N := 2) rfl ?_); refine box_event ?hg (N := 2) ?hd (cs := #[.int .i64 a0_0, .slice A0_1 l0_1.length c0_1]) (t := 29) ?hr ?_; (case hd => rfl); (case hg => rfl); (case hr => first | (go_simp; done) | (go_simp; rfl)); intro gb556 hg w6 hbox hb; have BK556 := Aside0.mk (hbox); have GW556 := Aside0.mk ((by rw [hg]; exact (below_size (Lz HB)) : w.heap.size ≤ gb556)); have GE556 := Aside0.mk ((by rw [hg]; exact (below_size (Lz HB)) : w.heap.size ≤ gb556)); replace HB := Aside0.mk (below_step (Lz HB) hb); clear hb hbox hg; have hcz7_0 : w6.cell? ⟨gb556, 0, none⟩ = some (.int .i64 a0_0) := (blk_cell BK556.out 0).trans rfl; have hcz7_1 : w6.cell? ⟨gb556, 1, none⟩ = some (.slice A0_1 l0_1.length c0_1) := (blk_cell BK556.out 1).trans rfl; have hfz7_0 := blk_frozen BK556.out 0; have hfz7_1 := blk_frozen BK556.out 1) | ((with_reducible refine gate_callee (f := 41) rfl ?_); refine goesM_ (some 6) rfl rfl Try.func41 (by kernel_rfl) rfl #[.agg #[.int .i64 a0_0, .slice A0_1 l0_1.length c0_1]] rfl ?_; (with_reducible refine (impl_GraphOk.calls k a0_0 _ _ l0_1 true _ ?side1 ?side2 A3.out).mono ?_); (case side1 => exact Cz ((Kd.C_below HR0_1.out HB.out))); (case side2 => exact HC0_1.out); rintro e w8 ⟨rfl, hb⟩; refine ⟨_, rfl, ?_⟩; replace BK556 := Aside0.mk (blk_below (g := gb556) (o := .cells #[.int .i64 a0_0, .slice A0_1 l0_1.length c0_1] 29 (0, 0)) (Bz BK556) hb); replace HB := Aside0.mk (below_step (by exact Lz1 HB GE556) hb); (try clear hb); (try clear hb2); (try clear hk); (try clear hi); have hcz9_0 : w8.cell? ⟨gb556, 0, none⟩ = some (.int .i64 a0_0) := (blk_cell BK556.out 0).trans rfl; have hcz9_1 : w8.cell? ⟨gb556, 1, none⟩ = some (.slice A0_1 l0_1.length c0_1) := (blk_cell BK556.out 1).trans rfl; have hfz9_0 := blk_frozen BK556.out 0; have hfz9_1 := blk_frozen BK556.out 1) | (go_at_call 56; (with_reducible refine (impl_within.calls a1 0 (wrap64 (a0_0 - 1)) t558 _ A5.out).mono ?_); rintro e w' ⟨rfl, ⟨nd, rfl⟩⟩))
  go_ret
  exact ⟨by first | rfl | (simp [errW_none, errW_some] <;> rfl) | (simp [*, errW_none, errW_some] <;> rfl), by exact Lz1 HB GE556⟩
 replace c4 := Bool.eq_false_iff.mpr c4
 subst c4
 have H1 : (some false) = some r := by rw [if_neg (show ¬ (false = true) by decide)] at H; exact H
 clear H
 have H := H1
 clear H1
 obtain rfl := Option.some.inj H
 go_enter Try.func68, Try.ntmps68
 go_wp2_with (first | ((with_reducible refine gate_dst (N := 2) rfl ?_); refine box_event ?hg (N := 2) ?hd (cs := #[.int .i64 a0_0, .slice A0_1 l0_1.length c0_1]) (t := 29) ?hr ?_; (case hd => rfl); (case hg => rfl); (case hr => first | (go_simp; done) | (go_simp; rfl)); intro gb556 hg w10 hbox hb; have BK556 := Aside0.mk (hbox); have GW556 := Aside0.mk ((by rw [hg]; exact (below_size (Lz HB)) : w.heap.size ≤ gb556)); have GE556 := Aside0.mk ((by rw [hg]; exact (below_size (Lz HB)) : w.heap.size ≤ gb556)); replace HB := Aside0.mk (below_step (Lz HB) hb); clear hb hbox hg; have hcz11_0 : w10.cell? ⟨gb556, 0, none⟩ = some (.int .i64 a0_0) := (blk_cell BK556.out 0).trans rfl; have hcz11_1 : w10.cell? ⟨gb556, 1, none⟩ = some (.slice A0_1 l0_1.length c0_1) := (blk_cell BK556.out 1).trans rfl; have hfz11_0 := blk_frozen BK556.out 0; have hfz11_1 := blk_frozen BK556.out 1) | ((with_reducible refine gate_callee (f := 41) rfl ?_); refine goesM_ (some 6) rfl rfl Try.func41 (by kernel_rfl) rfl #[.agg #[.int .i64 a0_0, .slice A0_1 l0_1.length c0_1]] rfl ?_; (with_reducible refine (impl_GraphOk.calls k a0_0 _ _ l0_1 false _ ?side1 ?side2 A3.out).mono ?_); (case side1 => exact Cz ((Kd.C_below HR0_1.out HB.out))); (case side2 => exact HC0_1.out); rintro e w12 ⟨rfl, hb⟩; refine ⟨_, rfl, ?_⟩; replace BK556 := Aside0.mk (blk_below (g := gb556) (o := .cells #[.int .i64 a0_0, .slice A0_1 l0_1.length c0_1] 29 (0, 0)) (Bz BK556) hb); replace HB := Aside0.mk (below_step (by exact Lz1 HB GE556) hb); (try clear hb); (try clear hb2); (try clear hk); (try clear hi)))
 go_ret
 exact ⟨by first | rfl | (simp [errW_none, errW_some] <;> rfl) | (simp [*, errW_none, errW_some] <;> rfl), by exact Lz1 HB GE556⟩

/-! ### impl_oneAt: function 69 -/
def impl_oneAt.f (a0_0 : Int) (l0_1 : List (S57)) (a1 : Int) (a2 : Int) : Option (List Int) := if 0 ≤ a0_0 then (if (a0_0 : Int).toNat ≤ 35184372088832 then ((some (List.replicate (a0_0 : Int).toNat 0 : List Int)).bind fun y560 => (if 0 ≤ a1 then (if a1 < (y560.length : Int) then (some (y560.set (a1 : Int).toNat a2)) else (none)) else (none))) else (none)) else (none)
set_option maxHeartbeats 8000000 in
set_option maxRecDepth 100000 in
theorem impl_oneAt.calls (a0_0 : Int) (A0_1 : Option Addr) (c0_1 : Nat) (l0_1 : List (S57)) (a1 : Int) (a2 : Int) (r : List Int) (w : World) (hr0_1 : Kd.C k57 w A0_1 l0_1.length l0_1) (hc0_1 : l0_1.length ≤ c0_1) (h : impl_oneAt.f a0_0 l0_1 a1 a2 = some r) :
  Calls Try.prog 69 #[.agg #[.int .i64 a0_0, .slice A0_1 l0_1.length c0_1], .int .i64 a1, .int .i64 a2] w fun e w' => ∃ v0_ : Value, e = .returned (v0_) ∧ Kd.R (Kd.int .i64) 3 w' w.heap.size (fun _ => True) v0_ r ∧ Below w.heap.size w w' := by
 have hu29 := Try.underlying29
 have HR0_1 := Aside0.mk hr0_1
 have HC0_1 := Aside0.mk hc0_1
 clear hr0_1 hc0_1
 have HB := Aside0.mk (Below.refl w.heap.size w)
 have H : (if 0 ≤ a0_0 then (if (a0_0 : Int).toNat ≤ 35184372088832 then ((some (List.replicate (a0_0 : Int).toNat 0 : List Int)).bind fun y560 => (if 0 ≤ a1 then (if a1 < (y560.length : Int) then (some (y560.set (a1 : Int).toNat a2)) else (none)) else (none))) else (none)) else (none)) = some r := h
 clear h
 by_cases c4 : 0 ≤ a0_0
 ·rw [if_pos c4] at H
  have c4b0 := eq_true c4
  have c4b1 : decide (0 ≤ a0_0) = true := decide_eq_true c4
  clear c4
  by_cases c5 : (a0_0 : Int).toNat ≤ 35184372088832
  ·rw [if_pos c5] at H
   have c5b0 := eq_true c5
   have c5b1 : decide ((a0_0 : Int).toNat ≤ 35184372088832) = true := decide_eq_true c5
   clear c5
   obtain ⟨y560, hy560⟩ : ∃ y_ : List Int, y_ = (List.replicate (a0_0 : Int).toNat 0) := ⟨_, rfl⟩
   replace H : (if 0 ≤ a1 then (if a1 < (y560.length : Int) then (some (y560.set (a1 : Int).toNat a2)) else (none)) else (none)) = some r := by first | (rw [hy560]; with_reducible exact H) | (have H2_ := (Option.bind_some _ _).symm.trans H; rw [hy560]; with_reducible exact H2_) | (have H2_ := (Option.bind_some _ _).symm.trans H; with_reducible exact H2_) | with_reducible exact H | (rw [hy560]; exact H) | exact H
   have Ny560 := Aside0.mk hy560
   clear hy560
   by_cases c6 : 0 ≤ a1
   ·rw [if_pos c6] at H
    have c6b0 : decide (0 ≤ a1) = true := decide_eq_true c6
    clear c6
    by_cases c7 : a1 < (y560.length : Int)
    ·rw [if_pos c7] at H
     have c7b0 : decide (a1 < (y560.length : Int)) = true := decide_eq_true c7
     clear c7
     obtain ⟨y563, hy563⟩ : ∃ y_ : List Int, y_ = (y560.set (a1 : Int).toNat a2) := ⟨_, rfl⟩
     replace H : (some y563) = some r := by first | (rw [hy563]; with_reducible exact H) | (have H2_ := (Option.bind_some _ _).symm.trans H; rw [hy563]; with_reducible exact H2_) | (have H2_ := (Option.bind_some _ _).symm.trans H; with_reducible exact H2_) | with_reducible exact H | (rw [hy563]; exact H) | exact H
     have Ny563 := Aside0.mk hy563
     clear hy563
     obtain rfl := Option.some.inj H
     go_enter Try.func69, Try.ntmps69
     go_wp2_with (first | ((with_reducible refine gate_dst (N := 3) rfl ?_); refine box_event ?hg (N := 3) ?hd (cs := #[.int .i64 a0_0, .slice A0_1 l0_1.length c0_1]) (t := 29) ?hr ?_; (case hd => rfl); (case hg => rfl); (case hr => first | (go_simp; done) | (go_simp; rfl)); intro gb559 hg w9 hbox hb; have BK559 := Aside0.mk (hbox); have GW559 := Aside0.mk ((by rw [hg]; exact (below_size (Lz HB)) : w.heap.size ≤ gb559)); have GE559 := Aside0.mk ((by rw [hg]; exact (below_size (Lz HB)) : w.heap.size ≤ gb559)); replace HB := Aside0.mk (below_step (Lz HB) hb); clear hb hbox hg; have hcz10_0 : w9.cell? ⟨gb559, 0, none⟩ = some (.int .i64 a0_0) := (blk_cell BK559.out 0).trans rfl; have hcz10_1 : w9.cell? ⟨gb559, 1, none⟩ = some (.slice A0_1 l0_1.length c0_1) := (blk_cell BK559.out 1).trans rfl; have hfz10_0 := blk_frozen BK559.out 0; have hfz10_1 := blk_frozen BK559.out 1) | ((with_reducible refine gate_dst (N := 10) rfl ?_); refine Kd.R_make (Kd.int .i64) _ 3 rfl (N := 10) rfl 43 _ _ rfl a0_0 rfl rfl Try.underlying43 (.int .i64 0) 8 info3 rfl (by decide) (by omega) 0 (ok := fun _ => True) (okp := fun _ => True) rfl (fun _ hk => hk) trivial (of_decide_eq_true (by first | (with_reducible assumption) | assumption)) (Nat.le_trans (Nat.mul_le_mul_right _ (of_decide_eq_true (by first | (with_reducible assumption) | assumption) : a0_0.toNat ≤ 35184372088832)) (by omega)) (Below.refl _ _) (Nat.le_refl _) ?_; intro v561 w11 ho12 hb hg_ hnew_; clear hg_ hnew_; (first | rw [← Ny560.out] at ho12 | (simp only [Int.reduceToNat] at ho12; rw [← Ny560.out] at ho12)); have HO562 := Aside0.mk (Kd.R_lower ho12 (below_size (by exact Lz1 HB GE559))); replace BK559 := Aside0.mk (blk_below (g := gb559) (o := .cells #[.int .i64 a0_0, .slice A0_1 l0_1.length c0_1] 29 (0, 0)) (Bz BK559) hb); replace HB := Aside0.mk (below_step (by exact Lz1 HB GE559) hb); clear hb ho12; have p8 : 0 ≤ (a1 : Int) := of_decide_eq_true (by first | (with_reducible assumption) | assumption); have q8 : (a1 : Int) < ((y560.length : Int) : Int) := of_decide_eq_true (by first | (with_reducible assumption) | assumption); obtain ⟨go8, co8, eo8, gb8, gl8, cl8, HG8⟩ := Kd.R_form HO562.out (by omega); (first | cases eo8 | (injection eo8 with ea_ en_ ec_; (first | subst ea_ | (injection ea_ with ea_; subst ea_)); subst ec_; clear en_)); have GB8 := Aside0.mk gb8; have GG8 := Aside0.mk HG8; clear gb8 gl8 HG8; obtain ⟨hx8_0, hf8_0⟩ := Kd.R_celln 0 HO562.out (a1 : Int) p8 q8; replace p8 := eq_true p8; replace q8 := eq_true q8; obtain ⟨hy13_, hz13_⟩ := Kd.R_celln 0 HO562.out (a1 : Int) (of_decide_eq_true (by first | (with_reducible assumption) | assumption)) (of_decide_eq_true (by first | (with_reducible assumption) | assumption)); have HP13 := Kd.R_putg HO562.out (a1 : Int) a2) | ((with_reducible refine gate_store (t := 3) (p := 14) rfl ?_); refine store_event (t := 3) (p := 14) (v := ?vo_w14) (w1 := (w11.setCell ⟨go8, (a1 : Int).toNat, none⟩ (.int .i64 a2))) ?hg ?ho ?hn ?hr ?_; (case ho => rfl); (case hg => rfl); (case hn => rfl); (case hr => first | (go_simp; done) | (go_simp; rfl)); intro w14 hw; have hg : w11.grownBy w14 (some go8) := (by rw [hw]; exact HP13.2); have hp_ : Kd.R (Kd.int .i64) 3 w14 w.heap.size (fun _ => True) (.slice (some ⟨go8, 0, none⟩) y560.length co8) y563 := (by rw [hw, Ny563.out]; exact HP13.1); clear HP13; replace BK559 := Aside0.mk (blk_grown (g := gb559) (o := .cells #[.int .i64 a0_0, .slice A0_1 l0_1.length c0_1] 29 (0, 0)) (Bz BK559) hg (Kd.R_ne HO562.out BK559.out (by decide))); replace HO562 := Aside0.mk (hp_); replace HB := Aside0.mk ((by rw [hw]; exact below_set (HB.out) GB8.out : Below w.heap.size w w14)); clear hg hw hp_))
     go_ret
     exact ⟨_, by first | rfl | (simp [errW_none, errW_some] <;> rfl) | (simp [*, errW_none, errW_some] <;> rfl), by exact Rz HO562, by exact Lz1 HB GE559⟩
    rw [if_neg c7] at H
    exact absurd H (by simp)
   rw [if_neg c6] at H
   exact absurd H (by simp)
  rw [if_neg c5] at H
  exact absurd H (by simp)
 rw [if_neg c4] at H
 exact absurd H (by simp)

/-! ### impl_OneAt: function 49 -/
def impl_OneAt.f (k : Nat) (a0_0 : Int) (l0_1 : List (S57)) (a1 : Int) (a2 : Int) : Option (List Int × Bool) := (impl_isVertex.f k a0_0 l0_1 a1).bind fun t565 => (if t565 = true then ((impl_within.f a2 (-60) 60).bind fun t566 => (if t566 = true then ((impl_oneAt.f a0_0 l0_1 a1 a2).bind fun t567 => (some (t567, true))) else (some (([] : List Int), false)))) else (some (([] : List Int), false)))
set_option maxHeartbeats 8000000 in
set_option maxRecDepth 100000 in
theorem impl_OneAt.calls (k : Nat) (a0_0 : Int) (A0_1 : Option Addr) (c0_1 : Nat) (l0_1 : List (S57)) (a1 : Int) (a2 : Int) (r1 : List Int) (r2 : Bool) (w : World) (hr0_1 : Kd.C k57 w A0_1 l0_1.length l0_1) (hc0_1 : l0_1.length ≤ c0_1) (h : impl_OneAt.f k a0_0 l0_1 a1 a2 = some (r1, r2)) :
  Calls Try.prog 49 #[.agg #[.int .i64 a0_0, .slice A0_1 l0_1.length c0_1], .int .i64 a1, .int .i64 a2] w fun e w' => ∃ v0_ : Value, e = .returned (.tuple #[v0_, .bool r2]) ∧ Kd.R (Kd.int .i64) 3 w' w.heap.size (fun _ => True) v0_ r1 ∧ Below w.heap.size w w' := by
 have hu29 := Try.underlying29
 have HR0_1 := Aside0.mk hr0_1
 have HC0_1 := Aside0.mk hc0_1
 clear hr0_1 hc0_1
 have HB := Aside0.mk (Below.refl w.heap.size w)
 have H : ((impl_isVertex.f k a0_0 l0_1 a1).bind fun t565 => (if t565 = true then ((impl_within.f a2 (-60) 60).bind fun t566 => (if t566 = true then ((impl_oneAt.f a0_0 l0_1 a1 a2).bind fun t567 => (some (t567, true))) else (some (([] : List Int), false)))) else (some (([] : List Int), false)))) = some (r1, r2) := h
 clear h
 replace H := Option.bind_eq_some_iff.mp H
 obtain ⟨t565, A40, H⟩ := H
 replace H : (if t565 = true then ((impl_within.f a2 (-60) 60).bind fun t566 => (if t566 = true then ((impl_oneAt.f a0_0 l0_1 a1 a2).bind fun t567 => (some (t567, true))) else (some (([] : List Int), false)))) else (some (([] : List Int), false))) = some (r1, r2) := H
 have A4 := Aside0.mk A40
 clear A40
 by_cases c5 : t565 = true
 ·subst c5
  have H1 : ((impl_within.f a2 (-60) 60).bind fun t566 => (if t566 = true then ((impl_oneAt.f a0_0 l0_1 a1 a2).bind fun t567 => (some (t567, true))) else (some (([] : List Int), false)))) = some (r1, r2) := by rw [if_pos rfl] at H; exact H
  clear H
  have H := H1
  clear H1
  replace H := Option.bind_eq_some_iff.mp H
  obtain ⟨t566, A60, H⟩ := H
  replace H : (if t566 = true then ((impl_oneAt.f a0_0 l0_1 a1 a2).bind fun t567 => (some (t567, true))) else (some (([] : List Int), false))) = some (r1, r2) := H
  have A6 := Aside0.mk A60
  clear A60
  by_cases c7 : t566 = true
  ·subst c7
   have H1 : ((impl_oneAt.f a0_0 l0_1 a1 a2).bind fun t567 => (some (t567, true))) = some (r1, r2) := by rw [if_pos rfl] at H; exact H
   clear H
   have H := H1
   clear H1
   replace H := Option.bind_eq_some_iff.mp H
   obtain ⟨t567, A80, H⟩ := H
   replace H : (some (t567, true)) = some (r1, r2) := H
   have A8 := Aside0.mk A80
   clear A80
   simp only [Option.some.injEq, Prod.mk.injEq] at H
   obtain ⟨rfl, rfl⟩ := H
   go_enter Try.func49, Try.ntmps49
   go_wp2_with (first | ((with_reducible refine gate_dst (N := 3) rfl ?_); refine box_event ?hg (N := 3) ?hd (cs := #[.int .i64 a0_0, .slice A0_1 l0_1.length c0_1]) (t := 29) ?hr ?_; (case hd => rfl); (case hg => rfl); (case hr => first | (go_simp; done) | (go_simp; rfl)); intro gb564 hg w9 hbox hb; have BK564 := Aside0.mk (hbox); have GW564 := Aside0.mk ((by rw [hg]; exact (below_size (Lz HB)) : w.heap.size ≤ gb564)); have GE564 := Aside0.mk ((by rw [hg]; exact (below_size (Lz HB)) : w.heap.size ≤ gb564)); replace HB := Aside0.mk (below_step (Lz HB) hb); clear hb hbox hg; have hcz10_0 : w9.cell? ⟨gb564, 0, none⟩ = some (.int .i64 a0_0) := (blk_cell BK564.out 0).trans rfl; have hcz10_1 : w9.cell? ⟨gb564, 1, none⟩ = some (.slice A0_1 l0_1.length c0_1) := (blk_cell BK564.out 1).trans rfl; have hfz10_0 := blk_frozen BK564.out 0; have hfz10_1 := blk_frozen BK564.out 1) | ((with_reducible refine gate_callee (f := 68) rfl ?_); refine goesM_ (some 10) rfl rfl Try.func68 (by kernel_rfl) rfl #[.agg #[.int .i64 a0_0, .slice A0_1 l0_1.length c0_1], .int .i64 a1] rfl ?_; (with_reducible refine (impl_isVertex.calls k a0_0 _ _ l0_1 a1 true _ ?side1 ?side2 A4.out).mono ?_); (case side1 => exact Cz ((Kd.C_below HR0_1.out HB.out))); (case side2 => exact HC0_1.out); rintro e w11 ⟨rfl, hb⟩; refine ⟨_, rfl, ?_⟩; replace BK564 := Aside0.mk (blk_below (g := gb564) (o := .cells #[.int .i64 a0_0, .slice A0_1 l0_1.length c0_1] 29 (0, 0)) (Bz BK564) hb); replace HB := Aside0.mk (below_step (by exact Lz1 HB GE564) hb); (try clear hb); (try clear hb2); (try clear hk); (try clear hi)) | (go_at_call 56; (with_reducible refine (impl_within.calls a2 (-60) 60 true _ A6.out).mono ?_); rintro e w' ⟨rfl, ⟨nd, rfl⟩⟩; have hcz12_0 : w11.cell? ⟨gb564, 0, none⟩ = some (.int .i64 a0_0) := (blk_cell BK564.out 0).trans rfl; have hcz12_1 : w11.cell? ⟨gb564, 1, none⟩ = some (.slice A0_1 l0_1.length c0_1) := (blk_cell BK564.out 1).trans rfl; have hfz12_0 := blk_frozen BK564.out 0; have hfz12_1 := blk_frozen BK564.out 1) | ((with_reducible refine gate_callee (f := 69) rfl ?_); refine goesM_ (some 20) rfl rfl Try.func69 (by kernel_rfl) rfl #[.agg #[.int .i64 a0_0, .slice A0_1 l0_1.length c0_1], .int .i64 a1, .int .i64 a2] rfl ?_; (with_reducible refine (impl_oneAt.calls a0_0 _ _ l0_1 a1 a2 t567 _ ?side1 ?side2 A8.out).mono ?_); (case side1 => repeat (first | exact (Kd.C_below HR0_1.out (by exact Lz1 HB GE564)) | (with_reducible refine Kd.C_alloc ?_ _) | (with_reducible refine Kd.C_drewN ?_ _) | (with_reducible refine Kd.C_drew ?_))); (case side2 => exact HC0_1.out); rintro e w13 ⟨v568, rfl, ho0, hb⟩; refine ⟨_, rfl, ?_⟩; have HO569 := Aside0.mk (Kd.R_lower ho0 (below_size (by exact Lz1 HB GE564))); replace BK564 := Aside0.mk (blk_below (g := gb564) (o := .cells #[.int .i64 a0_0, .slice A0_1 l0_1.length c0_1] 29 (0, 0)) (Bz BK564) hb); replace HB := Aside0.mk (below_step (by exact Lz1 HB GE564) hb); (try clear hb); (try clear ho0)))
   go_ret2
   exact ⟨_, by first | rfl | (simp [errW_none, errW_some] <;> rfl) | (simp [*, errW_none, errW_some] <;> rfl), by exact Rz HO569, by exact Lz1 HB GE564⟩
  replace c7 := Bool.eq_false_iff.mpr c7
  subst c7
  have H1 : (some (([] : List Int), false)) = some (r1, r2) := by rw [if_neg (show ¬ (false = true) by decide)] at H; exact H
  clear H
  have H := H1
  clear H1
  simp only [Option.some.injEq, Prod.mk.injEq] at H
  obtain ⟨rfl, rfl⟩ := H
  go_enter Try.func49, Try.ntmps49
  go_wp2_with (first | ((with_reducible refine gate_dst (N := 3) rfl ?_); refine box_event ?hg (N := 3) ?hd (cs := #[.int .i64 a0_0, .slice A0_1 l0_1.length c0_1]) (t := 29) ?hr ?_; (case hd => rfl); (case hg => rfl); (case hr => first | (go_simp; done) | (go_simp; rfl)); intro gb564 hg w14 hbox hb; have BK564 := Aside0.mk (hbox); have GW564 := Aside0.mk ((by rw [hg]; exact (below_size (Lz HB)) : w.heap.size ≤ gb564)); have GE564 := Aside0.mk ((by rw [hg]; exact (below_size (Lz HB)) : w.heap.size ≤ gb564)); replace HB := Aside0.mk (below_step (Lz HB) hb); clear hb hbox hg; have hcz15_0 : w14.cell? ⟨gb564, 0, none⟩ = some (.int .i64 a0_0) := (blk_cell BK564.out 0).trans rfl; have hcz15_1 : w14.cell? ⟨gb564, 1, none⟩ = some (.slice A0_1 l0_1.length c0_1) := (blk_cell BK564.out 1).trans rfl; have hfz15_0 := blk_frozen BK564.out 0; have hfz15_1 := blk_frozen BK564.out 1) | ((with_reducible refine gate_callee (f := 68) rfl ?_); refine goesM_ (some 10) rfl rfl Try.func68 (by kernel_rfl) rfl #[.agg #[.int .i64 a0_0, .slice A0_1 l0_1.length c0_1], .int .i64 a1] rfl ?_; (with_reducible refine (impl_isVertex.calls k a0_0 _ _ l0_1 a1 true _ ?side1 ?side2 A4.out).mono ?_); (case side1 => exact Cz ((Kd.C_below HR0_1.out HB.out))); (case side2 => exact HC0_1.out); rintro e w16 ⟨rfl, hb⟩; refine ⟨_, rfl, ?_⟩; replace BK564 := Aside0.mk (blk_below (g := gb564) (o := .cells #[.int .i64 a0_0, .slice A0_1 l0_1.length c0_1] 29 (0, 0)) (Bz BK564) hb); replace HB := Aside0.mk (below_step (by exact Lz1 HB GE564) hb); (try clear hb); (try clear hb2); (try clear hk); (try clear hi)) | (go_at_call 56; (with_reducible refine (impl_within.calls a2 (-60) 60 false _ A6.out).mono ?_); rintro e w' ⟨rfl, ⟨nd, rfl⟩⟩))
  go_ret2
  exact ⟨_, by first | rfl | (simp [errW_none, errW_some] <;> rfl) | (simp [*, errW_none, errW_some] <;> rfl), by first | exact Kd.R_nil _ _ _ _ _ | exact Kd.N_nil _ _ _ _ _ | exact Kd.V_nil _ _ _ _ _ | exact Kd.Q_nil _ _ _ _ _ | exact Kd.S_nil _ _ _ _ _, by exact Lz1 HB GE564⟩
 replace c5 := Bool.eq_false_iff.mpr c5
 subst c5
 have H1 : (some (([] : List Int), false)) = some (r1, r2) := by rw [if_neg (show ¬ (false = true) by decide)] at H; exact H
 clear H
 have H := H1
 clear H1
 simp only [Option.some.injEq, Prod.mk.injEq] at H
 obtain ⟨rfl, rfl⟩ := H
 go_enter Try.func49, Try.ntmps49
 go_wp2_with (first | ((with_reducible refine gate_dst (N := 3) rfl ?_); refine box_event ?hg (N := 3) ?hd (cs := #[.int .i64 a0_0, .slice A0_1 l0_1.length c0_1]) (t := 29) ?hr ?_; (case hd => rfl); (case hg => rfl); (case hr => first | (go_simp; done) | (go_simp; rfl)); intro gb564 hg w17 hbox hb; have BK564 := Aside0.mk (hbox); have GW564 := Aside0.mk ((by rw [hg]; exact (below_size (Lz HB)) : w.heap.size ≤ gb564)); have GE564 := Aside0.mk ((by rw [hg]; exact (below_size (Lz HB)) : w.heap.size ≤ gb564)); replace HB := Aside0.mk (below_step (Lz HB) hb); clear hb hbox hg; have hcz18_0 : w17.cell? ⟨gb564, 0, none⟩ = some (.int .i64 a0_0) := (blk_cell BK564.out 0).trans rfl; have hcz18_1 : w17.cell? ⟨gb564, 1, none⟩ = some (.slice A0_1 l0_1.length c0_1) := (blk_cell BK564.out 1).trans rfl; have hfz18_0 := blk_frozen BK564.out 0; have hfz18_1 := blk_frozen BK564.out 1) | ((with_reducible refine gate_callee (f := 68) rfl ?_); refine goesM_ (some 10) rfl rfl Try.func68 (by kernel_rfl) rfl #[.agg #[.int .i64 a0_0, .slice A0_1 l0_1.length c0_1], .int .i64 a1] rfl ?_; (with_reducible refine (impl_isVertex.calls k a0_0 _ _ l0_1 a1 false _ ?side1 ?side2 A4.out).mono ?_); (case side1 => exact Cz ((Kd.C_below HR0_1.out HB.out))); (case side2 => exact HC0_1.out); rintro e w19 ⟨rfl, hb⟩; refine ⟨_, rfl, ?_⟩; replace BK564 := Aside0.mk (blk_below (g := gb564) (o := .cells #[.int .i64 a0_0, .slice A0_1 l0_1.length c0_1] 29 (0, 0)) (Bz BK564) hb); replace HB := Aside0.mk (below_step (by exact Lz1 HB GE564) hb); (try clear hb); (try clear hb2); (try clear hk); (try clear hi)))
 go_ret2
 exact ⟨_, by first | rfl | (simp [errW_none, errW_some] <;> rfl) | (simp [*, errW_none, errW_some] <;> rfl), by first | exact Kd.R_nil _ _ _ _ _ | exact Kd.N_nil _ _ _ _ _ | exact Kd.V_nil _ _ _ _ _ | exact Kd.Q_nil _ _ _ _ _ | exact Kd.S_nil _ _ _ _ _, by exact Lz1 HB GE564⟩

/-! ### laws_markEdgeS: function 70 -/
def laws_markEdgeS.l0 : Nat → List (S57) → Int → Int → Option (Int × (List (S57)))
 | 0, _, _, _ => none
 | k + 1, x0, x1, x5 => if x5 < (x0.length : Int) then (if 0 ≤ x5 then ((some (x0.set (x5 : Int).toNat (⟨x1, (rd_T57 x0 x5).f1⟩ : S57) : List (S57))).bind fun y570 => (laws_markEdgeS.l0 k (y570.set (x5 : Int).toNat (⟨(rd_T57 y570 x5).f0, wrap64 (x1 + 1)⟩ : S57)) (wrap64 ((wrap64 (x1 + 1)) + 1)) (wrap64 (x5 + 1)))) else (none)) else (some (x1, x0))
def laws_markEdgeS.f (k : Nat) (l0 : List (S57)) (a1 : Int) : Option (Int × (List (S57))) := laws_markEdgeS.l0 k l0 a1 0
set_option maxHeartbeats 8000000 in
set_option maxRecDepth 100000 in
theorem laws_markEdgeS.calls (k : Nat) (P0_ : Nat → Prop) (u9000_ : Value) (l0 : List (S57)) (a1 : Int) (r1 : Int) (r2 : List (S57)) (w0 w : World) (hB : Below w0.heap.size w0 w) (ho0 : Kd.R k57 57 w w0.heap.size P0_ u9000_ l0) (h : laws_markEdgeS.f k l0 a1 = some (r1, r2)) :
  Calls Try.prog 70 #[u9000_, .int .i64 a1] w fun e w' => e = .returned (.int .i64 r1) ∧ Kd.R k57 57 w' w0.heap.size (fun k_ => (P0_ k_ ∨ w.heap.size ≤ k_)) u9000_ r2 ∧ Below w0.heap.size w0 w' ∧ Kept w w' (fun k_ => P0_ k_) := by
 have HO0 := Aside0.mk (show Kd.R k57 57 w w0.heap.size (fun k_ => (P0_ k_ ∨ w.heap.size ≤ k_)) u9000_ l0 from Kd.R_mono ho0 (fun k_ hk => (.inl hk)))
 have HK := Aside0.mk (Kept.refl w (fun k_ => P0_ k_))
 have HW0 := Aside0.mk hB.size
 have HB := Aside0.mk hB
 clear hB
 have H : (laws_markEdgeS.l0 k l0 a1 0) = some (r1, r2) := h
 clear h
 have H' := Aside0.mk H
 clear H
 go_enter Try.func70, Try.ntmps70
 go_wp2
 go_loopg [1, 5] k (fun kq v1 v5 w' => ∃ (x0_1 : List (S57)) (x1_1 : Int) (x5_1 : Int), v1 = .int .i64 x1_1 ∧ v5 = .int .i64 x5_1 ∧ Aside0 (laws_markEdgeS.l0 kq x0_1 x1_1 x5_1 = some (r1, r2)) ∧ Aside0 (kq ≤ k) ∧ Aside0 (Kd.R k57 57 w' w0.heap.size (fun k_ => (P0_ k_ ∨ w.heap.size ≤ k_)) u9000_ x0_1) ∧ Aside0 (Kept w w' (fun k_ => P0_ k_)) ∧ Aside0 (Below w0.heap.size w0 w'))
 case atStart => exact ⟨(l0), (a1), (0), (by first | rfl | (simp; done) | (simp [*]; done)), (by first | rfl | (simp; done) | (simp [*]; done)), H', ⟨Nat.le_refl _⟩, ⟨by exact Rz HO0⟩, ⟨by repeat (first | (with_reducible first | exact HK.out | apply Kept.alloc | apply Kept.drewN | apply Kept.drew) | exact HK.out)⟩, ⟨by exact Lz HB⟩⟩
 case round =>
  clear H'
  obtain ⟨x0_1, x1_1, x5_1, rfl, rfl, HA, HK1, HO_0, HK, HB⟩ := hrel
  cases gk with
  | zero => exact absurd HA.out (by simp [laws_markEdgeS.l0])
  | succ k1 =>
   have H := HA.out
   clear HA
   simp only [laws_markEdgeS.l0] at H
   by_cases c3 : x5_1 < (x0_1.length : Int)
   ·rw [if_pos c3] at H
    have c3b0 : decide (x5_1 < (x0_1.length : Int)) = true := decide_eq_true c3
    clear c3
    by_cases c4 : 0 ≤ x5_1
    ·rw [if_pos c4] at H
     have c4b0 : decide (0 ≤ x5_1) = true := decide_eq_true c4
     clear c4
     obtain ⟨y570, hy570⟩ : ∃ y_ : List (S57), y_ = (x0_1.set (x5_1 : Int).toNat (⟨x1_1, (rd_T57 x0_1 x5_1).f1⟩ : S57)) := ⟨_, rfl⟩
     replace H : (laws_markEdgeS.l0 k1 (y570.set (x5_1 : Int).toNat (⟨(rd_T57 y570 x5_1).f0, wrap64 (x1_1 + 1)⟩ : S57)) (wrap64 ((wrap64 (x1_1 + 1)) + 1)) (wrap64 (x5_1 + 1))) = some (r1, r2) := by first | (rw [hy570]; with_reducible exact H) | (have H2_ := (Option.bind_some _ _).symm.trans H; rw [hy570]; with_reducible exact H2_) | (have H2_ := (Option.bind_some _ _).symm.trans H; with_reducible exact H2_) | with_reducible exact H | (rw [hy570]; exact H) | exact H
     have Ny570 := Aside0.mk hy570
     clear hy570
     obtain ⟨y571, hy571⟩ : ∃ y_ : List (S57), y_ = (y570.set (x5_1 : Int).toNat (⟨(rd_T57 y570 x5_1).f0, wrap64 (x1_1 + 1)⟩ : S57)) := ⟨_, rfl⟩
     replace H : (laws_markEdgeS.l0 k1 y571 (wrap64 ((wrap64 (x1_1 + 1)) + 1)) (wrap64 (x5_1 + 1))) = some (r1, r2) := by first | (rw [hy571]; with_reducible exact H) | (have H2_ := (Option.bind_some _ _).symm.trans H; rw [hy571]; with_reducible exact H2_) | (have H2_ := (Option.bind_some _ _).symm.trans H; with_reducible exact H2_) | with_reducible exact H | (rw [hy571]; exact H) | exact H
     have Ny571 := Aside0.mk hy571
     clear hy571
     have H' := Aside0.mk H
     clear H
     obtain ⟨Ao7, co7, eo7⟩ := Kd.R_slice HO_0.out
     subst eo7
     have p5 : 0 ≤ (x5_1 : Int) := of_decide_eq_true (by first | (with_reducible assumption) | assumption)
     have q5 : (x5_1 : Int) < ((x0_1.length : Int) : Int) := of_decide_eq_true (by first | (with_reducible assumption) | assumption)
     obtain ⟨go5, co5, eo5, gb5, gl5, cl5, HG5⟩ := Kd.R_form HO_0.out (by omega)
     (first | cases eo5 | (injection eo5 with ea_ en_ ec_; (first | subst ea_ | (injection ea_ with ea_; subst ea_)); subst ec_; clear en_))
     have GB5 := Aside0.mk gb5
     have GG5 := Aside0.mk HG5
     clear gb5 gl5 HG5
     have HMgo5 := Aside0.mk (show (P0_ go5 ∨ w.heap.size ≤ go5) from (HO_0.out.1 _ rfl))
     obtain ⟨ce5, hcl5, hM5, hcc5, hfr5⟩ := Kd.R_elem HO_0.out z57 (x5_1 : Int) p5 q5
     obtain rfl := k57_openM hM5
     have hx5_0 : wr.cell? ⟨go5, (x5_1 : Int).toNat * 2, none⟩ = some (.int .i64 ((rd_T57 x0_1 x5_1).f0)) := hcc5 0 _ rfl
     have hx5_1 : wr.cell? ⟨go5, (x5_1 : Int).toNat * 2 + 1, none⟩ = some (.int .i64 ((rd_T57 x0_1 x5_1).f1)) := hcc5 1 _ rfl
     have hf5_0 : wr.frozen? ⟨go5, (x5_1 : Int).toNat * 2, none⟩ = false := hfr5 0
     have hf5_1 : wr.frozen? ⟨go5, (x5_1 : Int).toNat * 2 + 1, none⟩ = false := hfr5 1
     clear hcl5 hcc5 hfr5; (try clear hM5)
     replace p5 := eq_true p5
     replace q5 := eq_true q5
     have HX8 := Aside0.mk (show Kd.R k57 57 wr w0.heap.size (fun k_ => (P0_ k_ ∨ w.heap.size ≤ k_)) (.slice (some ⟨go5, 0, none⟩) x0_1.length co7) x0_1 from (Rz HO_0))
     obtain ⟨ce8, hcl8, hM8, hcc8, hfr8⟩ := Kd.R_elem HX8.out z57 (x5_1 : Int) (of_decide_eq_true (by first | (with_reducible assumption) | assumption)) (by have h_ : (x5_1 : Int) < ((x0_1.length : Int) : Int) := of_decide_eq_true (by first | (with_reducible assumption) | assumption); first | exact h_ | (have e_ := (Kd.R_reads' HO_0.out).1; omega) | simpa using h_)
     obtain rfl := k57_openM hM8
     have HP8 := Kd.R_seg HX8.out (x5_1 : Int) (of_decide_eq_true (by first | (with_reducible assumption) | assumption)) (by have h_ : (x5_1 : Int) < ((x0_1.length : Int) : Int) := of_decide_eq_true (by first | (with_reducible assumption) | assumption); first | exact h_ | (have e_ := (Kd.R_reads' HO_0.out).1; omega) | simpa using h_) (seg := [.int .i64 x1_1]) (j := 0) hcl8 hcc8 (show 1 ≤ 2 from by decide) (x' := (⟨x1_1, (rd_T57 x0_1 x5_1).f1⟩ : S57)) (k57_mkM _ _ _ (⟨x1_1, (rd_T57 x0_1 x5_1).f1⟩ : S57) ) (fun _ hk => hk)
     have hx8_0 := hcc8 0 _ rfl
     (try simp only [show (k57).sz = 2 from rfl, Nat.mul_one, Nat.add_zero] at hx8_0)
     have hf8_0 := hfr8 0
     (try simp only [show (k57).sz = 2 from rfl, Nat.mul_one, Nat.add_zero] at hf8_0)
     clear hcl8 hcc8 hfr8; (try clear hM8)
     go_wp2_with (first | ((with_reducible refine gate_store (t := 3) (p := 16) rfl ?_); refine store_event (t := 3) (p := 16) (v := ?vo_w9) (w1 := (wr.setCell ⟨go5, (x5_1 : Int).toNat * 2, none⟩ (.int .i64 x1_1))) ?hg ?ho ?hn ?hr ?_; (case ho => rfl); (case hg => rfl); (case hn => rfl); (case hr => first | (go_simp; done) | (go_simp; rfl)); intro w9 hw; have hg : wr.grownBy w9 (some go5) := (by rw [hw]; exact HP8.2); have hp_ : Kd.R k57 57 w9 w0.heap.size (fun k_ => (P0_ k_ ∨ w.heap.size ≤ k_)) (.slice (some ⟨go5, 0, none⟩) x0_1.length co7) y570 := (by rw [hw, Ny570.out]; exact HP8.1); clear HP8; replace HB := Aside0.mk ((by rw [hw]; exact below_set (HB.out) GB5.out : Below w0.heap.size w0 w9)); replace HK := Aside0.mk (Kept.of_grown (S := (fun k_ => P0_ k_)) hg (by repeat (first | (with_reducible first | exact HK.out | apply Kept.alloc | apply Kept.drewN | apply Kept.drew) | exact HK.out)) (fun k_ e_ => (HO_0.out.1 k_ e_))); replace HO_0 := Aside0.mk (hp_); clear hg hw hp_; have p6 : 0 ≤ (x5_1 : Int) := of_decide_eq_true (by first | (with_reducible assumption) | assumption); have q6 : (x5_1 : Int) < ((x0_1.length : Int) : Int) := of_decide_eq_true (by first | (with_reducible assumption) | assumption); obtain ⟨ce6, hcl6, hM6, hcc6, hfr6⟩ := Kd.R_elem HO_0.out z57 (x5_1 : Int) p6 q6; obtain rfl := k57_openM hM6; have hx6_0 : w9.cell? ⟨go5, (x5_1 : Int).toNat * 2, none⟩ = some (.int .i64 ((rd_T57 y570 x5_1).f0)) := hcc6 0 _ rfl; have hx6_1 : w9.cell? ⟨go5, (x5_1 : Int).toNat * 2 + 1, none⟩ = some (.int .i64 ((rd_T57 y570 x5_1).f1)) := hcc6 1 _ rfl; have hf6_0 : w9.frozen? ⟨go5, (x5_1 : Int).toNat * 2, none⟩ = false := hfr6 0; have hf6_1 : w9.frozen? ⟨go5, (x5_1 : Int).toNat * 2 + 1, none⟩ = false := hfr6 1; clear hcl6 hcc6 hfr6; (try clear hM6); replace p6 := eq_true p6; replace q6 := eq_true q6; have HX10 := Aside0.mk (show Kd.R k57 57 w9 w0.heap.size (fun k_ => (P0_ k_ ∨ w.heap.size ≤ k_)) (.slice (some ⟨go5, 0, none⟩) x0_1.length co7) y570 from (Rz HO_0)); obtain ⟨ce10, hcl10, hM10, hcc10, hfr10⟩ := Kd.R_elem HX10.out z57 (x5_1 : Int) (of_decide_eq_true (by first | (with_reducible assumption) | assumption)) (by have h_ : (x5_1 : Int) < ((x0_1.length : Int) : Int) := of_decide_eq_true (by first | (with_reducible assumption) | assumption); first | exact h_ | (have e_ := (Kd.R_reads' HO_0.out).1; omega) | simpa using h_); obtain rfl := k57_openM hM10; have HP10 := Kd.R_seg HX10.out (x5_1 : Int) (of_decide_eq_true (by first | (with_reducible assumption) | assumption)) (by have h_ : (x5_1 : Int) < ((x0_1.length : Int) : Int) := of_decide_eq_true (by first | (with_reducible assumption) | assumption); first | exact h_ | (have e_ := (Kd.R_reads' HO_0.out).1; omega) | simpa using h_) (seg := [.int .i64 (wrap64 (x1_1 + 1))]) (j := 1) hcl10 hcc10 (show 2 ≤ 2 from by decide) (x' := (⟨(rd_T57 y570 x5_1).f0, wrap64 (x1_1 + 1)⟩ : S57)) (k57_mkM _ _ _ (⟨(rd_T57 y570 x5_1).f0, wrap64 (x1_1 + 1)⟩ : S57) ) (fun _ hk => hk); have hx10_1 := hcc10 1 _ rfl; (try simp only [show (k57).sz = 2 from rfl, Nat.mul_one, Nat.add_zero] at hx10_1); have hf10_1 := hfr10 1; (try simp only [show (k57).sz = 2 from rfl, Nat.mul_one, Nat.add_zero] at hf10_1); clear hcl10 hcc10 hfr10; (try clear hM10)) | ((with_reducible refine gate_store (t := 3) (p := 23) rfl ?_); refine store_event (t := 3) (p := 23) (v := ?vo_w11) (w1 := (w9.setCell ⟨go5, (x5_1 : Int).toNat * 2 + 1, none⟩ (.int .i64 (wrap64 (x1_1 + 1))))) ?hg ?ho ?hn ?hr ?_; (case ho => rfl); (case hg => rfl); (case hn => rfl); (case hr => first | (go_simp; done) | (go_simp; rfl)); intro w11 hw; have hg : w9.grownBy w11 (some go5) := (by rw [hw]; exact HP10.2); have hp_ : Kd.R k57 57 w11 w0.heap.size (fun k_ => (P0_ k_ ∨ w.heap.size ≤ k_)) (.slice (some ⟨go5, 0, none⟩) x0_1.length co7) y571 := (by rw [hw, Ny571.out]; exact HP10.1); clear HP10; replace HB := Aside0.mk ((by rw [hw]; exact below_set (HB.out) GB5.out : Below w0.heap.size w0 w11)); replace HK := Aside0.mk (Kept.of_grown (S := (fun k_ => P0_ k_)) hg (by repeat (first | (with_reducible first | exact HK.out | apply Kept.alloc | apply Kept.drewN | apply Kept.drew) | exact HK.out)) (fun k_ e_ => (HO_0.out.1 k_ e_))); replace HO_0 := Aside0.mk (hp_); clear hg hw hp_))
     go_roundg k1
     case measure => have := HK1.out; omega
     case rel => exact ⟨(y571), (wrap64 ((wrap64 (x1_1 + 1)) + 1)), (wrap64 (x5_1 + 1)), (by first | rfl | (simp; done) | (simp [*]; done)), (by first | rfl | (simp; done) | (simp [*]; done)), H', ⟨by have := HK1.out; omega⟩, ⟨by exact Rz HO_0⟩, ⟨by repeat (first | (with_reducible first | exact HK.out | apply Kept.alloc | apply Kept.drewN | apply Kept.drew) | exact HK.out)⟩, ⟨by exact Lz HB⟩⟩
    rw [if_neg c4] at H
    exact absurd H (by simp)
   rw [if_neg c3] at H
   have c3b0 : decide (x5_1 < (x0_1.length : Int)) = false := decide_eq_false c3
   clear c3
   simp only [Option.some.injEq, Prod.mk.injEq] at H
   obtain ⟨rfl, rfl⟩ := H
   obtain ⟨Ao12, co12, eo12⟩ := Kd.R_slice HO_0.out
   subst eo12
   go_wp2
   go_ret
   exact ⟨by first | rfl | (simp [errW_none, errW_some] <;> rfl) | (simp [*, errW_none, errW_some] <;> rfl), by exact Rz HO_0, by exact Lz HB, by repeat (first | (with_reducible first | exact HK.out | apply Kept.alloc | apply Kept.drewN | apply Kept.drew) | exact HK.out)⟩

/-! ### laws_markGraph: function 50 -/
def laws_markGraph.f (k : Nat) (a0_0 : Int) (l0_1 : List (S57)) (a1 : Int) : Option (Int × (List (S57))) := (laws_markEdgeS.f k l0_1 a1).bind fun bt573 => (some (bt573.1, bt573.2))
set_option maxHeartbeats 8000000 in
set_option maxRecDepth 100000 in
theorem laws_markGraph.calls (k : Nat) (a0_0 : Int) (P0_1_ : Nat → Prop) (u9000_ : Value) (l0_1 : List (S57)) (a1 : Int) (r1 : Int) (r2 : List (S57)) (w0 w : World) (hB : Below w0.heap.size w0 w) (ho0_1 : Kd.R k57 57 w w0.heap.size P0_1_ u9000_ l0_1) (h : laws_markGraph.f k a0_0 l0_1 a1 = some (r1, r2)) :
  Calls Try.prog 50 #[.agg #[.int .i64 a0_0, u9000_], .int .i64 a1] w fun e w' => e = .returned (.int .i64 r1) ∧ Kd.R k57 57 w' w0.heap.size (fun k_ => (P0_1_ k_ ∨ w.heap.size ≤ k_)) u9000_ r2 ∧ Below w0.heap.size w0 w' ∧ Kept w w' (fun k_ => P0_1_ k_) := by
 have hu29 := Try.underlying29
 have HO0_1 := Aside0.mk (show Kd.R k57 57 w w0.heap.size (fun k_ => (P0_1_ k_ ∨ w.heap.size ≤ k_)) u9000_ l0_1 from Kd.R_mono ho0_1 (fun k_ hk => (.inl hk)))
 have HK := Aside0.mk (Kept.refl w (fun k_ => P0_1_ k_))
 have HW0 := Aside0.mk hB.size
 have HB := Aside0.mk hB
 clear hB
 have H : ((laws_markEdgeS.f k l0_1 a1).bind fun bt573 => (some (bt573.1, bt573.2))) = some (r1, r2) := h
 clear h
 replace H := Option.bind_eq_some_iff.mp H
 obtain ⟨⟨t573, t574⟩, A30, H⟩ := H
 replace H : (some (t573, t574)) = some (r1, r2) := H
 have A3 := Aside0.mk A30
 clear A30
 simp only [Option.some.injEq, Prod.mk.injEq] at H
 obtain ⟨rfl, rfl⟩ := H
 obtain ⟨Ao4, co4, eo4⟩ := Kd.R_slice HO0_1.out
 subst eo4
 go_enter Try.func50, Try.ntmps50
 go_wp2_with (first | ((with_reducible refine gate_dst (N := 2) rfl ?_); refine box_event ?hg (N := 2) ?hd (cs := #[.int .i64 a0_0, .slice Ao4 l0_1.length co4]) (t := 29) ?hr ?_; (case hd => rfl); (case hg => rfl); (case hr => first | (go_simp; done) | (go_simp; rfl)); intro gb572 hg w5 hbox hb; replace HO0_1 := Aside0.mk (Kd.R_below (Rz HO0_1) hb); have BK572 := Aside0.mk (hbox); have GW572 := Aside0.mk ((by rw [hg]; exact (by first | exact HK.out.1 | exact (show Kept w _ (fun k_ => P0_1_ k_) from by repeat (first | (with_reducible first | exact HK.out | apply Kept.alloc | apply Kept.drewN | apply Kept.drew) | exact HK.out)).1) : w.heap.size ≤ gb572)); replace HK := Aside0.mk (Kept.below (S := (fun k_ => P0_1_ k_)) (by repeat (first | (with_reducible first | exact HK.out | apply Kept.alloc | apply Kept.drewN | apply Kept.drew) | exact HK.out)) hb); have GE572 := Aside0.mk ((by rw [hg]; exact (below_size (Lz HB)) : w0.heap.size ≤ gb572)); replace HB := Aside0.mk (below_step (Lz HB) hb); clear hb hbox hg; have hcz6_0 : w5.cell? ⟨gb572, 0, none⟩ = some (.int .i64 a0_0) := (blk_cell BK572.out 0).trans rfl; have hcz6_1 : w5.cell? ⟨gb572, 1, none⟩ = some (.slice Ao4 l0_1.length co4) := (blk_cell BK572.out 1).trans rfl; have hfz6_0 := blk_frozen BK572.out 0; have hfz6_1 := blk_frozen BK572.out 1) | ((with_reducible refine gate_callee (f := 70) rfl ?_); refine goesM_ (some 8) rfl rfl Try.func70 (by kernel_rfl) rfl #[.slice Ao4 l0_1.length co4, .int .i64 a1] rfl ?_; (with_reducible refine (laws_markEdgeS.calls k (fun k_ => some k_ = (.slice Ao4 l0_1.length co4 : Value).ownBlock) (.slice Ao4 l0_1.length co4) l0_1 a1 t573 t574 w0 _ ?side1 ?side2 A3.out).mono ?_); (case side1 => exact Lz1 HB GE572); (case side2 => exact Kd.R_tight rfl HO0_1.out); rintro e w7 ⟨rfl, hy0, hb, hkp⟩; refine ⟨_, rfl, ?_⟩; replace BK572 := Aside0.mk (blk_kept (Bz BK572) hkp (fun hs_ => (fun e_ => (Kd.R_ne HO0_1.out BK572.out (by decide)) e_) hs_)); replace HK := Aside0.mk (Kept.then_ (S := (fun k_ => P0_1_ k_)) (by repeat (first | (with_reducible first | exact HK.out | apply Kept.alloc | apply Kept.drewN | apply Kept.drew | refine Kept.setCell ?_ (.inr GW572.out) _) | exact HK.out)) hkp (fun k_ hs_ => (fun e_ => (HO0_1.out.1 k_ e_.symm)) hs_)); replace HO0_1 := Aside0.mk (Kd.R_reok rfl hy0 (fun k_ e_ => HO0_1.out.1 k_ e_)); replace HB := Aside0.mk (hb); (try clear hb); (try clear hkp); (try clear hy0)))
 go_ret
 exact ⟨by first | rfl | (simp [errW_none, errW_some] <;> rfl) | (simp [*, errW_none, errW_some] <;> rfl), by exact Rz HO0_1, by exact Lz1 HB GE572, by repeat (first | (with_reducible first | exact HK.out | apply Kept.alloc | apply Kept.drewN | apply Kept.drew | refine Kept.setCell ?_ (.inr GW572.out) _) | exact HK.out)⟩

/-! ### laws_FnExactOneAt: function 14 -/
mutual
def laws_FnExactOneAt.j0 : Nat → Int → Int → Int → List (S73) → Option (Bool)
 | 0, _, _, _, _ => none
 | k + 1, x1, x2, x576000, x576001 => (laws_toGraph.f k x576000 x576001).bind fun bt577 => ((spec_OneAt.f k bt577.1 bt577.2 x1 x2).bind fun bt581 => ((laws_toGraph.f k x576000 x576001).bind fun bt585 => ((impl_OneAt.f k bt585.1 bt585.2 x1 x2).bind fun bt590 => ((laws_eqIntS.f k bt590.1 bt581.1).bind fun t594 => (if t594 = true then (laws_FnExactOneAt.j1 k x1 x2 bt581.1 bt581.2 bt590.1 bt590.2 (bt590.2 != bt581.2) x576000 x576001 bt585.1 bt585.2) else (laws_FnExactOneAt.j1 k x1 x2 bt581.1 bt581.2 bt590.1 bt590.2 true x576000 x576001 bt585.1 bt585.2))))))
def laws_FnExactOneAt.j1 : Nat → Int → Int → List Int → Bool → List Int → Bool → Bool → Int → List (S73) → Int → List (S57) → Option (Bool)
 | 0, _, _, _, _, _, _, _, _, _, _, _ => none
 | k + 1, x1, x2, x8, x9, x11, x12, x48, x576000, x576001, x590000, x590001 => if x48 = true then (some false) else (laws_FnExactOneAt.j2 k x1 x2 x8 x9 x11 x12 x576000 x576001 x590000 x590001)
def laws_FnExactOneAt.j2 : Nat → Int → Int → List Int → Bool → List Int → Bool → Int → List (S73) → Int → List (S57) → Option (Bool)
 | 0, _, _, _, _, _, _, _, _, _, _ => none
 | k + 1, x1, x2, x8, x9, x11, x12, x576000, x576001, x590000, x590001 => (laws_toGraph.f k x576000 x576001).bind fun bt595 => ((laws_eqGraph.f k x590000 x590001 bt595.1 bt595.2).bind fun t599 => (if t599 = true then (laws_FnExactOneAt.j3 k x1 x2 x8 x9 x11 x12 x576000 x576001 x590000 x590001) else (some false)))
def laws_FnExactOneAt.j3 : Nat → Int → Int → List Int → Bool → List Int → Bool → Int → List (S73) → Int → List (S57) → Option (Bool)
 | 0, _, _, _, _, _, _, _, _, _, _ => none
 | k + 1, x1, x2, x8, x9, x11, x12, x576000, x576001, x590000, x590001 => (laws_markGraph.f k x590000 x590001 1).bind fun bt600 => (if bt600.1 < 0 then (laws_FnExactOneAt.j4 k x1 x2 x8 x9 x11 true x576000 x576001) else ((laws_eqIntS.f k x11 x8).bind fun t602 => (if t602 = true then (laws_FnExactOneAt.j4 k x1 x2 x8 x9 x11 (x12 != x9) x576000 x576001) else (laws_FnExactOneAt.j4 k x1 x2 x8 x9 x11 true x576000 x576001))))
def laws_FnExactOneAt.j4 : Nat → Int → Int → List Int → Bool → List Int → Bool → Int → List (S73) → Option (Bool)
 | 0, _, _, _, _, _, _, _, _ => none
 | k + 1, x1, x2, x8, x9, x11, x69, x576000, x576001 => if x69 = true then (some false) else (laws_FnExactOneAt.j5 k x1 x2 x8 x9 x11 x576000 x576001)
def laws_FnExactOneAt.j5 : Nat → Int → Int → List Int → Bool → List Int → Int → List (S73) → Option (Bool)
 | 0, _, _, _, _, _, _, _ => none
 | k + 1, x1, x2, x8, x9, x11, x576000, x576001 => (laws_markIntS.f k x11 1).bind fun bt603 => ((laws_heldIntS.f k bt603.2 1).bind fun t605 => (if t605 < 0 then (some false) else (laws_FnExactOneAt.j6 k x1 x2 x8 x9 bt603.2 bt603.1 t605 x576000 x576001)))
def laws_FnExactOneAt.j6 : Nat → Int → Int → List Int → Bool → List Int → Int → Int → Int → List (S73) → Option (Bool)
 | 0, _, _, _, _, _, _, _, _, _ => none
 | k + 1, x1, x2, x8, x9, x11, x14, x15, x576000, x576001 => if x15 = x14 then (laws_FnExactOneAt.j7 k x1 x2 x8 x9 x11 x14 x576000 x576001) else (some false)
def laws_FnExactOneAt.j7 : Nat → Int → Int → List Int → Bool → List Int → Int → Int → List (S73) → Option (Bool)
 | 0, _, _, _, _, _, _, _, _ => none
 | k + 1, x1, x2, x8, x9, x11, x14, x576000, x576001 => (laws_toGraph.f k x576000 x576001).bind fun bt606 => ((impl_OneAt.f k bt606.1 bt606.2 x1 x2).bind fun bt610 => ((laws_eqIntS.f k bt610.1 x8).bind fun t614 => (if t614 = true then (laws_FnExactOneAt.j8 k x11 x14 (bt610.2 != x9)) else (laws_FnExactOneAt.j8 k x11 x14 true))))
def laws_FnExactOneAt.j8 : Nat → List Int → Int → Bool → Option (Bool)
 | 0, _, _, _ => none
 | k + 1, x11, x14, x97 => if x97 = true then (some false) else (laws_FnExactOneAt.j9 k x11 x14)
def laws_FnExactOneAt.j9 : Nat → List Int → Int → Option (Bool)
 | 0, _, _ => none
 | k + 1, x11, x14 => (laws_heldIntS.f k x11 1).bind fun t615 => (if t615 < 0 then (some false) else (laws_FnExactOneAt.j10 k x14 t615))
def laws_FnExactOneAt.j10 : Nat → Int → Int → Option (Bool)
 | 0, _, _ => none
 | k + 1, x14, x15 => if x15 = x14 then (some true) else (some false)
end
def laws_FnExactOneAt.f (k : Nat) (a0_0 : Int) (l0_1 : List (S73)) (a1 : Int) (a2 : Int) : Option (Bool) := (laws_szGraph.f a0_0 l0_1 1048576).bind fun t576 => (if t576 < 0 then (some true) else (laws_FnExactOneAt.j0 k a1 a2 a0_0 l0_1))
set_option maxHeartbeats 8000000 in
set_option maxRecDepth 100000 in
theorem laws_FnExactOneAt.calls (k : Nat) (a0_0 : Int) (A0_1 : Option Addr) (c0_1 : Nat) (l0_1 : List (S73)) (a1 : Int) (a2 : Int) (r : Bool) (w : World) (hr0_1 : Kd.C k73 w A0_1 l0_1.length l0_1) (hc0_1 : l0_1.length ≤ c0_1) (h : laws_FnExactOneAt.f k a0_0 l0_1 a1 a2 = some r) :
  Calls Try.prog 14 #[.agg #[.int .i64 a0_0, .slice A0_1 l0_1.length c0_1], .int .i64 a1, .int .i64 a2] w fun e w' => e = .returned (.bool r) ∧ Below w.heap.size w w' := by
 have hu24 := Try.underlying24
 have hu29 := Try.underlying29
 have HR0_1 := Aside0.mk hr0_1
 have HC0_1 := Aside0.mk hc0_1
 clear hr0_1 hc0_1
 have HB := Aside0.mk (Below.refl w.heap.size w)
 have H : ((laws_szGraph.f a0_0 l0_1 1048576).bind fun t576 => (if t576 < 0 then (some true) else (laws_FnExactOneAt.j0 k a1 a2 a0_0 l0_1))) = some r := h
 clear h
 replace H := Option.bind_eq_some_iff.mp H
 obtain ⟨t576, A40, H⟩ := H
 replace H : (if t576 < 0 then (some true) else (laws_FnExactOneAt.j0 k a1 a2 a0_0 l0_1)) = some r := H
 have A4 := Aside0.mk A40
 clear A40
 have HC5 := Aside0.mk H
 clear H
 go_enter Try.func14, Try.ntmps14
 go_upto_if 22 with (first | ((with_reducible refine gate_dst (N := 3) rfl ?_); refine box_event ?hg (N := 3) ?hd (cs := #[.int .i64 a0_0, .slice A0_1 l0_1.length c0_1]) (t := 24) ?hr ?_; (case hd => rfl); (case hg => rfl); (case hr => first | (go_simp; done) | (go_simp; rfl)); intro gb575 hg w6 hbox hb; have BK575 := Aside0.mk (hbox); have GW575 := Aside0.mk ((by rw [hg]; exact (below_size (Lz HB)) : w.heap.size ≤ gb575)); have GE575 := Aside0.mk ((by rw [hg]; exact (below_size (Lz HB)) : w.heap.size ≤ gb575)); replace HB := Aside0.mk (below_step (Lz HB) hb); clear hb hbox hg; have hcz7_0 : w6.cell? ⟨gb575, 0, none⟩ = some (.int .i64 a0_0) := (blk_cell BK575.out 0).trans rfl; have hcz7_1 : w6.cell? ⟨gb575, 1, none⟩ = some (.slice A0_1 l0_1.length c0_1) := (blk_cell BK575.out 1).trans rfl; have hfz7_0 := blk_frozen BK575.out 0; have hfz7_1 := blk_frozen BK575.out 1) | ((with_reducible refine gate_callee (f := 15) rfl ?_); refine goesM_ (some 20) rfl rfl Try.func15 (by kernel_rfl) rfl #[.agg #[.int .i64 a0_0, .slice A0_1 l0_1.length c0_1], .int .i64 1048576] rfl ?_; (with_reducible refine (laws_szGraph.calls a0_0 _ _ l0_1 1048576 t576 _ ?side1 ?side2 A4.out).mono ?_); (case side1 => exact Cz ((Kd.C_below HR0_1.out HB.out))); (case side2 => exact HC0_1.out); rintro e w8 ⟨rfl, hb⟩; refine ⟨_, rfl, ?_⟩; replace BK575 := Aside0.mk (blk_below (g := gb575) (o := .cells #[.int .i64 a0_0, .slice A0_1 l0_1.length c0_1] 24 (0, 0)) (Bz BK575) hb); replace HB := Aside0.mk (below_step (by exact Lz1 HB GE575) hb); (try clear hb); (try clear hb2); (try clear hk); (try clear hi)))
 (try simp only [Act.put, List.setIfInBounds_toArray, List.set_cons_zero, List.set_cons_succ])
 go_cut [] (fun wc => ∃ (kq : Nat), Aside0 (laws_FnExactOneAt.j0 kq a1 a2 a0_0 l0_1 = some r) ∧ Aside0 (kq ≤ k) ∧ Aside0 (wc.heap[gb575]? = some (.cells #[.int .i64 a0_0, (.slice A0_1 l0_1.length c0_1)] 24 (0, 0))) ∧ Aside0 (Below w.heap.size w wc))
 case first =>
  have H := HC5.out
  clear HC5
  by_cases c9 : t576 < 0
  ·rw [if_pos c9] at H
   have c9b0 : decide (t576 < 0) = true := decide_eq_true c9
   clear c9
   (first | rw [c9b0] | (simp only [i64_w, i32_w]; rw [c9b0]) | skip)
   obtain rfl := Option.some.inj H
   go_wp2
   go_ret
   exact ⟨by first | rfl | (simp [errW_none, errW_some] <;> rfl) | (simp [*, errW_none, errW_some] <;> rfl), by exact Lz1 HB GE575⟩
  rw [if_neg c9] at H
  have c9b0 : decide (t576 < 0) = false := decide_eq_false c9
  clear c9
  (first | rw [c9b0] | (simp only [i64_w, i32_w]; rw [c9b0]) | skip)
  have H' := Aside0.mk H
  clear H
  go_wp2
  go_meet
  case rel => exact ⟨_, H', ⟨by first | omega | exact Nat.le_refl _⟩, ⟨by exact Bz BK575⟩, ⟨by exact Lz1 HB GE575⟩⟩
 case rest =>
  clear HC5
  try clear c9
  try clear c9b0
  obtain ⟨kq, HA, HJ4, BK575, HB⟩ := hcut
  cases kq with
  | zero => exact absurd HA.out (by simp [laws_FnExactOneAt.j0])
  | succ kj4 =>
   have H := HA.out
   clear HA
   simp only [laws_FnExactOneAt.j0] at H
   replace H := Option.bind_eq_some_iff.mp H
   obtain ⟨⟨t577, t578⟩, A100, H⟩ := H
   replace H : ((spec_OneAt.f kj4 t577 t578 a1 a2).bind fun bt581 => ((laws_toGraph.f kj4 a0_0 l0_1).bind fun bt585 => ((impl_OneAt.f kj4 bt585.1 bt585.2 a1 a2).bind fun bt590 => ((laws_eqIntS.f kj4 bt590.1 bt581.1).bind fun t594 => (if t594 = true then (laws_FnExactOneAt.j1 kj4 a1 a2 bt581.1 bt581.2 bt590.1 bt590.2 (bt590.2 != bt581.2) a0_0 l0_1 bt585.1 bt585.2) else (laws_FnExactOneAt.j1 kj4 a1 a2 bt581.1 bt581.2 bt590.1 bt590.2 true a0_0 l0_1 bt585.1 bt585.2)))))) = some r := H
   have A10 := Aside0.mk A100
   clear A100
   replace H := Option.bind_eq_some_iff.mp H
   obtain ⟨⟨t581, t584⟩, A110, H⟩ := H
   replace H : ((laws_toGraph.f kj4 a0_0 l0_1).bind fun bt585 => ((impl_OneAt.f kj4 bt585.1 bt585.2 a1 a2).bind fun bt590 => ((laws_eqIntS.f kj4 bt590.1 t581).bind fun t594 => (if t594 = true then (laws_FnExactOneAt.j1 kj4 a1 a2 t581 t584 bt590.1 bt590.2 (bt590.2 != t584) a0_0 l0_1 bt585.1 bt585.2) else (laws_FnExactOneAt.j1 kj4 a1 a2 t581 t584 bt590.1 bt590.2 true a0_0 l0_1 bt585.1 bt585.2))))) = some r := H
   have A11 := Aside0.mk A110
   clear A110
   replace H := Option.bind_eq_some_iff.mp H
   obtain ⟨⟨t585, t586⟩, A120, H⟩ := H
   replace H : ((impl_OneAt.f kj4 t585 t586 a1 a2).bind fun bt590 => ((laws_eqIntS.f kj4 bt590.1 t581).bind fun t594 => (if t594 = true then (laws_FnExactOneAt.j1 kj4 a1 a2 t581 t584 bt590.1 bt590.2 (bt590.2 != t584) a0_0 l0_1 t585 t586) else (laws_FnExactOneAt.j1 kj4 a1 a2 t581 t584 bt590.1 bt590.2 true a0_0 l0_1 t585 t586)))) = some r := H
   have A12 := Aside0.mk A120
   clear A120
   replace H := Option.bind_eq_some_iff.mp H
   obtain ⟨⟨t590, t593⟩, A130, H⟩ := H
   replace H : ((laws_eqIntS.f kj4 t590 t581).bind fun t594 => (if t594 = true then (laws_FnExactOneAt.j1 kj4 a1 a2 t581 t584 t590 t593 (t593 != t584) a0_0 l0_1 t585 t586) else (laws_FnExactOneAt.j1 kj4 a1 a2 t581 t584 t590 t593 true a0_0 l0_1 t585 t586))) = some r := H
   have A13 := Aside0.mk A130
   clear A130
   have HC14 := Aside0.mk H
   clear H
   have hcz15_0 : wc.cell? ⟨gb575, 0, none⟩ = some (.int .i64 a0_0) := (blk_cell BK575.out 0).trans rfl
   have hcz15_1 : wc.cell? ⟨gb575, 1, none⟩ = some (.slice A0_1 l0_1.length c0_1) := (blk_cell BK575.out 1).trans rfl
   have hfz15_0 := blk_frozen BK575.out 0
   have hfz15_1 := blk_frozen BK575.out 1
   go_upto_region 8 with (first | ((with_reducible refine gate_callee (f := 17) rfl ?_); refine goesM_ (some 25) rfl rfl Try.func17 (by kernel_rfl) rfl #[.agg #[.int .i64 a0_0, .slice A0_1 l0_1.length c0_1]] rfl ?_; (with_reducible refine (laws_toGraph.calls kj4 a0_0 _ _ l0_1 t577 t578 _ ?side1 ?side2 A10.out).mono ?_); (case side1 => exact Cz ((Kd.C_below HR0_1.out HB.out))); (case side2 => exact HC0_1.out); rintro e w16 ⟨v579, rfl, ho0, hb⟩; refine ⟨_, rfl, ?_⟩; have HO580 := Aside0.mk (Kd.R_lower ho0 (below_size (by exact Lz1 HB GE575))); replace BK575 := Aside0.mk (blk_below (g := gb575) (o := .cells #[.int .i64 a0_0, .slice A0_1 l0_1.length c0_1] 24 (0, 0)) (Bz BK575) hb); replace HB := Aside0.mk (below_step (by exact Lz1 HB GE575) hb); (try clear hb); (try clear ho0); obtain ⟨Ao17, co17, eo17⟩ := Kd.R_slice HO580.out; subst eo17) | ((with_reducible refine gate_callee (f := 48) rfl ?_); refine goesM_ (some 28) rfl rfl Try.func48 (by kernel_rfl) rfl #[.agg #[.int .i64 t577, .slice Ao17 t578.length co17], .int .i64 a1, .int .i64 a2] rfl ?_; (with_reducible refine (spec_OneAt.calls kj4 t577 _ _ t578 a1 a2 t581 t584 _ ?side1 ?side2 A11.out).mono ?_); (case side1 => exact Cz ((Kd.R_reads' HO580.out).2.2)); (case side2 => exact (Kd.R_reads' HO580.out).2.1); rintro e w18 ⟨v582, rfl, ho0, hb⟩; refine ⟨_, rfl, ?_⟩; replace HO580 := Aside0.mk (Kd.R_below (Rz HO580) hb); have HO583 := Aside0.mk (Kd.R_lower ho0 (below_size (by exact Lz1 HB GE575))); replace BK575 := Aside0.mk (blk_below (g := gb575) (o := .cells #[.int .i64 a0_0, .slice A0_1 l0_1.length c0_1] 24 (0, 0)) (Bz BK575) hb); replace HB := Aside0.mk (below_step (by exact Lz1 HB GE575) hb); (try clear hb); (try clear ho0); have hcz19_0 : w18.cell? ⟨gb575, 0, none⟩ = some (.int .i64 a0_0) := (blk_cell BK575.out 0).trans rfl; have hcz19_1 : w18.cell? ⟨gb575, 1, none⟩ = some (.slice A0_1 l0_1.length c0_1) := (blk_cell BK575.out 1).trans rfl; have hfz19_0 := blk_frozen BK575.out 0; have hfz19_1 := blk_frozen BK575.out 1) | ((with_reducible refine gate_callee (f := 17) rfl ?_); refine goesM_ (some 32) rfl rfl Try.func17 (by kernel_rfl) rfl #[.agg #[.int .i64 a0_0, .slice A0_1 l0_1.length c0_1]] rfl ?_; (with_reducible refine (laws_toGraph.calls kj4 a0_0 _ _ l0_1 t585 t586 _ ?side1 ?side2 A12.out).mono ?_); (case side1 => exact Cz ((Kd.C_below HR0_1.out HB.out))); (case side2 => exact HC0_1.out); rintro e w20 ⟨v587, rfl, ho0, hb⟩; refine ⟨_, rfl, ?_⟩; replace HO583 := Aside0.mk (Kd.R_below (Rz HO583) hb); have HO588 := Aside0.mk (Kd.R_lower (Kd.R_new' ho0 (Kd.R_lt (Rz HO580))) (below_size (by exact Lz1 HB GE575))); replace HO580 := Aside0.mk (Kd.R_elder' (Rz HO580) (Kd.R_base ho0) hb); replace BK575 := Aside0.mk (blk_below (g := gb575) (o := .cells #[.int .i64 a0_0, .slice A0_1 l0_1.length c0_1] 24 (0, 0)) (Bz BK575) hb); replace HB := Aside0.mk (below_step (by exact Lz1 HB GE575) hb); (try clear hb); (try clear ho0)) | ((with_reducible refine gate_dst (N := 10) rfl ?_); refine box_event ?hg (N := 10) ?hd (cs := #[.int .i64 0, .slice none 0 0]) (t := 29) ?hr ?_; (case hd => rfl); (case hg => rfl); (case hr => first | (go_simp; done) | (go_simp; rfl)); intro gb589 hg w21 hbox hb; replace HO580 := Aside0.mk (Kd.R_below (Rz HO580) hb); replace HO583 := Aside0.mk (Kd.R_below (Rz HO583) hb); replace HO588 := Aside0.mk (Kd.R_below (Rz HO588) hb); have BK589 := Aside0.mk (hbox); have GW589 := Aside0.mk ((by rw [hg]; exact (below_size (by exact Lz1 HB GE575)) : w.heap.size ≤ gb589)); have GE589 := Aside0.mk ((by rw [hg]; exact (below_size (by exact Lz1 HB GE575)) : w.heap.size ≤ gb589)); replace HB := Aside0.mk (below_step (by exact Lz1 HB GE575) hb); have NB575_589 := Aside0.mk ((by rw [hg]; exact Nat.ne_of_lt (blk_lt (g := gb575) (o := .cells #[.int .i64 a0_0, .slice A0_1 l0_1.length c0_1] 24 (0, 0)) (Bz BK575)) : gb575 ≠ gb589)); have NB589_575 := Aside0.mk ((by rw [hg]; exact Nat.ne_of_gt (blk_lt (g := gb575) (o := .cells #[.int .i64 a0_0, .slice A0_1 l0_1.length c0_1] 24 (0, 0)) (Bz BK575)) : gb589 ≠ gb575)); replace BK575 := Aside0.mk (blk_below (g := gb575) (o := .cells #[.int .i64 a0_0, .slice A0_1 l0_1.length c0_1] 24 (0, 0)) (Bz BK575) hb); clear hb hbox hg; have hnb22 := NB589_575.out; have hnc22 := NB575_589.out; have hcz23_0 : w21.cell? ⟨gb589, 0, none⟩ = some (.int .i64 0) := (blk_cell BK589.out 0).trans rfl; have hcz23_1 : w21.cell? ⟨gb589, 1, none⟩ = some (.slice none 0 0) := (blk_cell BK589.out 1).trans rfl; have hfz23_0 := blk_frozen BK589.out 0; have hfz23_1 := blk_frozen BK589.out 1; obtain ⟨Ao24, co24, eo24⟩ := Kd.R_slice HO588.out; subst eo24) | ((with_reducible refine gate_callee (f := 49) rfl ?_); refine goesM_ (some 37) rfl rfl Try.func49 (by kernel_rfl) rfl #[.agg #[.int .i64 t585, .slice Ao24 t586.length co24], .int .i64 a1, .int .i64 a2] rfl ?_; (with_reducible refine (impl_OneAt.calls kj4 t585 _ _ t586 a1 a2 t590 t593 _ ?side1 ?side2 A13.out).mono ?_); (case side1 => refine (Kd.R_reads' (e := 57) (base := w.heap.size) (ok := fun k_ => (True ∧ some k_ ≠ (.slice Ao17 t578.length co17 : Value).ownBlock)) (n := t586.length) (c := co24) ?_).2.2; exact (by (with_reducible repeat (first | apply Kd.R_alloc | apply Kd.R_drewN | apply Kd.R_drew)); exact (Kd.R_mono (Kd.R_far (p := ⟨gb589, 1, none⟩) (Kd.R_far (p := ⟨gb589, 0, none⟩) (Kd.R_types HO588.out BK589.out (by decide)) (fun _ hk => hk.2) (.int .i64 t585)) (fun _ hk => hk.2) (.slice Ao24 t586.length co24)) (fun _ h_ => h_.1)))); (case side2 => exact (Kd.R_reads' HO588.out).2.1); rintro e w25 ⟨v591, rfl, ho0, hb⟩; refine ⟨_, rfl, ?_⟩; replace HO580 := Aside0.mk (Kd.R_below (by (with_reducible repeat (first | apply Kd.R_alloc | apply Kd.R_drewN | apply Kd.R_drew)); exact (Kd.R_mono (Kd.R_far (p := ⟨gb589, 1, none⟩) (Kd.R_far (p := ⟨gb589, 0, none⟩) (Kd.R_types HO580.out BK589.out (by decide)) (fun _ hk => hk.2) (.int .i64 t585)) (fun _ hk => hk.2) (.slice Ao24 t586.length co24)) (fun _ h_ => h_.1))) hb); replace HO588 := Aside0.mk (Kd.R_below (by (with_reducible repeat (first | apply Kd.R_alloc | apply Kd.R_drewN | apply Kd.R_drew)); exact (Kd.R_mono (Kd.R_far (p := ⟨gb589, 1, none⟩) (Kd.R_far (p := ⟨gb589, 0, none⟩) (Kd.R_types HO588.out BK589.out (by decide)) (fun _ hk => hk.2) (.int .i64 t585)) (fun _ hk => hk.2) (.slice Ao24 t586.length co24)) (fun _ h_ => h_.1))) hb); have HO592 := Aside0.mk (Kd.R_lower (Kd.R_new' ho0 (Kd.R_lt (by (with_reducible repeat (first | apply Kd.R_alloc | apply Kd.R_drewN | apply Kd.R_drew)); exact (Kd.R_mono (Kd.R_far (p := ⟨gb589, 1, none⟩) (Kd.R_far (p := ⟨gb589, 0, none⟩) (Kd.R_types HO583.out BK589.out (by decide)) (fun _ hk => hk.2) (.int .i64 t585)) (fun _ hk => hk.2) (.slice Ao24 t586.length co24)) (fun _ h_ => h_.1))))) (below_size (by exact Lz2 HB GE575 GE589))); replace HO583 := Aside0.mk (Kd.R_elder' (by (with_reducible repeat (first | apply Kd.R_alloc | apply Kd.R_drewN | apply Kd.R_drew)); exact (Kd.R_mono (Kd.R_far (p := ⟨gb589, 1, none⟩) (Kd.R_far (p := ⟨gb589, 0, none⟩) (Kd.R_types HO583.out BK589.out (by decide)) (fun _ hk => hk.2) (.int .i64 t585)) (fun _ hk => hk.2) (.slice Ao24 t586.length co24)) (fun _ h_ => h_.1))) (Kd.R_base ho0) hb); replace BK575 := Aside0.mk (blk_below (g := gb575) (o := .cells #[.int .i64 a0_0, .slice A0_1 l0_1.length c0_1] 24 (0, 0)) (by (with_reducible repeat (first | refine blk_drewN ?_ _ | refine blk_drew ?_ | refine blk_alloc ?_ _)); refine blk_far ?_ NB575_589.out _; (with_reducible repeat (first | refine blk_drewN ?_ _ | refine blk_drew ?_ | refine blk_alloc ?_ _)); refine blk_far ?_ NB575_589.out _; exact Bz BK575) hb); replace BK589 := Aside0.mk (blk_below (g := gb589) (o := .cells #[.int .i64 t585, .slice Ao24 t586.length co24] 29 (0, 0)) (by (with_reducible repeat (first | refine blk_drewN ?_ _ | refine blk_drew ?_ | refine blk_alloc ?_ _)); refine blk_put (cs := #[.int .i64 t585, .slice none 0 0]) ?_ 1 _ rfl; (with_reducible repeat (first | refine blk_drewN ?_ _ | refine blk_drew ?_ | refine blk_alloc ?_ _)); refine blk_put (cs := #[.int .i64 0, .slice none 0 0]) ?_ 0 _ rfl; exact Bz BK589) hb); replace HB := Aside0.mk (below_step (by exact Lz2 HB GE575 GE589) hb); (try clear hb); (try clear ho0)))
   (try simp only [Act.put, List.setIfInBounds_toArray, List.set_cons_zero, List.set_cons_succ])
   go_cut [48] (fun v48 wc => ∃ (kq : Nat) (x48_13 : Bool), v48 = .bool x48_13 ∧ Aside0 (laws_FnExactOneAt.j1 kq a1 a2 t581 t584 t590 t593 x48_13 a0_0 l0_1 t585 t586 = some r) ∧ Aside0 (kq ≤ kj4) ∧ Aside0 (Kd.R (Kd.int .i64) 3 wc w.heap.size (fun k_ => some k_ ≠ (v591 : Value).ownBlock) v582 t581) ∧ Aside0 (Kd.R (Kd.int .i64) 3 wc w.heap.size (fun k_ => some k_ ≠ (v582 : Value).ownBlock) v591 t590) ∧ Aside0 (Kd.R k57 57 wc w.heap.size (fun _ => True) (.slice Ao24 t586.length co24) t586) ∧ Aside0 (wc.heap[gb575]? = some (.cells #[.int .i64 a0_0, (.slice A0_1 l0_1.length c0_1)] 24 (0, 0))) ∧ Aside0 (wc.heap[gb589]? = some (.cells #[.int .i64 t585, (.slice Ao24 t586.length co24)] 29 (0, 0))) ∧ Aside0 (Below w.heap.size w wc))
   case first =>
    have H := HC14.out
    clear HC14
    replace H := Option.bind_eq_some_iff.mp H
    obtain ⟨t594, A260, H⟩ := H
    replace H : (if t594 = true then (laws_FnExactOneAt.j1 kj4 a1 a2 t581 t584 t590 t593 (t593 != t584) a0_0 l0_1 t585 t586) else (laws_FnExactOneAt.j1 kj4 a1 a2 t581 t584 t590 t593 true a0_0 l0_1 t585 t586)) = some r := H
    have A26 := Aside0.mk A260
    clear A260
    by_cases c27 : t594 = true
    ·subst c27
     have H1 : (laws_FnExactOneAt.j1 kj4 a1 a2 t581 t584 t590 t593 (t593 != t584) a0_0 l0_1 t585 t586) = some r := by rw [if_pos rfl] at H; exact H
     clear H
     have H := H1
     clear H1
     have H' := Aside0.mk H
     clear H
     obtain ⟨Ao28, co28, eo28⟩ := Kd.R_slice HO592.out
     subst eo28
     obtain ⟨Ao29, co29, eo29⟩ := Kd.R_slice HO583.out
     subst eo29
     go_wp2_with (first | ((with_reducible refine gate_callee (f := 34) rfl ?_); refine goesM_ (some 42) rfl rfl Try.func34 (by kernel_rfl) rfl #[.slice Ao28 t590.length co28, .slice Ao29 t581.length co29] rfl ?_; (with_reducible refine (laws_eqIntS.calls kj4 _ _ t590 _ _ t581 true _ ?side1 ?side2 ?side3 ?side4 A26.out).mono ?_); (case side1 => exact Cz ((Kd.R_reads' HO592.out).2.2)); (case side2 => exact (Kd.R_reads' HO592.out).2.1); (case side3 => exact Cz ((Kd.R_reads' HO583.out).2.2)); (case side4 => exact (Kd.R_reads' HO583.out).2.1); rintro e w' ⟨rfl, ⟨nd, rfl⟩⟩; refine ⟨_, rfl, ?_⟩))
     go_meet
     case rel => exact ⟨_, ((t593 != t584)), (by first | rfl | (simp; done) | (simp [*]; done)), H', ⟨by have := HJ4.out; first | omega | exact Nat.le_refl _⟩, ⟨by (with_reducible repeat (first | apply Kd.R_alloc | apply Kd.R_drewN | apply Kd.R_drew)); exact Kd.R_mono HO583.out (fun _ hk => hk.2)⟩, ⟨by (with_reducible repeat (first | apply Kd.R_alloc | apply Kd.R_drewN | apply Kd.R_drew)); exact Kd.R_mono HO592.out (fun _ hk => hk.2)⟩, ⟨by (with_reducible repeat (first | apply Kd.R_alloc | apply Kd.R_drewN | apply Kd.R_drew)); exact Kd.R_mono HO588.out (fun _ hk => trivial)⟩, ⟨by exact Bz BK575⟩, ⟨by exact Bz BK589⟩, ⟨by exact Lz2 HB GE575 GE589⟩⟩
    replace c27 := Bool.eq_false_iff.mpr c27
    subst c27
    have H1 : (laws_FnExactOneAt.j1 kj4 a1 a2 t581 t584 t590 t593 true a0_0 l0_1 t585 t586) = some r := by rw [if_neg (show ¬ (false = true) by decide)] at H; exact H
    clear H
    have H := H1
    clear H1
    have H' := Aside0.mk H
    clear H
    obtain ⟨Ao30, co30, eo30⟩ := Kd.R_slice HO592.out
    subst eo30
    obtain ⟨Ao31, co31, eo31⟩ := Kd.R_slice HO583.out
    subst eo31
    go_wp2_with (first | ((with_reducible refine gate_callee (f := 34) rfl ?_); refine goesM_ (some 42) rfl rfl Try.func34 (by kernel_rfl) rfl #[.slice Ao30 t590.length co30, .slice Ao31 t581.length co31] rfl ?_; (with_reducible refine (laws_eqIntS.calls kj4 _ _ t590 _ _ t581 false _ ?side1 ?side2 ?side3 ?side4 A26.out).mono ?_); (case side1 => exact Cz ((Kd.R_reads' HO592.out).2.2)); (case side2 => exact (Kd.R_reads' HO592.out).2.1); (case side3 => exact Cz ((Kd.R_reads' HO583.out).2.2)); (case side4 => exact (Kd.R_reads' HO583.out).2.1); rintro e w' ⟨rfl, ⟨nd, rfl⟩⟩; refine ⟨_, rfl, ?_⟩))
    go_meet
    case rel => exact ⟨_, (true), (by first | rfl | (simp; done) | (simp [*]; done)), H', ⟨by have := HJ4.out; first | omega | exact Nat.le_refl _⟩, ⟨by (with_reducible repeat (first | apply Kd.R_alloc | apply Kd.R_drewN | apply Kd.R_drew)); exact Kd.R_mono HO583.out (fun _ hk => hk.2)⟩, ⟨by (with_reducible repeat (first | apply Kd.R_alloc | apply Kd.R_drewN | apply Kd.R_drew)); exact Kd.R_mono HO592.out (fun _ hk => hk.2)⟩, ⟨by (with_reducible repeat (first | apply Kd.R_alloc | apply Kd.R_drewN | apply Kd.R_drew)); exact Kd.R_mono HO588.out (fun _ hk => trivial)⟩, ⟨by exact Bz BK575⟩, ⟨by exact Bz BK589⟩, ⟨by exact Lz2 HB GE575 GE589⟩⟩
   case rest =>
    clear HC14
    try clear c9
    try clear c9b0
    try clear c27
    obtain ⟨kq, x48_13, rfl, HA, HJ13, HO_8, HO_11, HO_590001, BK575, BK589, HB⟩ := hcut
    cases kq with
    | zero => exact absurd HA.out (by simp [laws_FnExactOneAt.j1])
    | succ kj13 =>
     have H := HA.out
     clear HA
     simp only [laws_FnExactOneAt.j1] at H
     have HC32 := Aside0.mk H
     clear H
     go_upto_if 48 with (fail)
     go_cut [] (fun wc => ∃ (kq : Nat), Aside0 (laws_FnExactOneAt.j2 kq a1 a2 t581 t584 t590 t593 a0_0 l0_1 t585 t586 = some r) ∧ Aside0 (kq ≤ kj13) ∧ Aside0 (Kd.R (Kd.int .i64) 3 wc w.heap.size (fun k_ => some k_ ≠ (v591 : Value).ownBlock) v582 t581) ∧ Aside0 (Kd.R (Kd.int .i64) 3 wc w.heap.size (fun k_ => some k_ ≠ (v582 : Value).ownBlock) v591 t590) ∧ Aside0 (Kd.R k57 57 wc w.heap.size (fun _ => True) (.slice Ao24 t586.length co24) t586) ∧ Aside0 (wc.heap[gb575]? = some (.cells #[.int .i64 a0_0, (.slice A0_1 l0_1.length c0_1)] 24 (0, 0))) ∧ Aside0 (wc.heap[gb589]? = some (.cells #[.int .i64 t585, (.slice Ao24 t586.length co24)] 29 (0, 0))) ∧ Aside0 (Below w.heap.size w wc))
     case first =>
      have H := HC32.out
      clear HC32
      by_cases c33 : x48_13 = true
      ·subst c33
       have H1 : (some false) = some r := by rw [if_pos rfl] at H; exact H
       clear H
       have H := H1
       clear H1
       obtain rfl := Option.some.inj H
       go_wp2
       go_ret
       exact ⟨by first | rfl | (simp [errW_none, errW_some] <;> rfl) | (simp [*, errW_none, errW_some] <;> rfl), by exact Lz2 HB GE575 GE589⟩
      replace c33 := Bool.eq_false_iff.mpr c33
      subst c33
      have H1 : (laws_FnExactOneAt.j2 kj13 a1 a2 t581 t584 t590 t593 a0_0 l0_1 t585 t586) = some r := by rw [if_neg (show ¬ (false = true) by decide)] at H; exact H
      clear H
      have H := H1
      clear H1
      have H' := Aside0.mk H
      clear H
      go_wp2
      go_meet
      case rel => exact ⟨_, H', ⟨by have := HJ4.out; have := HJ13.out; first | omega | exact Nat.le_refl _⟩, ⟨by exact Rz HO_8⟩, ⟨by exact Rz HO_11⟩, ⟨by exact Rz HO_590001⟩, ⟨by exact Bz BK575⟩, ⟨by exact Bz BK589⟩, ⟨by exact Lz2 HB GE575 GE589⟩⟩
     case rest =>
      clear HC32
      try clear c9
      try clear c9b0
      try clear c27
      try clear c33
      obtain ⟨kq, HA, HJ31, HO_8, HO_11, HO_590001, BK575, BK589, HB⟩ := hcut
      cases kq with
      | zero => exact absurd HA.out (by simp [laws_FnExactOneAt.j2])
      | succ kj31 =>
       have H := HA.out
       clear HA
       simp only [laws_FnExactOneAt.j2] at H
       replace H := Option.bind_eq_some_iff.mp H
       obtain ⟨⟨t595, t596⟩, A340, H⟩ := H
       replace H : ((laws_eqGraph.f kj31 t585 t586 t595 t596).bind fun t599 => (if t599 = true then (laws_FnExactOneAt.j3 kj31 a1 a2 t581 t584 t590 t593 a0_0 l0_1 t585 t586) else (some false))) = some r := H
       have A34 := Aside0.mk A340
       clear A340
       replace H := Option.bind_eq_some_iff.mp H
       obtain ⟨t599, A350, H⟩ := H
       replace H : (if t599 = true then (laws_FnExactOneAt.j3 kj31 a1 a2 t581 t584 t590 t593 a0_0 l0_1 t585 t586) else (some false)) = some r := H
       have A35 := Aside0.mk A350
       clear A350
       have HC36 := Aside0.mk H
       clear H
       try go_wp2
       replace HO_8 := Aside0.mk (Kd.R_drew HO_8.out)
       replace HO_11 := Aside0.mk (Kd.R_drew HO_11.out)
       replace HO_590001 := Aside0.mk (Kd.R_drew HO_590001.out)
       replace BK575 := Aside0.mk (blk_drew BK575.out)
       replace BK589 := Aside0.mk (blk_drew BK589.out)
       replace HB := Aside0.mk (below_drew1 HB.out)
       refine start_ (n := 5) (S := fun w' => w'.cell? ⟨gb589, 0, none⟩ = some (.int .i64 t585) ∧ w'.cell? ⟨gb589, 1, none⟩ = some (.slice Ao24 t586.length co24) ∧ w'.cell? ⟨gb575, 0, none⟩ = some (.int .i64 a0_0) ∧ w'.cell? ⟨gb575, 1, none⟩ = some (.slice A0_1 l0_1.length c0_1)) (ds := []) #[false, false, false, false, false] (by kernel_rfl) rfl rfl ⟨(blk_cell BK589.out 0).trans rfl, (blk_cell BK589.out 1).trans rfl, (blk_cell BK575.out 0).trans rfl, (blk_cell BK575.out 1).trans rfl⟩ (fun hHeld => ?_)
       generalize wc.drew = w37 at HO_8 HO_11 HO_590001 BK575 BK589 HB hHeld ⊢
       refine take_ (i := 0) (N := some 49) (v := ?_) (a' := ?_) #[true, false, false, false, false] rfl rfl (by kernel_rfl) (fun _ _ _ h => h) (Or.inl ⟨by rfl, ?_⟩) hHeld ?_ ?_
       rotate_left
       ·rintro w' ⟨s0, s1, s2, s3⟩
        go_simp
        with_reducible rfl
       rotate_left
       ·simp only [Act.put, List.setIfInBounds_toArray, List.set_cons_zero, List.set_cons_succ, i64_w, i32_w]
        rfl
       refine take_ (i := 1) (N := some 50) (v := ?_) (a' := ?_) #[true, true, false, false, false] rfl rfl (by kernel_rfl) (fun _ _ _ h => h) (Or.inl ⟨by rfl, ?_⟩) hHeld ?_ ?_
       rotate_left
       ·rintro w' ⟨s0, s1, s2, s3⟩
        go_simp
        with_reducible rfl
       rotate_left
       ·simp only [Act.put, List.setIfInBounds_toArray, List.set_cons_zero, List.set_cons_succ, i64_w, i32_w]
        rfl
       refine one_ (i := 2) (N := some 51) #[true, true, true, false, false] rfl rfl (by kernel_rfl) (by decide) (fun K hK => ?_)
       refine goes_ Try.func17 (by kernel_rfl) rfl #[.agg #[.int .i64 a0_0, .slice A0_1 l0_1.length c0_1]] (by rfl) rfl rfl (by (try simp only [List.map_toArray, List.map_cons, List.map_nil]); first | done | rfl | (simp only [List.length_drop, List.length_take]; rfl)) ?_
       with_reducible refine (laws_toGraph.calls kj31 a0_0 _ _ l0_1 t595 t596 _ ?side1 ?side2 A34.out).mono ?_
       (case side1 => exact Cz ((Kd.C_below HR0_1.out HB.out)))
       (case side2 => exact HC0_1.out)
       rintro e w38 ⟨v597, rfl, ho0, hb⟩
       refine ⟨_, rfl, ?_⟩
       replace HO_8 := Aside0.mk (Kd.R_below (Rz HO_8) hb)
       replace HO_11 := Aside0.mk (Kd.R_below (Rz HO_11) hb)
       have HO598 := Aside0.mk (Kd.R_lower (Kd.R_new' ho0 (Kd.R_lt (Rz HO_590001))) (below_size (by exact Lz2 HB GE575 GE589)))
       replace HO_590001 := Aside0.mk (Kd.R_elder' (Rz HO_590001) (Kd.R_base ho0) hb)
       replace BK575 := Aside0.mk (blk_below (g := gb575) (o := .cells #[.int .i64 a0_0, .slice A0_1 l0_1.length c0_1] 24 (0, 0)) (Bz BK575) hb)
       replace BK589 := Aside0.mk (blk_below (g := gb589) (o := .cells #[.int .i64 t585, .slice Ao24 t586.length co24] 29 (0, 0)) (Bz BK589) hb)
       replace HB := Aside0.mk (below_step (by exact Lz2 HB GE575 GE589) hb)
       (try clear hb)
       (try clear hb2)
       (try clear hk)
       (try clear hi)
       (try clear ho0)
       obtain ⟨Ao39, co39, eo39⟩ := Kd.R_slice HO598.out
       (first | subst eo39 | (injection eo39 with f1_ f2_ f3_; have f4_ := f1_.symm; have f5_ := f3_.symm; clear f1_ f2_ f3_; subst f4_; subst f5_))
       refine hK.out _ _ ⟨(blk_cell BK589.out 0).trans rfl, (blk_cell BK589.out 1).trans rfl, (blk_cell BK575.out 0).trans rfl, (blk_cell BK575.out 1).trans rfl⟩ (fun hHeld => ?_)
       clear hK K
       refine norm_ (a' := ?_) ?_ ?_
       rotate_left
       ·show Act.put _ (some 51) _ = _
        simp only [Act.put, List.setIfInBounds_toArray, List.set_cons_zero, List.set_cons_succ, i64_w, i32_w]
        rfl
       refine one_ (i := 3) (N := some 52) #[true, true, true, true, false] rfl rfl (by kernel_rfl) (by decide) (fun K hK => ?_)
       refine goes_ Try.func19 (by kernel_rfl) rfl #[.agg #[.int .i64 t585, .slice Ao24 t586.length co24], .agg #[.int .i64 t595, .slice Ao39 t596.length co39]] (by rfl) rfl rfl (by (try simp only [List.map_toArray, List.map_cons, List.map_nil]); first | done | rfl | (simp only [List.length_drop, List.length_take]; rfl)) ?_
       with_reducible refine (laws_eqGraph.calls kj31 t585 _ _ t586 t595 _ _ t596 t599 _ ?side1 ?side2 ?side3 ?side4 A35.out).mono ?_
       (case side1 => exact Cz ((Kd.R_reads' HO_590001.out).2.2))
       (case side2 => exact (Kd.R_reads' HO_590001.out).2.1)
       (case side3 => exact Cz ((Kd.R_reads' HO598.out).2.2))
       (case side4 => exact (Kd.R_reads' HO598.out).2.1)
       rintro e w40 ⟨rfl, hb⟩
       refine ⟨_, rfl, ?_⟩
       replace HO_8 := Aside0.mk (Kd.R_below (Rz HO_8) hb)
       replace HO_11 := Aside0.mk (Kd.R_below (Rz HO_11) hb)
       replace HO_590001 := Aside0.mk (Kd.R_below (Rz HO_590001) hb)
       replace HO598 := Aside0.mk (Kd.R_below (Rz HO598) hb)
       replace BK575 := Aside0.mk (blk_below (g := gb575) (o := .cells #[.int .i64 a0_0, .slice A0_1 l0_1.length c0_1] 24 (0, 0)) (Bz BK575) hb)
       replace BK589 := Aside0.mk (blk_below (g := gb589) (o := .cells #[.int .i64 t585, .slice Ao24 t586.length co24] 29 (0, 0)) (Bz BK589) hb)
       replace HB := Aside0.mk (below_step (by exact Lz2 HB GE575 GE589) hb)
       (try clear hb)
       (try clear hb2)
       (try clear hk)
       (try clear hi)
       refine hK.out _ _ ⟨(blk_cell BK589.out 0).trans rfl, (blk_cell BK589.out 1).trans rfl, (blk_cell BK575.out 0).trans rfl, (blk_cell BK575.out 1).trans rfl⟩ (fun hHeld => ?_)
       clear hK K
       refine norm_ (a' := ?_) ?_ ?_
       rotate_left
       ·show Act.put _ (some 52) _ = _
        simp only [Act.put, List.setIfInBounds_toArray, List.set_cons_zero, List.set_cons_succ, i64_w, i32_w]
        rfl
       refine pure_ (i := 4) (N := some 53) (v := ?_) (a' := ?_) #[true, true, true, true, true] rfl rfl (by kernel_rfl) (fun _ _ _ h => h) (Or.inl ⟨by rfl, ?_⟩) ?_ ?_
       rotate_left
       ·intro w'
        go_simp
        with_reducible rfl
       rotate_left
       ·simp only [Act.put, List.setIfInBounds_toArray, List.set_cons_zero, List.set_cons_succ, i64_w, i32_w]
        rfl
       refine done_ (by kernel_rfl) ?_
       go_upto_if 53 with (fail)
       go_cut [] (fun wc => ∃ (kq : Nat), Aside0 (laws_FnExactOneAt.j3 kq a1 a2 t581 t584 t590 t593 a0_0 l0_1 t585 t586 = some r) ∧ Aside0 (kq ≤ kj31) ∧ Aside0 (Kd.R (Kd.int .i64) 3 wc w.heap.size (fun k_ => some k_ ≠ (v591 : Value).ownBlock) v582 t581) ∧ Aside0 (Kd.R (Kd.int .i64) 3 wc w.heap.size (fun k_ => some k_ ≠ (v582 : Value).ownBlock) v591 t590) ∧ Aside0 (Kd.R k57 57 wc w.heap.size (fun _ => True) (.slice Ao24 t586.length co24) t586) ∧ Aside0 (wc.heap[gb575]? = some (.cells #[.int .i64 a0_0, (.slice A0_1 l0_1.length c0_1)] 24 (0, 0))) ∧ Aside0 (wc.heap[gb589]? = some (.cells #[.int .i64 t585, (.slice Ao24 t586.length co24)] 29 (0, 0))) ∧ Aside0 (Below w.heap.size w wc))
       case first =>
        have H := HC36.out
        clear HC36
        by_cases c41 : t599 = true
        ·subst c41
         have H1 : (laws_FnExactOneAt.j3 kj31 a1 a2 t581 t584 t590 t593 a0_0 l0_1 t585 t586) = some r := by rw [if_pos rfl] at H; exact H
         clear H
         have H := H1
         clear H1
         have H' := Aside0.mk H
         clear H
         go_wp2
         go_meet
         case rel => exact ⟨_, H', ⟨by have := HJ4.out; have := HJ13.out; have := HJ31.out; first | omega | exact Nat.le_refl _⟩, ⟨by exact Rz HO_8⟩, ⟨by exact Rz HO_11⟩, ⟨by (with_reducible repeat (first | apply Kd.R_alloc | apply Kd.R_drewN | apply Kd.R_drew)); exact Kd.R_mono HO_590001.out (fun _ hk => trivial)⟩, ⟨by exact Bz BK575⟩, ⟨by exact Bz BK589⟩, ⟨by exact Lz2 HB GE575 GE589⟩⟩
        replace c41 := Bool.eq_false_iff.mpr c41
        subst c41
        have H1 : (some false) = some r := by rw [if_neg (show ¬ (false = true) by decide)] at H; exact H
        clear H
        have H := H1
        clear H1
        obtain rfl := Option.some.inj H
        go_wp2
        go_ret
        exact ⟨by first | rfl | (simp [errW_none, errW_some] <;> rfl) | (simp [*, errW_none, errW_some] <;> rfl), by exact Lz2 HB GE575 GE589⟩
       case rest =>
        clear HC36
        try clear c9
        try clear c9b0
        try clear c27
        try clear c33
        try clear c41
        obtain ⟨kq, HA, HJ35, HO_8, HO_11, HO_590001, BK575, BK589, HB⟩ := hcut
        cases kq with
        | zero => exact absurd HA.out (by simp [laws_FnExactOneAt.j3])
        | succ kj35 =>
         have H := HA.out
         clear HA
         simp only [laws_FnExactOneAt.j3] at H
         replace H := Option.bind_eq_some_iff.mp H
         obtain ⟨⟨t600, t601⟩, A420, H⟩ := H
         replace H : (if t600 < 0 then (laws_FnExactOneAt.j4 kj35 a1 a2 t581 t584 t590 true a0_0 l0_1) else ((laws_eqIntS.f kj35 t590 t581).bind fun t602 => (if t602 = true then (laws_FnExactOneAt.j4 kj35 a1 a2 t581 t584 t590 (t593 != t584) a0_0 l0_1) else (laws_FnExactOneAt.j4 kj35 a1 a2 t581 t584 t590 true a0_0 l0_1)))) = some r := H
         have A42 := Aside0.mk A420
         clear A420
         have HC43 := Aside0.mk H
         clear H
         have hnb44 := NB589_575.out
         have hnc44 := NB575_589.out
         have hcz45_0 : wc.cell? ⟨gb589, 0, none⟩ = some (.int .i64 t585) := (blk_cell BK589.out 0).trans rfl
         have hcz45_1 : wc.cell? ⟨gb589, 1, none⟩ = some (.slice Ao24 t586.length co24) := (blk_cell BK589.out 1).trans rfl
         have hfz45_0 := blk_frozen BK589.out 0
         have hfz45_1 := blk_frozen BK589.out 1
         go_upto_region 14 with (first | ((with_reducible refine gate_callee (f := 50) rfl ?_); refine goesM_ (some 56) rfl rfl Try.func50 (by kernel_rfl) rfl #[.agg #[.int .i64 t585, .slice Ao24 t586.length co24], .int .i64 1] rfl ?_; (with_reducible refine (laws_markGraph.calls kj35 t585 (fun k_ => some k_ = (.slice Ao24 t586.length co24 : Value).ownBlock) (.slice Ao24 t586.length co24) t586 1 t600 t601 w _ ?side1 ?side2 A42.out).mono ?_); (case side1 => exact Lz2 HB GE575 GE589); (case side2 => exact Kd.R_tight rfl HO_590001.out); rintro e w46 ⟨rfl, hy0, hb, hkp⟩; refine ⟨_, rfl, ?_⟩; replace HO_8 := Aside0.mk (Kd.R_mono (ok' := fun k_ => some k_ ≠ (v591 : Value).ownBlock) (Kd.R_keptB ((Kd.R_apart' HO_8.out (Kd.R_typed HO_590001.out) (by decide))) hkp (fun k_ hk_ hs_ => (hk_.2) hs_)) (fun k_ hk_ => hk_.1.1)); replace HO_11 := Aside0.mk (Kd.R_mono (ok' := fun k_ => some k_ ≠ (v582 : Value).ownBlock) (Kd.R_keptB ((Kd.R_apart' HO_11.out (Kd.R_typed HO_590001.out) (by decide))) hkp (fun k_ hk_ hs_ => (hk_.2) hs_)) (fun k_ hk_ => hk_.1.1)); replace BK575 := Aside0.mk (blk_kept (Bz BK575) hkp (fun hs_ => (fun e_ => (Kd.R_ne HO_590001.out BK575.out (by decide)) e_) hs_)); replace BK589 := Aside0.mk (blk_kept (Bz BK589) hkp (fun hs_ => (fun e_ => (Kd.R_ne HO_590001.out BK589.out (by decide)) e_) hs_)); replace HO_590001 := Aside0.mk (Kd.R_reok rfl hy0 (fun k_ e_ => HO_590001.out.1 k_ e_)); replace HB := Aside0.mk (hb); (try clear hb); (try clear hkp); (try clear hy0)))
         (try simp only [Act.put, List.setIfInBounds_toArray, List.set_cons_zero, List.set_cons_succ])
         go_cut [69] (fun v69 wc => ∃ (kq : Nat) (x69_42 : Bool), v69 = .bool x69_42 ∧ Aside0 (laws_FnExactOneAt.j4 kq a1 a2 t581 t584 t590 x69_42 a0_0 l0_1 = some r) ∧ Aside0 (kq ≤ kj35) ∧ Aside0 (Kd.R (Kd.int .i64) 3 wc w.heap.size (fun k_ => some k_ ≠ (v591 : Value).ownBlock) v582 t581) ∧ Aside0 (Kd.R (Kd.int .i64) 3 wc w.heap.size (fun k_ => some k_ ≠ (v582 : Value).ownBlock) v591 t590) ∧ Aside0 (Kd.R k57 57 wc w.heap.size (fun _ => True) (.slice Ao24 t586.length co24) t601) ∧ Aside0 (wc.heap[gb575]? = some (.cells #[.int .i64 a0_0, (.slice A0_1 l0_1.length c0_1)] 24 (0, 0))) ∧ Aside0 (wc.heap[gb589]? = some (.cells #[.int .i64 t585, (.slice Ao24 t586.length co24)] 29 (0, 0))) ∧ Aside0 (Below w.heap.size w wc))
         case first =>
          have H := HC43.out
          clear HC43
          by_cases c47 : t600 < 0
          ·rw [if_pos c47] at H
           have c47b0 : decide (t600 < 0) = true := decide_eq_true c47
           clear c47
           (first | rw [c47b0] | (simp only [i64_w, i32_w]; rw [c47b0]) | skip)
           have H' := Aside0.mk H
           clear H
           go_wp2
           go_meet
           case rel => exact ⟨_, (true), (by first | rfl | (simp; done) | (simp [*]; done)), H', ⟨by have := HJ4.out; have := HJ13.out; have := HJ31.out; have := HJ35.out; first | omega | exact Nat.le_refl _⟩, ⟨by exact Rz HO_8⟩, ⟨by exact Rz HO_11⟩, ⟨by exact Rz HO_590001⟩, ⟨by exact Bz BK575⟩, ⟨by exact Bz BK589⟩, ⟨by exact Lz2 HB GE575 GE589⟩⟩
          rw [if_neg c47] at H
          have c47b0 : decide (t600 < 0) = false := decide_eq_false c47
          clear c47
          (first | rw [c47b0] | (simp only [i64_w, i32_w]; rw [c47b0]) | skip)
          replace H := Option.bind_eq_some_iff.mp H
          obtain ⟨t602, A480, H⟩ := H
          replace H : (if t602 = true then (laws_FnExactOneAt.j4 kj35 a1 a2 t581 t584 t590 (t593 != t584) a0_0 l0_1) else (laws_FnExactOneAt.j4 kj35 a1 a2 t581 t584 t590 true a0_0 l0_1)) = some r := H
          have A48 := Aside0.mk A480
          clear A480
          by_cases c49 : t602 = true
          ·subst c49
           have H1 : (laws_FnExactOneAt.j4 kj35 a1 a2 t581 t584 t590 (t593 != t584) a0_0 l0_1) = some r := by rw [if_pos rfl] at H; exact H
           clear H
           have H := H1
           clear H1
           have H' := Aside0.mk H
           clear H
           obtain ⟨Ao50, co50, eo50⟩ := Kd.R_slice HO_11.out
           subst eo50
           obtain ⟨Ao51, co51, eo51⟩ := Kd.R_slice HO_8.out
           subst eo51
           go_wp2_with (first | (go_at_call 34; (with_reducible refine (laws_eqIntS.calls kj35 _ _ t590 _ _ t581 true _ ?side1 ?side2 ?side3 ?side4 A48.out).mono ?_); (case side1 => exact Cz ((Kd.R_reads' HO_11.out).2.2)); (case side2 => exact (Kd.R_reads' HO_11.out).2.1); (case side3 => exact Cz ((Kd.R_reads' HO_8.out).2.2)); (case side4 => exact (Kd.R_reads' HO_8.out).2.1); rintro e w' ⟨rfl, ⟨nd, rfl⟩⟩))
           go_meet
           case rel => exact ⟨_, ((t593 != t584)), (by first | rfl | (simp; done) | (simp [*]; done)), H', ⟨by have := HJ4.out; have := HJ13.out; have := HJ31.out; have := HJ35.out; first | omega | exact Nat.le_refl _⟩, ⟨by exact Rz HO_8⟩, ⟨by exact Rz HO_11⟩, ⟨by exact Rz HO_590001⟩, ⟨by exact Bz BK575⟩, ⟨by exact Bz BK589⟩, ⟨by exact Lz2 HB GE575 GE589⟩⟩
          replace c49 := Bool.eq_false_iff.mpr c49
          subst c49
          have H1 : (laws_FnExactOneAt.j4 kj35 a1 a2 t581 t584 t590 true a0_0 l0_1) = some r := by rw [if_neg (show ¬ (false = true) by decide)] at H; exact H
          clear H
          have H := H1
          clear H1
          have H' := Aside0.mk H
          clear H
          obtain ⟨Ao52, co52, eo52⟩ := Kd.R_slice HO_11.out
          subst eo52
          obtain ⟨Ao53, co53, eo53⟩ := Kd.R_slice HO_8.out
          subst eo53
          go_wp2_with (first | (go_at_call 34; (with_reducible refine (laws_eqIntS.calls kj35 _ _ t590 _ _ t581 false _ ?side1 ?side2 ?side3 ?side4 A48.out).mono ?_); (case side1 => exact Cz ((Kd.R_reads' HO_11.out).2.2)); (case side2 => exact (Kd.R_reads' HO_11.out).2.1); (case side3 => exact Cz ((Kd.R_reads' HO_8.out).2.2)); (case side4 => exact (Kd.R_reads' HO_8.out).2.1); rintro e w' ⟨rfl, ⟨nd, rfl⟩⟩))
          go_meet
          case rel => exact ⟨_, (true), (by first | rfl | (simp; done) | (simp [*]; done)), H', ⟨by have := HJ4.out; have := HJ13.out; have := HJ31.out; have := HJ35.out; first | omega | exact Nat.le_refl _⟩, ⟨by exact Rz HO_8⟩, ⟨by exact Rz HO_11⟩, ⟨by exact Rz HO_590001⟩, ⟨by exact Bz BK575⟩, ⟨by exact Bz BK589⟩, ⟨by exact Lz2 HB GE575 GE589⟩⟩
         case rest =>
          clear HC43
          try clear c9
          try clear c9b0
          try clear c27
          try clear c33
          try clear c41
          try clear c47
          try clear c47b0
          try clear c49
          obtain ⟨kq, x69_42, rfl, HA, HJ42, HO_8, HO_11, HO_590001, BK575, BK589, HB⟩ := hcut
          have hl590001_42 := (Kd.R_reads' HO_590001.out).1
          rw [hl590001_42] at HO_590001
          (try simp only [hl590001_42])
          (try simp only [hl590001_42] at BK575)
          (try simp only [hl590001_42] at BK589)
          (try simp only [hl590001_42] at HO_8)
          (try simp only [hl590001_42] at HO_11)
          cases kq with
          | zero => exact absurd HA.out (by simp [laws_FnExactOneAt.j4])
          | succ kj42 =>
           have H := HA.out
           clear HA
           simp only [laws_FnExactOneAt.j4] at H
           have HC54 := Aside0.mk H
           clear H
           go_upto_if 69 with (fail)
           go_cut [] (fun wc => ∃ (kq : Nat), Aside0 (laws_FnExactOneAt.j5 kq a1 a2 t581 t584 t590 a0_0 l0_1 = some r) ∧ Aside0 (kq ≤ kj42) ∧ Aside0 (Kd.R (Kd.int .i64) 3 wc w.heap.size (fun k_ => some k_ ≠ (v591 : Value).ownBlock) v582 t581) ∧ Aside0 (Kd.R (Kd.int .i64) 3 wc w.heap.size (fun k_ => some k_ ≠ (v582 : Value).ownBlock) v591 t590) ∧ Aside0 (Kd.R k57 57 wc w.heap.size (fun _ => True) (.slice Ao24 t601.length co24) t601) ∧ Aside0 (wc.heap[gb575]? = some (.cells #[.int .i64 a0_0, (.slice A0_1 l0_1.length c0_1)] 24 (0, 0))) ∧ Aside0 (wc.heap[gb589]? = some (.cells #[.int .i64 t585, (.slice Ao24 t601.length co24)] 29 (0, 0))) ∧ Aside0 (Below w.heap.size w wc))
           case first =>
            have H := HC54.out
            clear HC54
            by_cases c55 : x69_42 = true
            ·subst c55
             have H1 : (some false) = some r := by rw [if_pos rfl] at H; exact H
             clear H
             have H := H1
             clear H1
             obtain rfl := Option.some.inj H
             go_wp2
             go_ret
             exact ⟨by first | rfl | (simp [errW_none, errW_some] <;> rfl) | (simp [*, errW_none, errW_some] <;> rfl), by exact Lz2 HB GE575 GE589⟩
            replace c55 := Bool.eq_false_iff.mpr c55
            subst c55
            have H1 : (laws_FnExactOneAt.j5 kj42 a1 a2 t581 t584 t590 a0_0 l0_1) = some r := by rw [if_neg (show ¬ (false = true) by decide)] at H; exact H
            clear H
            have H := H1
            clear H1
            have H' := Aside0.mk H
            clear H
            go_wp2
            go_meet
            case rel => exact ⟨_, H', ⟨by have := HJ4.out; have := HJ13.out; have := HJ31.out; have := HJ35.out; have := HJ42.out; first | omega | exact Nat.le_refl _⟩, ⟨by (try simp only [hl590001_42]); exact Rz HO_8⟩, ⟨by (try simp only [hl590001_42]); exact Rz HO_11⟩, ⟨by (try simp only [hl590001_42]); exact Rz HO_590001⟩, ⟨by (try simp only [hl590001_42]); exact Bz BK575⟩, ⟨by (try simp only [hl590001_42]); exact Bz BK589⟩, ⟨by exact Lz2 HB GE575 GE589⟩⟩
           case rest =>
            clear HC54
            try clear c9
            try clear c9b0
            try clear c27
            try clear c33
            try clear c41
            try clear c47
            try clear c47b0
            try clear c49
            try clear c55
            obtain ⟨kq, HA, HJ53, HO_8, HO_11, HO_590001, BK575, BK589, HB⟩ := hcut
            cases kq with
            | zero => exact absurd HA.out (by simp [laws_FnExactOneAt.j5])
            | succ kj53 =>
             have H := HA.out
             clear HA
             simp only [laws_FnExactOneAt.j5] at H
             replace H := Option.bind_eq_some_iff.mp H
             obtain ⟨⟨t603, t604⟩, A560, H⟩ := H
             replace H : ((laws_heldIntS.f kj53 t604 1).bind fun t605 => (if t605 < 0 then (some false) else (laws_FnExactOneAt.j6 kj53 a1 a2 t581 t584 t604 t603 t605 a0_0 l0_1))) = some r := H
             have A56 := Aside0.mk A560
             clear A560
             replace H := Option.bind_eq_some_iff.mp H
             obtain ⟨t605, A570, H⟩ := H
             replace H : (if t605 < 0 then (some false) else (laws_FnExactOneAt.j6 kj53 a1 a2 t581 t584 t604 t603 t605 a0_0 l0_1)) = some r := H
             have A57 := Aside0.mk A570
             clear A570
             have HC58 := Aside0.mk H
             clear H
             obtain ⟨Ao59, co59, eo59⟩ := Kd.R_slice HO_11.out
             subst eo59
             go_upto_if 77 with (first | ((with_reducible refine gate_callee (f := 36) rfl ?_); refine goesM_ (some 72) rfl rfl Try.func36 (by kernel_rfl) rfl #[.slice Ao59 t590.length co59, .int .i64 1] rfl ?_; (with_reducible refine (laws_markIntS.calls kj53 (fun k_ => some k_ = (.slice Ao59 t590.length co59 : Value).ownBlock) (.slice Ao59 t590.length co59) t590 1 t603 t604 w _ ?side1 ?side2 A56.out).mono ?_); (case side1 => exact Lz2 HB GE575 GE589); (case side2 => exact Kd.R_tight rfl HO_11.out); rintro e w60 ⟨rfl, hy0, hb, hkp⟩; refine ⟨_, rfl, ?_⟩; replace HO_8 := Aside0.mk (Kd.R_mono (ok' := fun k_ => some k_ ≠ (.slice Ao59 t590.length co59 : Value).ownBlock) (Kd.R_keptB (HO_8.out) hkp (fun k_ hk_ hs_ => (hk_) hs_)) (fun k_ hk_ => hk_.1)); replace HO_590001 := Aside0.mk (Kd.R_mono (ok' := fun k_ => True) (Kd.R_keptB ((Kd.R_apart' HO_590001.out (Kd.R_typed HO_11.out) (by decide))) hkp (fun k_ hk_ hs_ => (hk_.2) hs_)) (fun k_ hk_ => trivial)); replace BK575 := Aside0.mk (blk_kept (Bz BK575) hkp (fun hs_ => (fun e_ => (Kd.R_ne HO_11.out BK575.out (by decide)) e_) hs_)); replace BK589 := Aside0.mk (blk_kept (Bz BK589) hkp (fun hs_ => (fun e_ => (Kd.R_ne HO_11.out BK589.out (by decide)) e_) hs_)); replace HO_11 := Aside0.mk (Kd.R_reok rfl hy0 (fun k_ e_ => HO_11.out.1 k_ e_)); replace HB := Aside0.mk (hb); (try clear hb); (try clear hkp); (try clear hy0)) | ((with_reducible refine gate_callee (f := 37) rfl ?_); refine goesL_ (some 75) rfl rfl Try.func37 (by kernel_rfl) rfl #[.slice Ao59 t604.length co59, .int .i64 1] rfl (by (try simp only [List.map_toArray, List.map_cons, List.map_nil]); first | done | (rw [show t604.length = t590.length from (Kd.R_reads' HO_11.out).1.symm] <;> rfl) | rfl | (simp only [List.length_drop, List.length_take]; rfl)) ?_; (with_reducible refine (laws_heldIntS.calls kj53 _ _ t604 1 t605 _ ?side1 ?side2 A57.out).mono ?_); (case side1 => exact Cz ((Kd.R_reads' HO_11.out).2.2)); (case side2 => rw [show t604.length = t590.length from (Kd.R_reads' HO_11.out).1.symm]; exact (Kd.R_reads' HO_11.out).2.1); rintro e w' ⟨rfl, ⟨nd, rfl⟩⟩; refine ⟨_, rfl, ?_⟩))
             (try simp only [Act.put, List.setIfInBounds_toArray, List.set_cons_zero, List.set_cons_succ])
             go_cut [] (fun wc => ∃ (kq : Nat), Aside0 (laws_FnExactOneAt.j6 kq a1 a2 t581 t584 t604 t603 t605 a0_0 l0_1 = some r) ∧ Aside0 (kq ≤ kj53) ∧ Aside0 (Kd.R (Kd.int .i64) 3 wc w.heap.size (fun k_ => some k_ ≠ ((.slice Ao59 t590.length co59) : Value).ownBlock) v582 t581) ∧ Aside0 (Kd.R (Kd.int .i64) 3 wc w.heap.size (fun k_ => some k_ ≠ (v582 : Value).ownBlock) (.slice Ao59 t590.length co59) t604) ∧ Aside0 (Kd.R k57 57 wc w.heap.size (fun _ => True) (.slice Ao24 t601.length co24) t601) ∧ Aside0 (wc.heap[gb575]? = some (.cells #[.int .i64 a0_0, (.slice A0_1 l0_1.length c0_1)] 24 (0, 0))) ∧ Aside0 (wc.heap[gb589]? = some (.cells #[.int .i64 t585, (.slice Ao24 t601.length co24)] 29 (0, 0))) ∧ Aside0 (Below w.heap.size w wc))
             case first =>
              have H := HC58.out
              clear HC58
              by_cases c61 : t605 < 0
              ·rw [if_pos c61] at H
               have c61b0 : decide (t605 < 0) = true := decide_eq_true c61
               clear c61
               (first | rw [c61b0] | (simp only [i64_w, i32_w]; rw [c61b0]) | skip)
               obtain rfl := Option.some.inj H
               go_wp2
               go_ret
               exact ⟨by first | rfl | (simp [errW_none, errW_some] <;> rfl) | (simp [*, errW_none, errW_some] <;> rfl), by exact Lz2 HB GE575 GE589⟩
              rw [if_neg c61] at H
              have c61b0 : decide (t605 < 0) = false := decide_eq_false c61
              clear c61
              (first | rw [c61b0] | (simp only [i64_w, i32_w]; rw [c61b0]) | skip)
              have H' := Aside0.mk H
              clear H
              go_wp2
              go_meet
              case rel => exact ⟨_, H', ⟨by have := HJ4.out; have := HJ13.out; have := HJ31.out; have := HJ35.out; have := HJ42.out; have := HJ53.out; first | omega | exact Nat.le_refl _⟩, ⟨by (try simp only [hl590001_42]); exact Rz HO_8⟩, ⟨by (try simp only [hl590001_42]); exact Rz HO_11⟩, ⟨by (try simp only [hl590001_42]); exact Rz HO_590001⟩, ⟨by (try simp only [hl590001_42]); exact Bz BK575⟩, ⟨by (try simp only [hl590001_42]); exact Bz BK589⟩, ⟨by exact Lz2 HB GE575 GE589⟩⟩
             case rest =>
              clear HC58
              try clear c9
              try clear c9b0
              try clear c27
              try clear c33
              try clear c41
              try clear c47
              try clear c47b0
              try clear c49
              try clear c55
              try clear c61
              try clear c61b0
              obtain ⟨kq, HA, HJ57, HO_8, HO_11, HO_590001, BK575, BK589, HB⟩ := hcut
              have hl11_57 := (Kd.R_reads' HO_11.out).1
              rw [hl11_57] at HO_11
              (try simp only [hl11_57])
              (try simp only [hl11_57] at BK575)
              (try simp only [hl11_57] at BK589)
              (try simp only [hl11_57] at HO_8)
              (try simp only [hl11_57] at HO_590001)
              cases kq with
              | zero => exact absurd HA.out (by simp [laws_FnExactOneAt.j6])
              | succ kj57 =>
               have H := HA.out
               clear HA
               simp only [laws_FnExactOneAt.j6] at H
               have HC62 := Aside0.mk H
               clear H
               go_upto_if 80 with (fail)
               go_cut [] (fun wc => ∃ (kq : Nat), Aside0 (laws_FnExactOneAt.j7 kq a1 a2 t581 t584 t604 t603 a0_0 l0_1 = some r) ∧ Aside0 (kq ≤ kj57) ∧ Aside0 (Kd.R (Kd.int .i64) 3 wc w.heap.size (fun k_ => some k_ ≠ ((.slice Ao59 t604.length co59) : Value).ownBlock) v582 t581) ∧ Aside0 (Kd.R (Kd.int .i64) 3 wc w.heap.size (fun k_ => some k_ ≠ (v582 : Value).ownBlock) (.slice Ao59 t604.length co59) t604) ∧ Aside0 (Kd.R k57 57 wc w.heap.size (fun _ => True) (.slice Ao24 t601.length co24) t601) ∧ Aside0 (wc.heap[gb575]? = some (.cells #[.int .i64 a0_0, (.slice A0_1 l0_1.length c0_1)] 24 (0, 0))) ∧ Aside0 (wc.heap[gb589]? = some (.cells #[.int .i64 t585, (.slice Ao24 t601.length co24)] 29 (0, 0))) ∧ Aside0 (Below w.heap.size w wc))
               case first =>
                have H := HC62.out
                clear HC62
                by_cases c63 : t605 = t603
                ·rw [if_pos c63] at H
                 have c63b0 : (t605 == t603) = true := beq_iff_eq.mpr c63
                 have c63b1 : (t605 != t603) = false := bne_eq_false_iff_eq.mpr c63
                 clear c63
                 (first | rw [c63b0] | (simp only [i64_w, i32_w]; rw [c63b0]) | skip)
                 have H' := Aside0.mk H
                 clear H
                 go_wp2
                 go_meet
                 case rel => exact ⟨_, H', ⟨by have := HJ4.out; have := HJ13.out; have := HJ31.out; have := HJ35.out; have := HJ42.out; have := HJ53.out; have := HJ57.out; first | omega | exact Nat.le_refl _⟩, ⟨by (try simp only [hl590001_42]); (try simp only [hl11_57]); exact Rz HO_8⟩, ⟨by (try simp only [hl590001_42]); (try simp only [hl11_57]); exact Rz HO_11⟩, ⟨by (try simp only [hl590001_42]); (try simp only [hl11_57]); exact Rz HO_590001⟩, ⟨by (try simp only [hl590001_42]); (try simp only [hl11_57]); exact Bz BK575⟩, ⟨by (try simp only [hl590001_42]); (try simp only [hl11_57]); exact Bz BK589⟩, ⟨by exact Lz2 HB GE575 GE589⟩⟩
                rw [if_neg c63] at H
                have c63b0 : (t605 == t603) = false := beq_eq_false_iff_ne.mpr c63
                have c63b1 : (t605 != t603) = true := bne_iff_ne.mpr c63
                (first | rw [c63b0] | (simp only [i64_w, i32_w]; rw [c63b0]) | skip)
                obtain rfl := Option.some.inj H
                go_wp2
                go_ret
                exact ⟨by first | rfl | (simp [errW_none, errW_some] <;> rfl) | (simp [*, errW_none, errW_some] <;> rfl), by exact Lz2 HB GE575 GE589⟩
               case rest =>
                clear HC62
                try clear c9
                try clear c9b0
                try clear c27
                try clear c33
                try clear c41
                try clear c47
                try clear c47b0
                try clear c49
                try clear c55
                try clear c61
                try clear c61b0
                try clear c63
                try clear c63b0
                try clear c63b1
                obtain ⟨kq, HA, HJ61, HO_8, HO_11, HO_590001, BK575, BK589, HB⟩ := hcut
                cases kq with
                | zero => exact absurd HA.out (by simp [laws_FnExactOneAt.j7])
                | succ kj61 =>
                 have H := HA.out
                 clear HA
                 simp only [laws_FnExactOneAt.j7] at H
                 replace H := Option.bind_eq_some_iff.mp H
                 obtain ⟨⟨t606, t607⟩, A640, H⟩ := H
                 replace H : ((impl_OneAt.f kj61 t606 t607 a1 a2).bind fun bt610 => ((laws_eqIntS.f kj61 bt610.1 t581).bind fun t614 => (if t614 = true then (laws_FnExactOneAt.j8 kj61 t604 t603 (bt610.2 != t584)) else (laws_FnExactOneAt.j8 kj61 t604 t603 true)))) = some r := H
                 have A64 := Aside0.mk A640
                 clear A640
                 replace H := Option.bind_eq_some_iff.mp H
                 obtain ⟨⟨t610, t613⟩, A650, H⟩ := H
                 replace H : ((laws_eqIntS.f kj61 t610 t581).bind fun t614 => (if t614 = true then (laws_FnExactOneAt.j8 kj61 t604 t603 (t613 != t584)) else (laws_FnExactOneAt.j8 kj61 t604 t603 true))) = some r := H
                 have A65 := Aside0.mk A650
                 clear A650
                 have HC66 := Aside0.mk H
                 clear H
                 have hnb67 := NB575_589.out
                 have hnc67 := NB589_575.out
                 have hcz68_0 : wc.cell? ⟨gb575, 0, none⟩ = some (.int .i64 a0_0) := (blk_cell BK575.out 0).trans rfl
                 have hcz68_1 : wc.cell? ⟨gb575, 1, none⟩ = some (.slice A0_1 l0_1.length c0_1) := (blk_cell BK575.out 1).trans rfl
                 have hfz68_0 := blk_frozen BK575.out 0
                 have hfz68_1 := blk_frozen BK575.out 1
                 go_upto_region 25 with (first | ((with_reducible refine gate_callee (f := 17) rfl ?_); refine goesM_ (some 83) rfl rfl Try.func17 (by kernel_rfl) rfl #[.agg #[.int .i64 a0_0, .slice A0_1 l0_1.length c0_1]] rfl ?_; (with_reducible refine (laws_toGraph.calls kj61 a0_0 _ _ l0_1 t606 t607 _ ?side1 ?side2 A64.out).mono ?_); (case side1 => exact Cz ((Kd.C_below HR0_1.out HB.out))); (case side2 => exact HC0_1.out); rintro e w69 ⟨v608, rfl, ho0, hb⟩; refine ⟨_, rfl, ?_⟩; replace HO_8 := Aside0.mk (Kd.R_below (Rz HO_8) hb); replace HO_11 := Aside0.mk (Kd.R_below (Rz HO_11) hb); have HO609 := Aside0.mk (Kd.R_lower (Kd.R_new' ho0 (Kd.R_lt (Rz HO_590001))) (below_size (by exact Lz2 HB GE575 GE589))); replace HO_590001 := Aside0.mk (Kd.R_elder' (Rz HO_590001) (Kd.R_base ho0) hb); replace BK575 := Aside0.mk (blk_below (g := gb575) (o := .cells #[.int .i64 a0_0, .slice A0_1 l0_1.length c0_1] 24 (0, 0)) (Bz BK575) hb); replace BK589 := Aside0.mk (blk_below (g := gb589) (o := .cells #[.int .i64 t585, .slice Ao24 t601.length co24] 29 (0, 0)) (Bz BK589) hb); replace HB := Aside0.mk (below_step (by exact Lz2 HB GE575 GE589) hb); (try clear hb); (try clear ho0); obtain ⟨Ao70, co70, eo70⟩ := Kd.R_slice HO609.out; subst eo70) | ((with_reducible refine gate_callee (f := 49) rfl ?_); refine goesM_ (some 86) rfl rfl Try.func49 (by kernel_rfl) rfl #[.agg #[.int .i64 t606, .slice Ao70 t607.length co70], .int .i64 a1, .int .i64 a2] rfl ?_; (with_reducible refine (impl_OneAt.calls kj61 t606 _ _ t607 a1 a2 t610 t613 _ ?side1 ?side2 A65.out).mono ?_); (case side1 => exact Cz ((Kd.R_reads' HO609.out).2.2)); (case side2 => exact (Kd.R_reads' HO609.out).2.1); rintro e w71 ⟨v611, rfl, ho0, hb⟩; refine ⟨_, rfl, ?_⟩; replace HO_590001 := Aside0.mk (Kd.R_below (Rz HO_590001) hb); replace HO609 := Aside0.mk (Kd.R_below (Rz HO609) hb); have HO612 := Aside0.mk (Kd.R_lower (Kd.R_new' (Kd.R_new' ho0 (Kd.R_lt (Rz HO_8))) (Kd.R_lt (Rz HO_11))) (below_size (by exact Lz2 HB GE575 GE589))); replace HO_8 := Aside0.mk (Kd.R_elder' (Rz HO_8) (Kd.R_base ho0) hb); replace HO_11 := Aside0.mk (Kd.R_elder' (Rz HO_11) (Kd.R_base ho0) hb); replace BK575 := Aside0.mk (blk_below (g := gb575) (o := .cells #[.int .i64 a0_0, .slice A0_1 l0_1.length c0_1] 24 (0, 0)) (Bz BK575) hb); replace BK589 := Aside0.mk (blk_below (g := gb589) (o := .cells #[.int .i64 t585, .slice Ao24 t601.length co24] 29 (0, 0)) (Bz BK589) hb); replace HB := Aside0.mk (below_step (by exact Lz2 HB GE575 GE589) hb); (try clear hb); (try clear ho0)))
                 (try simp only [Act.put, List.setIfInBounds_toArray, List.set_cons_zero, List.set_cons_succ])
                 go_cut [97] (fun v97 wc => ∃ (kq : Nat) (x97_65 : Bool), v97 = .bool x97_65 ∧ Aside0 (laws_FnExactOneAt.j8 kq t604 t603 x97_65 = some r) ∧ Aside0 (kq ≤ kj61) ∧ Aside0 (Kd.R (Kd.int .i64) 3 wc w.heap.size (fun _ => True) (.slice Ao59 t604.length co59) t604) ∧ Aside0 (Kd.R k57 57 wc w.heap.size (fun _ => True) (.slice Ao24 t601.length co24) t601) ∧ Aside0 (wc.heap[gb575]? = some (.cells #[.int .i64 a0_0, (.slice A0_1 l0_1.length c0_1)] 24 (0, 0))) ∧ Aside0 (wc.heap[gb589]? = some (.cells #[.int .i64 t585, (.slice Ao24 t601.length co24)] 29 (0, 0))) ∧ Aside0 (Below w.heap.size w wc))
                 case first =>
                  have H := HC66.out
                  clear HC66
                  replace H := Option.bind_eq_some_iff.mp H
                  obtain ⟨t614, A720, H⟩ := H
                  replace H : (if t614 = true then (laws_FnExactOneAt.j8 kj61 t604 t603 (t613 != t584)) else (laws_FnExactOneAt.j8 kj61 t604 t603 true)) = some r := H
                  have A72 := Aside0.mk A720
                  clear A720
                  by_cases c73 : t614 = true
                  ·subst c73
                   have H1 : (laws_FnExactOneAt.j8 kj61 t604 t603 (t613 != t584)) = some r := by rw [if_pos rfl] at H; exact H
                   clear H
                   have H := H1
                   clear H1
                   have H' := Aside0.mk H
                   clear H
                   obtain ⟨Ao74, co74, eo74⟩ := Kd.R_slice HO612.out
                   subst eo74
                   obtain ⟨Ao75, co75, eo75⟩ := Kd.R_slice HO_8.out
                   subst eo75
                   go_wp2_with (first | ((with_reducible refine gate_callee (f := 34) rfl ?_); refine goesM_ (some 91) rfl rfl Try.func34 (by kernel_rfl) rfl #[.slice Ao74 t610.length co74, .slice Ao75 t581.length co75] rfl ?_; (with_reducible refine (laws_eqIntS.calls kj61 _ _ t610 _ _ t581 true _ ?side1 ?side2 ?side3 ?side4 A72.out).mono ?_); (case side1 => exact Cz ((Kd.R_reads' HO612.out).2.2)); (case side2 => exact (Kd.R_reads' HO612.out).2.1); (case side3 => exact Cz ((Kd.R_reads' HO_8.out).2.2)); (case side4 => exact (Kd.R_reads' HO_8.out).2.1); rintro e w' ⟨rfl, ⟨nd, rfl⟩⟩; refine ⟨_, rfl, ?_⟩))
                   go_meet
                   case rel => exact ⟨_, ((t613 != t584)), (by first | rfl | (simp; done) | (simp [*]; done)), H', ⟨by have := HJ4.out; have := HJ13.out; have := HJ31.out; have := HJ35.out; have := HJ42.out; have := HJ53.out; have := HJ57.out; have := HJ61.out; first | omega | exact Nat.le_refl _⟩, ⟨by (try simp only [hl590001_42]); (try simp only [hl11_57]); (with_reducible repeat (first | apply Kd.R_alloc | apply Kd.R_drewN | apply Kd.R_drew)); exact Kd.R_mono HO_11.out (fun _ hk => trivial)⟩, ⟨by (try simp only [hl590001_42]); (try simp only [hl11_57]); (with_reducible repeat (first | apply Kd.R_alloc | apply Kd.R_drewN | apply Kd.R_drew)); exact Kd.R_mono HO_590001.out (fun _ hk => trivial)⟩, ⟨by (try simp only [hl590001_42]); (try simp only [hl11_57]); exact Bz BK575⟩, ⟨by (try simp only [hl590001_42]); (try simp only [hl11_57]); exact Bz BK589⟩, ⟨by exact Lz2 HB GE575 GE589⟩⟩
                  replace c73 := Bool.eq_false_iff.mpr c73
                  subst c73
                  have H1 : (laws_FnExactOneAt.j8 kj61 t604 t603 true) = some r := by rw [if_neg (show ¬ (false = true) by decide)] at H; exact H
                  clear H
                  have H := H1
                  clear H1
                  have H' := Aside0.mk H
                  clear H
                  obtain ⟨Ao76, co76, eo76⟩ := Kd.R_slice HO612.out
                  subst eo76
                  obtain ⟨Ao77, co77, eo77⟩ := Kd.R_slice HO_8.out
                  subst eo77
                  go_wp2_with (first | ((with_reducible refine gate_callee (f := 34) rfl ?_); refine goesM_ (some 91) rfl rfl Try.func34 (by kernel_rfl) rfl #[.slice Ao76 t610.length co76, .slice Ao77 t581.length co77] rfl ?_; (with_reducible refine (laws_eqIntS.calls kj61 _ _ t610 _ _ t581 false _ ?side1 ?side2 ?side3 ?side4 A72.out).mono ?_); (case side1 => exact Cz ((Kd.R_reads' HO612.out).2.2)); (case side2 => exact (Kd.R_reads' HO612.out).2.1); (case side3 => exact Cz ((Kd.R_reads' HO_8.out).2.2)); (case side4 => exact (Kd.R_reads' HO_8.out).2.1); rintro e w' ⟨rfl, ⟨nd, rfl⟩⟩; refine ⟨_, rfl, ?_⟩))
                  go_meet
                  case rel => exact ⟨_, (true), (by first | rfl | (simp; done) | (simp [*]; done)), H', ⟨by have := HJ4.out; have := HJ13.out; have := HJ31.out; have := HJ35.out; have := HJ42.out; have := HJ53.out; have := HJ57.out; have := HJ61.out; first | omega | exact Nat.le_refl _⟩, ⟨by (try simp only [hl590001_42]); (try simp only [hl11_57]); (with_reducible repeat (first | apply Kd.R_alloc | apply Kd.R_drewN | apply Kd.R_drew)); exact Kd.R_mono HO_11.out (fun _ hk => trivial)⟩, ⟨by (try simp only [hl590001_42]); (try simp only [hl11_57]); (with_reducible repeat (first | apply Kd.R_alloc | apply Kd.R_drewN | apply Kd.R_drew)); exact Kd.R_mono HO_590001.out (fun _ hk => trivial)⟩, ⟨by (try simp only [hl590001_42]); (try simp only [hl11_57]); exact Bz BK575⟩, ⟨by (try simp only [hl590001_42]); (try simp only [hl11_57]); exact Bz BK589⟩, ⟨by exact Lz2 HB GE575 GE589⟩⟩
                 case rest =>
                  clear HC66
                  try clear c9
                  try clear c9b0
                  try clear c27
                  try clear c33
                  try clear c41
                  try clear c47
                  try clear c47b0
                  try clear c49
                  try clear c55
                  try clear c61
                  try clear c61b0
                  try clear c63
                  try clear c63b0
                  try clear c63b1
                  try clear c73
                  obtain ⟨kq, x97_65, rfl, HA, HJ65, HO_11, HO_590001, BK575, BK589, HB⟩ := hcut
                  cases kq with
                  | zero => exact absurd HA.out (by simp [laws_FnExactOneAt.j8])
                  | succ kj65 =>
                   have H := HA.out
                   clear HA
                   simp only [laws_FnExactOneAt.j8] at H
                   have HC78 := Aside0.mk H
                   clear H
                   go_upto_if 97 with (fail)
                   go_cut [] (fun wc => ∃ (kq : Nat), Aside0 (laws_FnExactOneAt.j9 kq t604 t603 = some r) ∧ Aside0 (kq ≤ kj65) ∧ Aside0 (Kd.R (Kd.int .i64) 3 wc w.heap.size (fun _ => True) (.slice Ao59 t604.length co59) t604) ∧ Aside0 (Kd.R k57 57 wc w.heap.size (fun _ => True) (.slice Ao24 t601.length co24) t601) ∧ Aside0 (wc.heap[gb575]? = some (.cells #[.int .i64 a0_0, (.slice A0_1 l0_1.length c0_1)] 24 (0, 0))) ∧ Aside0 (wc.heap[gb589]? = some (.cells #[.int .i64 t585, (.slice Ao24 t601.length co24)] 29 (0, 0))) ∧ Aside0 (Below w.heap.size w wc))
                   case first =>
                    have H := HC78.out
                    clear HC78
                    by_cases c79 : x97_65 = true
                    ·subst c79
                     have H1 : (some false) = some r := by rw [if_pos rfl] at H; exact H
                     clear H
                     have H := H1
                     clear H1
                     obtain rfl := Option.some.inj H
                     go_wp2
                     go_ret
                     exact ⟨by first | rfl | (simp [errW_none, errW_some] <;> rfl) | (simp [*, errW_none, errW_some] <;> rfl), by exact Lz2 HB GE575 GE589⟩
                    replace c79 := Bool.eq_false_iff.mpr c79
                    subst c79
                    have H1 : (laws_FnExactOneAt.j9 kj65 t604 t603) = some r := by rw [if_neg (show ¬ (false = true) by decide)] at H; exact H
                    clear H
                    have H := H1
                    clear H1
                    have H' := Aside0.mk H
                    clear H
                    go_wp2
                    go_meet
                    case rel => exact ⟨_, H', ⟨by have := HJ4.out; have := HJ13.out; have := HJ31.out; have := HJ35.out; have := HJ42.out; have := HJ53.out; have := HJ57.out; have := HJ61.out; have := HJ65.out; first | omega | exact Nat.le_refl _⟩, ⟨by (try simp only [hl590001_42]); (try simp only [hl11_57]); exact Rz HO_11⟩, ⟨by (try simp only [hl590001_42]); (try simp only [hl11_57]); exact Rz HO_590001⟩, ⟨by (try simp only [hl590001_42]); (try simp only [hl11_57]); exact Bz BK575⟩, ⟨by (try simp only [hl590001_42]); (try simp only [hl11_57]); exact Bz BK589⟩, ⟨by exact Lz2 HB GE575 GE589⟩⟩
                   case rest =>
                    clear HC78
                    try clear c9
                    try clear c9b0
                    try clear c27
                    try clear c33
                    try clear c41
                    try clear c47
                    try clear c47b0
                    try clear c49
                    try clear c55
                    try clear c61
                    try clear c61b0
                    try clear c63
                    try clear c63b0
                    try clear c63b1
                    try clear c73
                    try clear c79
                    obtain ⟨kq, HA, HJ77, HO_11, HO_590001, BK575, BK589, HB⟩ := hcut
                    cases kq with
                    | zero => exact absurd HA.out (by simp [laws_FnExactOneAt.j9])
                    | succ kj77 =>
                     have H := HA.out
                     clear HA
                     simp only [laws_FnExactOneAt.j9] at H
                     replace H := Option.bind_eq_some_iff.mp H
                     obtain ⟨t615, A800, H⟩ := H
                     replace H : (if t615 < 0 then (some false) else (laws_FnExactOneAt.j10 kj77 t603 t615)) = some r := H
                     have A80 := Aside0.mk A800
                     clear A800
                     have HC81 := Aside0.mk H
                     clear H
                     go_upto_if 102 with (first | ((with_reducible refine gate_callee (f := 37) rfl ?_); refine goesM_ (some 100) rfl rfl Try.func37 (by kernel_rfl) rfl #[.slice Ao59 t604.length co59, .int .i64 1] rfl ?_; (with_reducible refine (laws_heldIntS.calls kj77 _ _ t604 1 t615 _ ?side1 ?side2 A80.out).mono ?_); (case side1 => exact Cz ((Kd.R_reads' HO_11.out).2.2)); (case side2 => exact (Kd.R_reads' HO_11.out).2.1); rintro e w' ⟨rfl, ⟨nd, rfl⟩⟩; refine ⟨_, rfl, ?_⟩))
                     (try simp only [Act.put, List.setIfInBounds_toArray, List.set_cons_zero, List.set_cons_succ])
                     go_cut [] (fun wc => ∃ (kq : Nat), Aside0 (laws_FnExactOneAt.j10 kq t603 t615 = some r) ∧ Aside0 (kq ≤ kj77) ∧ Aside0 (Kd.R k57 57 wc w.heap.size (fun _ => True) (.slice Ao24 t601.length co24) t601) ∧ Aside0 (wc.heap[gb575]? = some (.cells #[.int .i64 a0_0, (.slice A0_1 l0_1.length c0_1)] 24 (0, 0))) ∧ Aside0 (wc.heap[gb589]? = some (.cells #[.int .i64 t585, (.slice Ao24 t601.length co24)] 29 (0, 0))) ∧ Aside0 (Below w.heap.size w wc))
                     case first =>
                      have H := HC81.out
                      clear HC81
                      by_cases c82 : t615 < 0
                      ·rw [if_pos c82] at H
                       have c82b0 : decide (t615 < 0) = true := decide_eq_true c82
                       clear c82
                       (first | rw [c82b0] | (simp only [i64_w, i32_w]; rw [c82b0]) | skip)
                       obtain rfl := Option.some.inj H
                       go_wp2
                       go_ret
                       exact ⟨by first | rfl | (simp [errW_none, errW_some] <;> rfl) | (simp [*, errW_none, errW_some] <;> rfl), by exact Lz2 HB GE575 GE589⟩
                      rw [if_neg c82] at H
                      have c82b0 : decide (t615 < 0) = false := decide_eq_false c82
                      clear c82
                      (first | rw [c82b0] | (simp only [i64_w, i32_w]; rw [c82b0]) | skip)
                      have H' := Aside0.mk H
                      clear H
                      go_wp2
                      go_meet
                      case rel => exact ⟨_, H', ⟨by have := HJ4.out; have := HJ13.out; have := HJ31.out; have := HJ35.out; have := HJ42.out; have := HJ53.out; have := HJ57.out; have := HJ61.out; have := HJ65.out; have := HJ77.out; first | omega | exact Nat.le_refl _⟩, ⟨by (try simp only [hl590001_42]); (try simp only [hl11_57]); exact Rz HO_590001⟩, ⟨by (try simp only [hl590001_42]); (try simp only [hl11_57]); exact Bz BK575⟩, ⟨by (try simp only [hl590001_42]); (try simp only [hl11_57]); exact Bz BK589⟩, ⟨by exact Lz2 HB GE575 GE589⟩⟩
                     case rest =>
                      clear HC81
                      try clear c9
                      try clear c9b0
                      try clear c27
                      try clear c33
                      try clear c41
                      try clear c47
                      try clear c47b0
                      try clear c49
                      try clear c55
                      try clear c61
                      try clear c61b0
                      try clear c63
                      try clear c63b0
                      try clear c63b1
                      try clear c73
                      try clear c79
                      try clear c82
                      try clear c82b0
                      obtain ⟨kq, HA, HJ80, HO_590001, BK575, BK589, HB⟩ := hcut
                      cases kq with
                      | zero => exact absurd HA.out (by simp [laws_FnExactOneAt.j10])
                      | succ kj80 =>
                       have H := HA.out
                       clear HA
                       simp only [laws_FnExactOneAt.j10] at H
                       by_cases c83 : t615 = t603
                       ·rw [if_pos c83] at H
                        have c83b0 : (t615 == t603) = true := beq_iff_eq.mpr c83
                        have c83b1 : (t615 != t603) = false := bne_eq_false_iff_eq.mpr c83
                        clear c83
                        obtain rfl := Option.some.inj H
                        go_wp2
                        go_ret
                        exact ⟨by first | rfl | (simp [errW_none, errW_some] <;> rfl) | (simp [*, errW_none, errW_some] <;> rfl), by exact Lz2 HB GE575 GE589⟩
                       rw [if_neg c83] at H
                       have c83b0 : (t615 == t603) = false := beq_eq_false_iff_ne.mpr c83
                       have c83b1 : (t615 != t603) = true := bne_iff_ne.mpr c83
                       obtain rfl := Option.some.inj H
                       go_wp2
                       go_ret
                       exact ⟨by first | rfl | (simp [errW_none, errW_some] <;> rfl) | (simp [*, errW_none, errW_some] <;> rfl), by exact Lz2 HB GE575 GE589⟩

end Go.Proofs.Ytkdhjeimcnackaa.P
