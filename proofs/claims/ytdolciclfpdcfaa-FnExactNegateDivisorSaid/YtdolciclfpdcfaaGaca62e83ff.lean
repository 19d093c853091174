/- Functions of the program as plain Lean functions, and that the machine's calls answer as they do. Written for this claim by a program of this work that drives the kit's print engine; Lean checks it. -/
import Derived.Test.YtdolciclfpdcfaaGc228f34524
import Derived.Test.YtdolciclfpdcfaaG9aeb678cf6
import Derived.Test.YtdolciclfpdcfaaGfb3176eed4
namespace Go.Proofs.Ytdolciclfpdcfaa.P
open Go.RowKit Go.Proofs.YtdolciclfpdcfaaW.PrintWords Go.Proofs.YtdolciclfpdcfaaW.PrintLast Go.Proofs.YtdolciclfpdcfaaW.PrintMore
attribute [local go_sem] max2_int min2_int max_two min_two max_three min_three max_four min_four   -- for this text's walks alone
set_option linter.unusedVariables false
set_option linter.unusedSimpArgs false

/-! ### spec_NegateDivisor: function 27 -/
def spec_NegateDivisor.l0 : Nat → List Int → List Int → Int → Int → Option (List Int)
 | 0, _, _, _, _ => none
 | k + 1, x3, x7, x8, x9 => if x9 < x8 then (if 0 ≤ x9 then (if x9 < (x7.length : Int) then (if x3.length < 17592186044416 then (spec_NegateDivisor.l0 k (x3 ++ [wrap64 (-(rd x7 x9))]) x7 x8 (wrap64 (x9 + 1))) else (none)) else (none)) else (none)) else (some x3)
def spec_NegateDivisor.f (k : Nat) (l0 : List Int) : Option (List Int) := spec_NegateDivisor.l0 k (([] : List Int)) l0 (l0.length : Int) 0
set_option maxHeartbeats 8000000 in
set_option maxRecDepth 100000 in
theorem spec_NegateDivisor.calls (k : Nat) (A0 : Option Addr) (c0 : Nat) (l0 : List Int) (r : List Int) (w : World) (hr0 : Kd.C (Kd.int .i64) w A0 l0.length l0) (hc0 : l0.length ≤ c0) (h : spec_NegateDivisor.f k l0 = some r) :
  Calls Try.prog 27 #[.slice A0 l0.length c0] w fun e w' => ∃ v0_ : Value, e = .returned (v0_) ∧ Kd.R (Kd.int .i64) 3 w' w.heap.size (fun _ => True) v0_ r ∧ Below w.heap.size w w' := by
 have HR0 := Aside0.mk hr0
 have HC0 := Aside0.mk hc0
 clear hr0 hc0
 have HB := Aside0.mk (Below.refl w.heap.size w)
 have H : (spec_NegateDivisor.l0 k (([] : List Int)) l0 (l0.length : Int) 0) = some r := h
 clear h
 obtain ⟨y169, hy169⟩ : ∃ y_ : List Int, y_ = (([] : List Int)) := ⟨_, rfl⟩
 replace H : (spec_NegateDivisor.l0 k y169 l0 (l0.length : Int) 0) = some r := by first | (rw [hy169]; with_reducible exact H) | (have H2_ := (Option.bind_some _ _).symm.trans H; rw [hy169]; with_reducible exact H2_) | (have H2_ := (Option.bind_some _ _).symm.trans H; with_reducible exact H2_) | with_reducible exact H | (rw [hy169]; exact H) | exact H
 have Ny169 := Aside0.mk hy169
 clear hy169
 have H' := Aside0.mk H
 clear H
 go_enter Try.func27, Try.ntmps27
 go_wp2_with (first | ((with_reducible refine gate_dst (N := 6) rfl ?_); refine Kd.R_lit (Kd.int .i64) _ 3 ?hg (N := 6) ?hd (xs := ([] : List Int)) (inner := []) (ok := fun _ => True) (okp := fun _ => True) ?hr ?hp (fun _ hk => hk) trivial (Below.refl _ _) (Nat.le_refl _) (by simp) ?_; (case hd => rfl); (case hg => rfl); (case hr => first | (go_simp; done) | (go_simp; rfl)); (case hp => exact (Reps.none _ _)); intro v170 w2 ho3 hb hg_ hnew_; clear hg_ hnew_; (first | rw [← Ny169.out] at ho3 | (simp only [Int.reduceToNat] at ho3; rw [← Ny169.out] at ho3)); have HO171 := Aside0.mk (Kd.R_lower ho3 (below_size (Lz HB))); replace HB := Aside0.mk (below_step (Lz HB) hb); clear hb ho3))
 go_loopg [3, 9] k (fun kq v3 v9 w' => ∃ (x3_1 : List Int) (x9_1 : Int), v9 = .int .i64 x9_1 ∧ Aside0 (spec_NegateDivisor.l0 kq x3_1 l0 (l0.length : Int) x9_1 = some r) ∧ Aside0 (kq ≤ k) ∧ Aside0 (Kd.R (Kd.int .i64) 3 w' w.heap.size (fun _ => True) v3 x3_1) ∧ Aside0 (Below w.heap.size w w'))
 case atStart => exact ⟨(y169), (0), (by first | rfl | (simp; done) | (simp [*]; done)), H', ⟨Nat.le_refl _⟩, ⟨by exact Rz HO171⟩, ⟨by exact Lz HB⟩⟩
 case round =>
  clear H'
  obtain ⟨x3_1, x9_1, rfl, HA, HK1, HO_3, HB⟩ := hrel
  cases gk with
  | zero => exact absurd HA.out (by simp [spec_NegateDivisor.l0])
  | succ k1 =>
   have H := HA.out
   clear HA
   simp only [spec_NegateDivisor.l0] at H
   by_cases c4 : x9_1 < (l0.length : Int)
   ·rw [if_pos c4] at H
    have c4b0 : decide (x9_1 < (l0.length : Int)) = true := decide_eq_true c4
    clear c4
    by_cases c5 : 0 ≤ x9_1
    ·rw [if_pos c5] at H
     have c5b0 : decide (0 ≤ x9_1) = true := decide_eq_true c5
     clear c5
     by_cases c6 : x9_1 < (l0.length : Int)
     ·rw [if_pos c6] at H
      have c6b0 : decide (x9_1 < (l0.length : Int)) = true := decide_eq_true c6
      clear c6
      by_cases c7 : x3_1.length < 17592186044416
      ·rw [if_pos c7] at H
       have LMc7 := Aside0.mk c7
       clear c7
       obtain ⟨y173, hy173⟩ : ∃ y_ : List Int, y_ = (x3_1 ++ [wrap64 (-(rd l0 x9_1))]) := ⟨_, rfl⟩
       replace H : (spec_NegateDivisor.l0 k1 y173 l0 (l0.length : Int) (wrap64 (x9_1 + 1))) = some r := by first | (rw [hy173]; with_reducible exact H) | (have H2_ := (Option.bind_some _ _).symm.trans H; rw [hy173]; with_reducible exact H2_) | (have H2_ := (Option.bind_some _ _).symm.trans H; with_reducible exact H2_) | with_reducible exact H | (rw [hy173]; exact H) | exact H
       have Ny173 := Aside0.mk hy173
       clear hy173
       have H' := Aside0.mk H
       clear H
       have p172 : 0 ≤ (x9_1 : Int) := of_decide_eq_true (by first | (with_reducible assumption) | assumption)
       have q172 : x9_1 < (l0.length : Int) := of_decide_eq_true (by first | (with_reducible assumption) | assumption)
       obtain ⟨ad172, e172, hx172_0⟩ := Kd.at_int HR0.out x9_1 p172 q172
       cases e172
       replace hx172_0 := (HB.out.cell (World.block_lt_of_cell? w _ hx172_0)).trans hx172_0
       replace p172 := eq_true p172
       replace q172 := eq_true q172
       go_wp2_with (first | ((with_reducible refine gate_builtin (b := .append) (xs := #[.tmp 13, .tmp 16]) rfl ?_); at_builtin; refine Kd.R_append (Kd.int .i64) (w0 := w) w.heap.size rfl (.tmp 13) (.tmp 16) 23 3 (.int .i64 0) 8 rfl Try.underlying23 info3 rfl (by decide) (by omega) u3 x3_1 (wrap64 (-(rd l0 x9_1))) [.int .i64 (wrap64 (-(rd l0 x9_1)))] (fun _ => True) (fun _ => False) rfl rfl ?aP (fun _ hk => hk.elim) ?aF ?aO ?aB ?aS ?aL ?_; (case aP => exact rfl); (case aB => exact (Lz HB)); (case aF => exact (fun _ _ => trivial)); (case aO => exact (Rz HO_3)); (case aS => exact (below_size (Lz HB))); (case aL => have := LMc7.out; omega); intro v174 w8 ho hb hg hat; rw [← Ny173.out] at ho; replace HB := Aside0.mk (hb); have HO175 := Aside0.mk (ho); clear HO_3; clear ho hb hg hat))
       go_roundg k1
       case measure => have := HK1.out; omega
       case rel => exact ⟨(y173), (wrap64 (x9_1 + 1)), (by first | rfl | (simp; done) | (simp [*]; done)), H', ⟨by have := HK1.out; omega⟩, ⟨by exact Rz HO175⟩, ⟨by exact Lz HB⟩⟩
      rw [if_neg c7] at H
      exact absurd H (by simp)
     rw [if_neg c6] at H
     exact absurd H (by simp)
    rw [if_neg c5] at H
    exact absurd H (by simp)
   rw [if_neg c4] at H
   have c4b0 : decide (x9_1 < (l0.length : Int)) = false := decide_eq_false c4
   clear c4
   obtain rfl := Option.some.inj H
   go_wp2
   go_ret
   exact ⟨_, by first | rfl | (simp [errW_none, errW_some] <;> rfl) | (simp [*, errW_none, errW_some] <;> rfl), by exact Rz HO_3, by exact Lz HB⟩

/-! ### impl_NegateDivisor: function 28 -/
def impl_NegateDivisor.l0 : Nat → List Int → Int → Int → Option (List Int)
 | 0, _, _, _ => none
 | k + 1, x3, x8, x9 => if x9 < x8 then (if 0 ≤ x9 then (if x9 < (x3.length : Int) then (impl_NegateDivisor.l0 k (x3.set (x9 : Int).toNat (wrap64 (-(rd x3 x9)))) x8 (wrap64 (x9 + 1))) else (none)) else (none)) else (some x3)
def impl_NegateDivisor.f (k : Nat) (l0 : List Int) : Option (List Int) := (impl_copyInts.f l0).bind fun t179 => (impl_NegateDivisor.l0 k t179 (t179.length : Int) 0)
set_option maxHeartbeats 8000000 in
set_option maxRecDepth 100000 in
theorem impl_NegateDivisor.calls (k : Nat) (A0 : Option Addr) (c0 : Nat) (l0 : List Int) (r : List Int) (w : World) (hr0 : Kd.C (Kd.int .i64) w A0 l0.length l0) (hc0 : l0.length ≤ c0) (h : impl_NegateDivisor.f k l0 = some r) :
  Calls Try.prog 28 #[.slice A0 l0.length c0] w fun e w' => ∃ v0_ : Value, e = .returned (v0_) ∧ Kd.R (Kd.int .i64) 3 w' w.heap.size (fun _ => True) v0_ r ∧ Below w.heap.size w w' := by
 have HR0 := Aside0.mk hr0
 have HC0 := Aside0.mk hc0
 clear hr0 hc0
 have HB := Aside0.mk (Below.refl w.heap.size w)
 have H : ((impl_copyInts.f l0).bind fun t179 => (impl_NegateDivisor.l0 k t179 (t179.length : Int) 0)) = some r := h
 clear h
 replace H := Option.bind_eq_some_iff.mp H
 obtain ⟨t179, A20, H⟩ := H
 replace H : (impl_NegateDivisor.l0 k t179 (t179.length : Int) 0) = some r := H
 have A2 := Aside0.mk A20
 clear A20
 have H' := Aside0.mk H
 clear H
 go_enter Try.func28, Try.ntmps28
 go_wp2_with (first | ((with_reducible refine gate_callee (f := 49) rfl ?_); refine goesM_ (some 6) rfl rfl Try.func49 (by kernel_rfl) rfl #[.slice A0 l0.length c0] rfl ?_; (with_reducible refine (impl_copyInts.calls _ _ l0 t179 _ ?side1 ?side2 A2.out).mono ?_); (case side1 => exact Cz (HR0.out)); (case side2 => exact HC0.out); rintro e w3 ⟨v180, rfl, ho0, hb⟩; refine ⟨_, rfl, ?_⟩; have HO181 := Aside0.mk (Kd.R_lower ho0 (below_size (Lz HB))); replace HB := Aside0.mk (below_step (Lz HB) hb); (try clear hb); (try clear ho0); obtain ⟨Ao4, co4, eo4⟩ := Kd.R_slice HO181.out; subst eo4))
 go_loopg [9] k (fun kq v9 w' => ∃ (x3_1 : List Int) (x9_1 : Int), v9 = .int .i64 x9_1 ∧ Aside0 (impl_NegateDivisor.l0 kq x3_1 (t179.length : Int) x9_1 = some r) ∧ Aside0 (kq ≤ k) ∧ Aside0 (Kd.R (Kd.int .i64) 3 w' w.heap.size (fun _ => True) (.slice Ao4 t179.length co4) x3_1) ∧ Aside0 (Below w.heap.size w w'))
 case atStart => exact ⟨(t179), (0), (by first | rfl | (simp; done) | (simp [*]; done)), H', ⟨Nat.le_refl _⟩, ⟨by exact Rz HO181⟩, ⟨by exact Lz HB⟩⟩
 case round =>
  clear H'
  obtain ⟨x3_1, x9_1, rfl, HA, HK1, HO_3, HB⟩ := hrel
  have hl3_1 := (Kd.R_reads' HO_3.out).1
  rw [hl3_1] at HO_3
  (try simp only [hl3_1])
  cases gk with
  | zero => exact absurd HA.out (by simp [impl_NegateDivisor.l0])
  | succ k1 =>
   have H := HA.out
   clear HA
   simp only [impl_NegateDivisor.l0] at H
   by_cases c5 : x9_1 < (t179.length : Int)
   ·rw [if_pos c5] at H
    have c5b0 : decide (x9_1 < (t179.length : Int)) = true := decide_eq_true c5
    (try simp only [hl3_1] at c5b0)
    clear c5
    by_cases c6 : 0 ≤ x9_1
    ·rw [if_pos c6] at H
     have c6b0 : decide (0 ≤ x9_1) = true := decide_eq_true c6
     clear c6
     by_cases c7 : x9_1 < (x3_1.length : Int)
     ·rw [if_pos c7] at H
      have c7b0 : decide (x9_1 < (x3_1.length : Int)) = true := decide_eq_true c7
      (try simp only [hl3_1] at c7b0)
      clear c7
      obtain ⟨y183, hy183⟩ : ∃ y_ : List Int, y_ = (x3_1.set (x9_1 : Int).toNat (wrap64 (-(rd x3_1 x9_1)))) := ⟨_, rfl⟩
      replace H : (impl_NegateDivisor.l0 k1 y183 (t179.length : Int) (wrap64 (x9_1 + 1))) = some r := by first | (rw [hy183]; with_reducible exact H) | (have H2_ := (Option.bind_some _ _).symm.trans H; rw [hy183]; with_reducible exact H2_) | (have H2_ := (Option.bind_some _ _).symm.trans H; with_reducible exact H2_) | with_reducible exact H | (rw [hy183]; exact H) | exact H
      have Ny183 := Aside0.mk hy183
      clear hy183
      have H' := Aside0.mk H
      clear H
      have p182 : 0 ≤ (x9_1 : Int) := of_decide_eq_true (by first | (with_reducible assumption) | assumption)
      have q182 : x9_1 < (x3_1.length : Int) := of_decide_eq_true (by first | (with_reducible assumption) | assumption)
      obtain ⟨ad182, e182, hx182_0⟩ := Kd.at_int (Kd.R_reads' HO_3.out).2.2 x9_1 p182 q182
      cases e182
      replace p182 := eq_true p182
      replace q182 := eq_true q182
      have p8 : 0 ≤ (x9_1 : Int) := of_decide_eq_true (by first | (with_reducible assumption) | assumption)
      have q8 : (x9_1 : Int) < ((x3_1.length : Int) : Int) := of_decide_eq_true (by first | (with_reducible assumption) | assumption)
      obtain ⟨go8, co8, eo8, gb8, gl8, cl8, HG8⟩ := Kd.R_form HO_3.out (by omega)
      (first | cases eo8 | (injection eo8 with ea_ en_ ec_; (first | subst ea_ | (injection ea_ with ea_; subst ea_)); subst ec_; clear en_))
      have GB8 := Aside0.mk gb8
      have GG8 := Aside0.mk HG8
      clear gb8 gl8 HG8
      (first | simp only [add_plain] at hx182_0 | skip)
      obtain ⟨hx8_0, hf8_0⟩ := Kd.R_celln 0 HO_3.out (x9_1 : Int) p8 q8
      replace p8 := eq_true p8
      replace q8 := eq_true q8
      have HP9 := Kd.R_putg HO_3.out (x9_1 : Int) (wrap64 (-(rd x3_1 x9_1)))
      go_wp2_with (first | ((with_reducible refine gate_store (t := 3) (p := 19) rfl ?_); refine store_event (t := 3) (p := 19) (v := ?vo_w10) (w1 := (wr.setCell ⟨go8, (x9_1 : Int).toNat, none⟩ (.int .i64 (wrap64 (-(rd x3_1 x9_1)))))) ?hg ?ho ?hn ?hr ?_; (case ho => rfl); (case hg => rfl); (case hn => rfl); (case hr => first | (go_simp; done) | (go_simp; rfl)); intro w10 hw; have hg : wr.grownBy w10 (some go8) := (by rw [hw]; exact HP9.2); have hp_ : Kd.R (Kd.int .i64) 3 w10 w.heap.size (fun _ => True) (.slice (some ⟨go8, 0, none⟩) x3_1.length co4) y183 := (by rw [hw, Ny183.out]; exact HP9.1); clear HP9; replace HO_3 := Aside0.mk (hp_); replace HB := Aside0.mk ((by rw [hw]; exact below_set (HB.out) GB8.out : Below w.heap.size w w10)); clear hg hw hp_))
      (try simp only [← hl3_1])
      go_roundg k1
      case measure => have := HK1.out; omega
      case rel => exact ⟨(y183), (wrap64 (x9_1 + 1)), (by first | rfl | (simp; done) | (simp [*]; done)), H', ⟨by have := HK1.out; omega⟩, ⟨by (try simp only [hl3_1]); exact Rz HO_3⟩, ⟨by exact Lz HB⟩⟩
     rw [if_neg c7] at H
     exact absurd H (by simp)
    rw [if_neg c6] at H
    exact absurd H (by simp)
   rw [if_neg c5] at H
   have c5b0 : decide (x9_1 < (t179.length : Int)) = false := decide_eq_false c5
   (try simp only [hl3_1] at c5b0)
   clear c5
   obtain rfl := Option.some.inj H
   go_wp2
   go_ret
   exact ⟨_, by first | rfl | (simp [errW_none, errW_some] <;> rfl) | (simp [*, errW_none, errW_some] <;> rfl), by exact Rz HO_3, by exact Lz HB⟩

/-! ### laws_FnExactNegateDivisor: function 8 -/
mutual
def laws_FnExactNegateDivisor.j0 : Nat → List Int → Option (Bool)
 | 0, _ => none
 | k + 1, x0 => (laws_toIntS.f k x0).bind fun t186 => ((spec_NegateDivisor.f k t186).bind fun t189 => ((laws_toIntS.f k x0).bind fun t192 => ((impl_NegateDivisor.f k t192).bind fun t195 => ((laws_eqIntS.f k t195 t189).bind fun t198 => (if t198 = true then (laws_FnExactNegateDivisor.j1 k x0 t189 t192 t195) else (some false))))))
def laws_FnExactNegateDivisor.j1 : Nat → List Int → List Int → List Int → List Int → Option (Bool)
 | 0, _, _, _, _ => none
 | k + 1, x0, x3, x4, x5 => (laws_toIntS.f k x0).bind fun t199 => ((laws_eqIntS.f k x4 t199).bind fun t202 => (if t202 = true then (laws_FnExactNegateDivisor.j2 k x0 x3 x4 x5) else (some false)))
def laws_FnExactNegateDivisor.j2 : Nat → List Int → List Int → List Int → List Int → Option (Bool)
 | 0, _, _, _, _ => none
 | k + 1, x0, x3, x4, x5 => (laws_markIntS.f k x4 1).bind fun bt203 => (if bt203.1 < 0 then (laws_FnExactNegateDivisor.j3 k x0 x3 x5 true) else ((laws_eqIntS.f k x5 x3).bind fun t205 => (laws_FnExactNegateDivisor.j3 k x0 x3 x5 (!t205))))
def laws_FnExactNegateDivisor.j3 : Nat → List Int → List Int → List Int → Bool → Option (Bool)
 | 0, _, _, _, _ => none
 | k + 1, x0, x3, x5, x39 => if x39 = true then (some false) else (laws_FnExactNegateDivisor.j4 k x0 x3 x5)
def laws_FnExactNegateDivisor.j4 : Nat → List Int → List Int → List Int → Option (Bool)
 | 0, _, _, _ => none
 | k + 1, x0, x3, x5 => (laws_markIntS.f k x5 1).bind fun bt206 => ((laws_heldIntS.f k bt206.2 1).bind fun t208 => (if t208 < 0 then (some false) else (laws_FnExactNegateDivisor.j5 k x0 x3 bt206.2 bt206.1 t208)))
def laws_FnExactNegateDivisor.j5 : Nat → List Int → List Int → List Int → Int → Int → Option (Bool)
 | 0, _, _, _, _, _ => none
 | k + 1, x0, x3, x5, x7, x8 => if x8 = x7 then (laws_FnExactNegateDivisor.j6 k x0 x3 x5 x7) else (some false)
def laws_FnExactNegateDivisor.j6 : Nat → List Int → List Int → List Int → Int → Option (Bool)
 | 0, _, _, _, _ => none
 | k + 1, x0, x3, x5, x7 => (laws_toIntS.f k x0).bind fun t209 => ((impl_NegateDivisor.f k t209).bind fun t212 => ((laws_eqIntS.f k t212 x3).bind fun t215 => (if t215 = true then (laws_FnExactNegateDivisor.j7 k x5 x7) else (some false))))
def laws_FnExactNegateDivisor.j7 : Nat → List Int → Int → Option (Bool)
 | 0, _, _ => none
 | k + 1, x5, x7 => (laws_heldIntS.f k x5 1).bind fun t216 => (if t216 < 0 then (some false) else (laws_FnExactNegateDivisor.j8 k x7 t216))
def laws_FnExactNegateDivisor.j8 : Nat → Int → Int → Option (Bool)
 | 0, _, _ => none
 | k + 1, x7, x8 => if x8 = x7 then (some true) else (some false)
end
def laws_FnExactNegateDivisor.f (k : Nat) (l0 : List Int) : Option (Bool) := if (l0.length : Int) > 1048576 then (some true) else (laws_FnExactNegateDivisor.j0 k l0)
set_option maxHeartbeats 8000000 in
set_option maxRecDepth 100000 in
theorem laws_FnExactNegateDivisor.calls (k : Nat) (A0 : Option Addr) (c0 : Nat) (l0 : List Int) (r : Bool) (w : World) (hr0 : Kd.C (Kd.int .i64) w A0 l0.length l0) (hc0 : l0.length ≤ c0) (h : laws_FnExactNegateDivisor.f k l0 = some r) :
  Calls Try.prog 8 #[.slice A0 l0.length c0] w fun e w' => e = .returned (.bool r) ∧ Below w.heap.size w w' := by
 have HR0 := Aside0.mk hr0
 have HC0 := Aside0.mk hc0
 clear hr0 hc0
 have HB := Aside0.mk (Below.refl w.heap.size w)
 have H : (if (l0.length : Int) > 1048576 then (some true) else (laws_FnExactNegateDivisor.j0 k l0)) = some r := h
 clear h
 have HC2 := Aside0.mk H
 clear H
 go_enter Try.func8, Try.ntmps8
 go_upto_if 12 with (fail)
 go_cut [] (fun wc => ∃ (kq : Nat), Aside0 (laws_FnExactNegateDivisor.j0 kq l0 = some r) ∧ Aside0 (kq ≤ k) ∧ Aside0 (Below w.heap.size w wc))
 case first =>
  have H := HC2.out
  clear HC2
  by_cases c3 : (l0.length : Int) > 1048576
  ·rw [if_pos c3] at H
   have c3b0 : decide (1048576 < (l0.length : Int)) = true := decide_eq_true c3
   (try simp only [hl5_33] at c3b0)
   have c3b1 : decide (1048576 < l0.length) = true := decide_eq_true (by omega)
   (try simp only [hl5_33] at c3b1)
   clear c3
   (first | rw [c3b0] | (simp only [i64_w, i32_w]; rw [c3b0]) | skip)
   obtain rfl := Option.some.inj H
   go_wp2
   go_ret
   exact ⟨by first | rfl | (simp [errW_none, errW_some] <;> rfl) | (simp [*, errW_none, errW_some] <;> rfl), by exact Lz HB⟩
  rw [if_neg c3] at H
  have c3b0 : decide (1048576 < (l0.length : Int)) = false := decide_eq_false c3
  (try simp only [hl5_33] at c3b0)
  have c3b1 : decide (1048576 < l0.length) = false := decide_eq_false (by omega)
  (try simp only [hl5_33] at c3b1)
  clear c3
  (first | rw [c3b0] | (simp only [i64_w, i32_w]; rw [c3b0]) | skip)
  have H' := Aside0.mk H
  clear H
  go_wp2
  go_meet
  case rel => exact ⟨_, H', ⟨by first | omega | exact Nat.le_refl _⟩, ⟨by exact Lz HB⟩⟩
 case rest =>
  clear HC2
  try clear c3
  try clear c3b0
  try clear c3b1
  obtain ⟨kq, HA, HJ1, HB⟩ := hcut
  cases kq with
  | zero => exact absurd HA.out (by simp [laws_FnExactNegateDivisor.j0])
  | succ kj1 =>
   have H := HA.out
   clear HA
   simp only [laws_FnExactNegateDivisor.j0] at H
   replace H := Option.bind_eq_some_iff.mp H
   obtain ⟨t186, A40, H⟩ := H
   replace H : ((spec_NegateDivisor.f kj1 t186).bind fun t189 => ((laws_toIntS.f kj1 l0).bind fun t192 => ((impl_NegateDivisor.f kj1 t192).bind fun t195 => ((laws_eqIntS.f kj1 t195 t189).bind fun t198 => (if t198 = true then (laws_FnExactNegateDivisor.j1 kj1 l0 t189 t192 t195) else (some false)))))) = some r := H
   have A4 := Aside0.mk A40
   clear A40
   replace H := Option.bind_eq_some_iff.mp H
   obtain ⟨t189, A50, H⟩ := H
   replace H : ((laws_toIntS.f kj1 l0).bind fun t192 => ((impl_NegateDivisor.f kj1 t192).bind fun t195 => ((laws_eqIntS.f kj1 t195 t189).bind fun t198 => (if t198 = true then (laws_FnExactNegateDivisor.j1 kj1 l0 t189 t192 t195) else (some false))))) = some r := H
   have A5 := Aside0.mk A50
   clear A50
   replace H := Option.bind_eq_some_iff.mp H
   obtain ⟨t192, A60, H⟩ := H
   replace H : ((impl_NegateDivisor.f kj1 t192).bind fun t195 => ((laws_eqIntS.f kj1 t195 t189).bind fun t198 => (if t198 = true then (laws_FnExactNegateDivisor.j1 kj1 l0 t189 t192 t195) else (some false)))) = some r := H
   have A6 := Aside0.mk A60
   clear A60
   replace H := Option.bind_eq_some_iff.mp H
   obtain ⟨t195, A70, H⟩ := H
   replace H : ((laws_eqIntS.f kj1 t195 t189).bind fun t198 => (if t198 = true then (laws_FnExactNegateDivisor.j1 kj1 l0 t189 t192 t195) else (some false))) = some r := H
   have A7 := Aside0.mk A70
   clear A70
   replace H := Option.bind_eq_some_iff.mp H
   obtain ⟨t198, A80, H⟩ := H
   replace H : (if t198 = true then (laws_FnExactNegateDivisor.j1 kj1 l0 t189 t192 t195) else (some false)) = some r := H
   have A8 := Aside0.mk A80
   clear A80
   have HC9 := Aside0.mk H
   clear H
   go_upto_if 23 with (first | ((with_reducible refine gate_callee (f := 20) rfl ?_); refine goesM_ (some 14) rfl rfl Try.func20 (by kernel_rfl) rfl #[.slice A0 l0.length c0] rfl ?_; (with_reducible refine (laws_toIntS.calls kj1 _ _ l0 t186 _ ?side1 ?side2 A4.out).mono ?_); (case side1 => exact Cz ((Kd.C_below HR0.out HB.out))); (case side2 => exact HC0.out); rintro e w10 ⟨v187, rfl, ho0, hb⟩; refine ⟨_, rfl, ?_⟩; have HO188 := Aside0.mk (Kd.R_lower ho0 (below_size (Lz HB))); replace HB := Aside0.mk (below_step (Lz HB) hb); (try clear hb); (try clear ho0); obtain ⟨Ao11, co11, eo11⟩ := Kd.R_slice HO188.out; subst eo11) | ((with_reducible refine gate_callee (f := 27) rfl ?_); refine goesM_ (some 15) rfl rfl Try.func27 (by kernel_rfl) rfl #[.slice Ao11 t186.length co11] rfl ?_; (with_reducible refine (spec_NegateDivisor.calls kj1 _ _ t186 t189 _ ?side1 ?side2 A5.out).mono ?_); (case side1 => exact Cz ((Kd.R_reads' HO188.out).2.2)); (case side2 => exact (Kd.R_reads' HO188.out).2.1); rintro e w12 ⟨v190, rfl, ho0, hb⟩; refine ⟨_, rfl, ?_⟩; have HO191 := Aside0.mk (Kd.R_lower (Kd.R_new' ho0 (Kd.R_lt (Rz HO188))) (below_size (Lz HB))); replace HO188 := Aside0.mk (Kd.R_elder' (Rz HO188) (Kd.R_base ho0) hb); replace HB := Aside0.mk (below_step (Lz HB) hb); (try clear hb); (try clear ho0)) | ((with_reducible refine gate_callee (f := 20) rfl ?_); refine goesM_ (some 17) rfl rfl Try.func20 (by kernel_rfl) rfl #[.slice A0 l0.length c0] rfl ?_; (with_reducible refine (laws_toIntS.calls kj1 _ _ l0 t192 _ ?side1 ?side2 A6.out).mono ?_); (case side1 => exact Cz ((Kd.C_below HR0.out HB.out))); (case side2 => exact HC0.out); rintro e w13 ⟨v193, rfl, ho0, hb⟩; refine ⟨_, rfl, ?_⟩; have HO194 := Aside0.mk (Kd.R_lower (Kd.R_new' (Kd.R_new' ho0 (Kd.R_lt (Rz HO188))) (Kd.R_lt (Rz HO191))) (below_size (Lz HB))); replace HO188 := Aside0.mk (Kd.R_elder' (Rz HO188) (Kd.R_base ho0) hb); replace HO191 := Aside0.mk (Kd.R_elder' (Rz HO191) (Kd.R_base ho0) hb); replace HB := Aside0.mk (below_step (Lz HB) hb); (try clear hb); (try clear ho0); obtain ⟨Ao14, co14, eo14⟩ := Kd.R_slice HO194.out; subst eo14) | ((with_reducible refine gate_callee (f := 28) rfl ?_); refine goesM_ (some 19) rfl rfl Try.func28 (by kernel_rfl) rfl #[.slice Ao14 t192.length co14] rfl ?_; (with_reducible refine (impl_NegateDivisor.calls kj1 _ _ t192 t195 _ ?side1 ?side2 A7.out).mono ?_); (case side1 => exact Cz ((Kd.R_reads' HO194.out).2.2)); (case side2 => exact (Kd.R_reads' HO194.out).2.1); rintro e w15 ⟨v196, rfl, ho0, hb⟩; refine ⟨_, rfl, ?_⟩; have HO197 := Aside0.mk (Kd.R_lower (Kd.R_new' (Kd.R_new' (Kd.R_new' ho0 (Kd.R_lt (Rz HO188))) (Kd.R_lt (Rz HO191))) (Kd.R_lt (Rz HO194))) (below_size (Lz HB))); replace HO188 := Aside0.mk (Kd.R_elder' (Rz HO188) (Kd.R_base ho0) hb); replace HO191 := Aside0.mk (Kd.R_elder' (Rz HO191) (Kd.R_base ho0) hb); replace HO194 := Aside0.mk (Kd.R_elder' (Rz HO194) (Kd.R_base ho0) hb); replace HB := Aside0.mk (below_step (Lz HB) hb); (try clear hb); (try clear ho0); obtain ⟨Ao16, co16, eo16⟩ := Kd.R_slice HO197.out; subst eo16; obtain ⟨Ao17, co17, eo17⟩ := Kd.R_slice HO191.out; subst eo17) | ((with_reducible refine gate_callee (f := 22) rfl ?_); refine goesM_ (some 22) rfl rfl Try.func22 (by kernel_rfl) rfl #[.slice Ao16 t195.length co16, .slice Ao17 t189.length co17] rfl ?_; (with_reducible refine (laws_eqIntS.calls kj1 _ _ t195 _ _ t189 t198 _ ?side1 ?side2 ?side3 ?side4 A8.out).mono ?_); (case side1 => exact Cz ((Kd.R_reads' HO197.out).2.2)); (case side2 => exact (Kd.R_reads' HO197.out).2.1); (case side3 => exact Cz ((Kd.R_reads' HO191.out).2.2)); (case side4 => exact (Kd.R_reads' HO191.out).2.1); rintro e w' ⟨rfl, ⟨nd, rfl⟩⟩; refine ⟨_, rfl, ?_⟩))
   (try simp only [Act.put, List.setIfInBounds_toArray, List.set_cons_zero, List.set_cons_succ])
   go_cut [] (fun wc => ∃ (kq : Nat), Aside0 (laws_FnExactNegateDivisor.j1 kq l0 t189 t192 t195 = some r) ∧ Aside0 (kq ≤ kj1) ∧ Aside0 (Kd.R (Kd.int .i64) 3 wc w.heap.size (fun k_ => some k_ ≠ ((.slice Ao14 t192.length co14) : Value).ownBlock ∧ some k_ ≠ ((.slice Ao16 t195.length co16) : Value).ownBlock) (.slice Ao17 t189.length co17) t189) ∧ Aside0 (Kd.R (Kd.int .i64) 3 wc w.heap.size (fun k_ => some k_ ≠ ((.slice Ao17 t189.length co17) : Value).ownBlock ∧ some k_ ≠ ((.slice Ao16 t195.length co16) : Value).ownBlock) (.slice Ao14 t192.length co14) t192) ∧ Aside0 (Kd.R (Kd.int .i64) 3 wc w.heap.size (fun k_ => some k_ ≠ ((.slice Ao17 t189.length co17) : Value).ownBlock ∧ some k_ ≠ ((.slice Ao14 t192.length co14) : Value).ownBlock) (.slice Ao16 t195.length co16) t195) ∧ Aside0 (Below w.heap.size w wc))
   case first =>
    have H := HC9.out
    clear HC9
    by_cases c18 : t198 = true
    ·subst c18
     have H1 : (laws_FnExactNegateDivisor.j1 kj1 l0 t189 t192 t195) = some r := by rw [if_pos rfl] at H; exact H
     clear H
     have H := H1
     clear H1
     have H' := Aside0.mk H
     clear H
     go_wp2
     go_meet
     case rel => exact ⟨_, H', ⟨by have := HJ1.out; first | omega | exact Nat.le_refl _⟩, ⟨by (with_reducible repeat (first | apply Kd.R_alloc | apply Kd.R_drewN | apply Kd.R_drew)); exact Kd.R_mono HO191.out (fun _ hk => ⟨hk.1.2, hk.2⟩)⟩, ⟨by (with_reducible repeat (first | apply Kd.R_alloc | apply Kd.R_drewN | apply Kd.R_drew)); exact Kd.R_mono HO194.out (fun _ hk => ⟨hk.1.2, hk.2⟩)⟩, ⟨by (with_reducible repeat (first | apply Kd.R_alloc | apply Kd.R_drewN | apply Kd.R_drew)); exact Kd.R_mono HO197.out (fun _ hk => ⟨hk.1.2, hk.2⟩)⟩, ⟨by exact Lz HB⟩⟩
    replace c18 := Bool.eq_false_iff.mpr c18
    subst c18
    have H1 : (some false) = some r := by rw [if_neg (show ¬ (false = true) by decide)] at H; exact H
    clear H
    have H := H1
    clear H1
    obtain rfl := Option.some.inj H
    go_wp2
    go_ret
    exact ⟨by first | rfl | (simp [errW_none, errW_some] <;> rfl) | (simp [*, errW_none, errW_some] <;> rfl), by exact Lz HB⟩
   case rest =>
    clear HC9
    try clear c3
    try clear c3b0
    try clear c3b1
    try clear c18
    obtain ⟨kq, HA, HJ8, HO_3, HO_4, HO_5, HB⟩ := hcut
    cases kq with
    | zero => exact absurd HA.out (by simp [laws_FnExactNegateDivisor.j1])
    | succ kj8 =>
     have H := HA.out
     clear HA
     simp only [laws_FnExactNegateDivisor.j1] at H
     replace H := Option.bind_eq_some_iff.mp H
     obtain ⟨t199, A190, H⟩ := H
     replace H : ((laws_eqIntS.f kj8 t192 t199).bind fun t202 => (if t202 = true then (laws_FnExactNegateDivisor.j2 kj8 l0 t189 t192 t195) else (some false))) = some r := H
     have A19 := Aside0.mk A190
     clear A190
     replace H := Option.bind_eq_some_iff.mp H
     obtain ⟨t202, A200, H⟩ := H
     replace H : (if t202 = true then (laws_FnExactNegateDivisor.j2 kj8 l0 t189 t192 t195) else (some false)) = some r := H
     have A20 := Aside0.mk A200
     clear A200
     have HC21 := Aside0.mk H
     clear H
     go_upto_if 28 with (first | ((with_reducible refine gate_callee (f := 20) rfl ?_); refine goesM_ (some 26) rfl rfl Try.func20 (by kernel_rfl) rfl #[.slice A0 l0.length c0] rfl ?_; (with_reducible refine (laws_toIntS.calls kj8 _ _ l0 t199 _ ?side1 ?side2 A19.out).mono ?_); (case side1 => exact Cz ((Kd.C_below HR0.out HB.out))); (case side2 => exact HC0.out); rintro e w22 ⟨v200, rfl, ho0, hb⟩; refine ⟨_, rfl, ?_⟩; have HO201 := Aside0.mk (Kd.R_lower (Kd.R_new' (Kd.R_new' (Kd.R_new' ho0 (Kd.R_lt (Rz HO_3))) (Kd.R_lt (Rz HO_4))) (Kd.R_lt (Rz HO_5))) (below_size (Lz HB))); replace HO_3 := Aside0.mk (Kd.R_elder' (Rz HO_3) (Kd.R_base ho0) hb); replace HO_4 := Aside0.mk (Kd.R_elder' (Rz HO_4) (Kd.R_base ho0) hb); replace HO_5 := Aside0.mk (Kd.R_elder' (Rz HO_5) (Kd.R_base ho0) hb); replace HB := Aside0.mk (below_step (Lz HB) hb); (try clear hb); (try clear ho0); obtain ⟨Ao23, co23, eo23⟩ := Kd.R_slice HO201.out; subst eo23) | ((with_reducible refine gate_callee (f := 22) rfl ?_); refine goesM_ (some 27) rfl rfl Try.func22 (by kernel_rfl) rfl #[.slice Ao14 t192.length co14, .slice Ao23 t199.length co23] rfl ?_; (with_reducible refine (laws_eqIntS.calls kj8 _ _ t192 _ _ t199 t202 _ ?side1 ?side2 ?side3 ?side4 A20.out).mono ?_); (case side1 => exact Cz ((Kd.R_reads' HO_4.out).2.2)); (case side2 => exact (Kd.R_reads' HO_4.out).2.1); (case side3 => exact Cz ((Kd.R_reads' HO201.out).2.2)); (case side4 => exact (Kd.R_reads' HO201.out).2.1); rintro e w' ⟨rfl, ⟨nd, rfl⟩⟩; refine ⟨_, rfl, ?_⟩))
     (try simp only [Act.put, List.setIfInBounds_toArray, List.set_cons_zero, List.set_cons_succ])
     go_cut [] (fun wc => ∃ (kq : Nat), Aside0 (laws_FnExactNegateDivisor.j2 kq l0 t189 t192 t195 = some r) ∧ Aside0 (kq ≤ kj8) ∧ Aside0 (Kd.R (Kd.int .i64) 3 wc w.heap.size (fun k_ => some k_ ≠ ((.slice Ao14 t192.length co14) : Value).ownBlock ∧ some k_ ≠ ((.slice Ao16 t195.length co16) : Value).ownBlock) (.slice Ao17 t189.length co17) t189) ∧ Aside0 (Kd.R (Kd.int .i64) 3 wc w.heap.size (fun k_ => some k_ ≠ ((.slice Ao17 t189.length co17) : Value).ownBlock ∧ some k_ ≠ ((.slice Ao16 t195.length co16) : Value).ownBlock) (.slice Ao14 t192.length co14) t192) ∧ Aside0 (Kd.R (Kd.int .i64) 3 wc w.heap.size (fun k_ => some k_ ≠ ((.slice Ao17 t189.length co17) : Value).ownBlock ∧ some k_ ≠ ((.slice Ao14 t192.length co14) : Value).ownBlock) (.slice Ao16 t195.length co16) t195) ∧ Aside0 (Below w.heap.size w wc))
     case first =>
      have H := HC21.out
      clear HC21
      by_cases c24 : t202 = true
      ·subst c24
       have H1 : (laws_FnExactNegateDivisor.j2 kj8 l0 t189 t192 t195) = some r := by rw [if_pos rfl] at H; exact H
       clear H
       have H := H1
       clear H1
       have H' := Aside0.mk H
       clear H
       go_wp2
       go_meet
       case rel => exact ⟨_, H', ⟨by have := HJ1.out; have := HJ8.out; first | omega | exact Nat.le_refl _⟩, ⟨by (with_reducible repeat (first | apply Kd.R_alloc | apply Kd.R_drewN | apply Kd.R_drew)); exact Kd.R_mono HO_3.out (fun _ hk => ⟨hk.1.1, hk.1.2⟩)⟩, ⟨by (with_reducible repeat (first | apply Kd.R_alloc | apply Kd.R_drewN | apply Kd.R_drew)); exact Kd.R_mono HO_4.out (fun _ hk => ⟨hk.1.1, hk.1.2⟩)⟩, ⟨by (with_reducible repeat (first | apply Kd.R_alloc | apply Kd.R_drewN | apply Kd.R_drew)); exact Kd.R_mono HO_5.out (fun _ hk => ⟨hk.1.1, hk.1.2⟩)⟩, ⟨by exact Lz HB⟩⟩
      replace c24 := Bool.eq_false_iff.mpr c24
      subst c24
      have H1 : (some false) = some r := by rw [if_neg (show ¬ (false = true) by decide)] at H; exact H
      clear H
      have H := H1
      clear H1
      obtain rfl := Option.some.inj H
      go_wp2
      go_ret
      exact ⟨by first | rfl | (simp [errW_none, errW_some] <;> rfl) | (simp [*, errW_none, errW_some] <;> rfl), by exact Lz HB⟩
     case rest =>
      clear HC21
      try clear c3
      try clear c3b0
      try clear c3b1
      try clear c18
      try clear c24
      obtain ⟨kq, HA, HJ20, HO_3, HO_4, HO_5, HB⟩ := hcut
      cases kq with
      | zero => exact absurd HA.out (by simp [laws_FnExactNegateDivisor.j2])
      | succ kj20 =>
       have H := HA.out
       clear HA
       simp only [laws_FnExactNegateDivisor.j2] at H
       replace H := Option.bind_eq_some_iff.mp H
       obtain ⟨⟨t203, t204⟩, A250, H⟩ := H
       replace H : (if t203 < 0 then (laws_FnExactNegateDivisor.j3 kj20 l0 t189 t195 true) else ((laws_eqIntS.f kj20 t195 t189).bind fun t205 => (laws_FnExactNegateDivisor.j3 kj20 l0 t189 t195 (!t205)))) = some r := H
       have A25 := Aside0.mk A250
       clear A250
       have HC26 := Aside0.mk H
       clear H
       go_upto_region 12 with (first | ((with_reducible refine gate_callee (f := 29) rfl ?_); refine goesM_ (some 31) rfl rfl Try.func29 (by kernel_rfl) rfl #[.slice Ao14 t192.length co14, .int .i64 1] rfl ?_; (with_reducible refine (laws_markIntS.calls kj20 (fun k_ => some k_ = (.slice Ao14 t192.length co14 : Value).ownBlock) (.slice Ao14 t192.length co14) t192 1 t203 t204 w _ ?side1 ?side2 A25.out).mono ?_); (case side1 => exact Lz HB); (case side2 => exact Kd.R_tight rfl HO_4.out); rintro e w27 ⟨rfl, hy0, hb, hkp⟩; refine ⟨_, rfl, ?_⟩; replace HO_3 := Aside0.mk (Kd.R_mono (ok' := fun k_ => some k_ ≠ (.slice Ao14 t192.length co14 : Value).ownBlock ∧ some k_ ≠ (.slice Ao16 t195.length co16 : Value).ownBlock) (Kd.R_keptB (HO_3.out) hkp (fun k_ hk_ hs_ => (hk_.1) hs_)) (fun k_ hk_ => ⟨hk_.1.1, hk_.1.2⟩)); replace HO_4 := Aside0.mk (Kd.R_reok rfl hy0 (fun k_ e_ => HO_4.out.1 k_ e_)); replace HO_5 := Aside0.mk (Kd.R_mono (ok' := fun k_ => some k_ ≠ (.slice Ao17 t189.length co17 : Value).ownBlock ∧ some k_ ≠ (.slice Ao14 t192.length co14 : Value).ownBlock) (Kd.R_keptB (HO_5.out) hkp (fun k_ hk_ hs_ => (hk_.2) hs_)) (fun k_ hk_ => ⟨hk_.1.1, hk_.1.2⟩)); replace HB := Aside0.mk (hb); (try clear hb); (try clear hkp); (try clear hy0)))
       (try simp only [Act.put, List.setIfInBounds_toArray, List.set_cons_zero, List.set_cons_succ])
       go_cut [39] (fun v39 wc => ∃ (kq : Nat) (x39_25 : Bool), v39 = .bool x39_25 ∧ Aside0 (laws_FnExactNegateDivisor.j3 kq l0 t189 t195 x39_25 = some r) ∧ Aside0 (kq ≤ kj20) ∧ Aside0 (Kd.R (Kd.int .i64) 3 wc w.heap.size (fun k_ => some k_ ≠ ((.slice Ao16 t195.length co16) : Value).ownBlock) (.slice Ao17 t189.length co17) t189) ∧ Aside0 (Kd.R (Kd.int .i64) 3 wc w.heap.size (fun k_ => some k_ ≠ ((.slice Ao17 t189.length co17) : Value).ownBlock) (.slice Ao16 t195.length co16) t195) ∧ Aside0 (Below w.heap.size w wc))
       case first =>
        have H := HC26.out
        clear HC26
        by_cases c28 : t203 < 0
        ·rw [if_pos c28] at H
         have c28b0 : decide (t203 < 0) = true := decide_eq_true c28
         clear c28
         (first | rw [c28b0] | (simp only [i64_w, i32_w]; rw [c28b0]) | skip)
         have H' := Aside0.mk H
         clear H
         go_wp2
         go_meet
         case rel => exact ⟨_, (true), (by first | rfl | (simp; done) | (simp [*]; done)), H', ⟨by have := HJ1.out; have := HJ8.out; have := HJ20.out; first | omega | exact Nat.le_refl _⟩, ⟨by (with_reducible repeat (first | apply Kd.R_alloc | apply Kd.R_drewN | apply Kd.R_drew)); exact Kd.R_mono HO_3.out (fun _ hk => hk.2)⟩, ⟨by (with_reducible repeat (first | apply Kd.R_alloc | apply Kd.R_drewN | apply Kd.R_drew)); exact Kd.R_mono HO_5.out (fun _ hk => hk.1)⟩, ⟨by exact Lz HB⟩⟩
        rw [if_neg c28] at H
        have c28b0 : decide (t203 < 0) = false := decide_eq_false c28
        clear c28
        (first | rw [c28b0] | (simp only [i64_w, i32_w]; rw [c28b0]) | skip)
        replace H := Option.bind_eq_some_iff.mp H
        obtain ⟨t205, A290, H⟩ := H
        replace H : (laws_FnExactNegateDivisor.j3 kj20 l0 t189 t195 (!t205)) = some r := H
        have A29 := Aside0.mk A290
        clear A290
        have H' := Aside0.mk H
        clear H
        go_wp2_with (first | (go_at_call 22; (with_reducible refine (laws_eqIntS.calls kj20 _ _ t195 _ _ t189 t205 _ ?side1 ?side2 ?side3 ?side4 A29.out).mono ?_); (case side1 => exact Cz ((Kd.R_reads' HO_5.out).2.2)); (case side2 => exact (Kd.R_reads' HO_5.out).2.1); (case side3 => exact Cz ((Kd.R_reads' HO_3.out).2.2)); (case side4 => exact (Kd.R_reads' HO_3.out).2.1); rintro e w' ⟨rfl, ⟨nd, rfl⟩⟩))
        go_meet
        case rel => exact ⟨_, (!t205), (by first | rfl | (simp; done) | (simp [*]; done)), H', ⟨by have := HJ1.out; have := HJ8.out; have := HJ20.out; first | omega | exact Nat.le_refl _⟩, ⟨by (with_reducible repeat (first | apply Kd.R_alloc | apply Kd.R_drewN | apply Kd.R_drew)); exact Kd.R_mono HO_3.out (fun _ hk => hk.2)⟩, ⟨by (with_reducible repeat (first | apply Kd.R_alloc | apply Kd.R_drewN | apply Kd.R_drew)); exact Kd.R_mono HO_5.out (fun _ hk => hk.1)⟩, ⟨by exact Lz HB⟩⟩
       case rest =>
        clear HC26
        try clear c3
        try clear c3b0
        try clear c3b1
        try clear c18
        try clear c24
        try clear c28
        try clear c28b0
        obtain ⟨kq, x39_25, rfl, HA, HJ25, HO_3, HO_5, HB⟩ := hcut
        cases kq with
        | zero => exact absurd HA.out (by simp [laws_FnExactNegateDivisor.j3])
        | succ kj25 =>
         have H := HA.out
         clear HA
         simp only [laws_FnExactNegateDivisor.j3] at H
         have HC30 := Aside0.mk H
         clear H
         go_upto_if 39 with (fail)
         go_cut [] (fun wc => ∃ (kq : Nat), Aside0 (laws_FnExactNegateDivisor.j4 kq l0 t189 t195 = some r) ∧ Aside0 (kq ≤ kj25) ∧ Aside0 (Kd.R (Kd.int .i64) 3 wc w.heap.size (fun k_ => some k_ ≠ ((.slice Ao16 t195.length co16) : Value).ownBlock) (.slice Ao17 t189.length co17) t189) ∧ Aside0 (Kd.R (Kd.int .i64) 3 wc w.heap.size (fun k_ => some k_ ≠ ((.slice Ao17 t189.length co17) : Value).ownBlock) (.slice Ao16 t195.length co16) t195) ∧ Aside0 (Below w.heap.size w wc))
         case first =>
          have H := HC30.out
          clear HC30
          by_cases c31 : x39_25 = true
          ·subst c31
           have H1 : (some false) = some r := by rw [if_pos rfl] at H; exact H
           clear H
           have H := H1
           clear H1
           obtain rfl := Option.some.inj H
           go_wp2
           go_ret
           exact ⟨by first | rfl | (simp [errW_none, errW_some] <;> rfl) | (simp [*, errW_none, errW_some] <;> rfl), by exact Lz HB⟩
          replace c31 := Bool.eq_false_iff.mpr c31
          subst c31
          have H1 : (laws_FnExactNegateDivisor.j4 kj25 l0 t189 t195) = some r := by rw [if_neg (show ¬ (false = true) by decide)] at H; exact H
          clear H
          have H := H1
          clear H1
          have H' := Aside0.mk H
          clear H
          go_wp2
          go_meet
          case rel => exact ⟨_, H', ⟨by have := HJ1.out; have := HJ8.out; have := HJ20.out; have := HJ25.out; first | omega | exact Nat.le_refl _⟩, ⟨by exact Rz HO_3⟩, ⟨by exact Rz HO_5⟩, ⟨by exact Lz HB⟩⟩
         case rest =>
          clear HC30
          try clear c3
          try clear c3b0
          try clear c3b1
          try clear c18
          try clear c24
          try clear c28
          try clear c28b0
          try clear c31
          obtain ⟨kq, HA, HJ29, HO_3, HO_5, HB⟩ := hcut
          cases kq with
          | zero => exact absurd HA.out (by simp [laws_FnExactNegateDivisor.j4])
          | succ kj29 =>
           have H := HA.out
           clear HA
           simp only [laws_FnExactNegateDivisor.j4] at H
           replace H := Option.bind_eq_some_iff.mp H
           obtain ⟨⟨t206, t207⟩, A320, H⟩ := H
           replace H : ((laws_heldIntS.f kj29 t207 1).bind fun t208 => (if t208 < 0 then (some false) else (laws_FnExactNegateDivisor.j5 kj29 l0 t189 t207 t206 t208))) = some r := H
           have A32 := Aside0.mk A320
           clear A320
           replace H := Option.bind_eq_some_iff.mp H
           obtain ⟨t208, A330, H⟩ := H
           replace H : (if t208 < 0 then (some false) else (laws_FnExactNegateDivisor.j5 kj29 l0 t189 t207 t206 t208)) = some r := H
           have A33 := Aside0.mk A330
           clear A330
           have HC34 := Aside0.mk H
           clear H
           go_upto_if 47 with (first | ((with_reducible refine gate_callee (f := 29) rfl ?_); refine goesM_ (some 42) rfl rfl Try.func29 (by kernel_rfl) rfl #[.slice Ao16 t195.length co16, .int .i64 1] rfl ?_; (with_reducible refine (laws_markIntS.calls kj29 (fun k_ => some k_ = (.slice Ao16 t195.length co16 : Value).ownBlock) (.slice Ao16 t195.length co16) t195 1 t206 t207 w _ ?side1 ?side2 A32.out).mono ?_); (case side1 => exact Lz HB); (case side2 => exact Kd.R_tight rfl HO_5.out); rintro e w35 ⟨rfl, hy0, hb, hkp⟩; refine ⟨_, rfl, ?_⟩; replace HO_3 := Aside0.mk (Kd.R_mono (ok' := fun k_ => some k_ ≠ (.slice Ao16 t195.length co16 : Value).ownBlock) (Kd.R_keptB (HO_3.out) hkp (fun k_ hk_ hs_ => (hk_) hs_)) (fun k_ hk_ => hk_.1)); replace HO_5 := Aside0.mk (Kd.R_reok rfl hy0 (fun k_ e_ => HO_5.out.1 k_ e_)); replace HB := Aside0.mk (hb); (try clear hb); (try clear hkp); (try clear hy0)) | ((with_reducible refine gate_callee (f := 30) rfl ?_); refine goesL_ (some 45) rfl rfl Try.func30 (by kernel_rfl) rfl #[.slice Ao16 t207.length co16, .int .i64 1] rfl (by (try simp only [List.map_toArray, List.map_cons, List.map_nil]); first | done | (rw [show t207.length = t195.length from (Kd.R_reads' HO_5.out).1.symm] <;> rfl) | rfl | (simp only [List.length_drop, List.length_take]; rfl)) ?_; (with_reducible refine (laws_heldIntS.calls kj29 _ _ t207 1 t208 _ ?side1 ?side2 A33.out).mono ?_); (case side1 => exact Cz ((Kd.R_reads' HO_5.out).2.2)); (case side2 => rw [show t207.length = t195.length from (Kd.R_reads' HO_5.out).1.symm]; exact (Kd.R_reads' HO_5.out).2.1); rintro e w' ⟨rfl, ⟨nd, rfl⟩⟩; refine ⟨_, rfl, ?_⟩))
           (try simp only [Act.put, List.setIfInBounds_toArray, List.set_cons_zero, List.set_cons_succ])
           go_cut [] (fun wc => ∃ (kq : Nat), Aside0 (laws_FnExactNegateDivisor.j5 kq l0 t189 t207 t206 t208 = some r) ∧ Aside0 (kq ≤ kj29) ∧ Aside0 (Kd.R (Kd.int .i64) 3 wc w.heap.size (fun k_ => some k_ ≠ ((.slice Ao16 t195.length co16) : Value).ownBlock) (.slice Ao17 t189.length co17) t189) ∧ Aside0 (Kd.R (Kd.int .i64) 3 wc w.heap.size (fun k_ => some k_ ≠ ((.slice Ao17 t189.length co17) : Value).ownBlock) (.slice Ao16 t195.length co16) t207) ∧ Aside0 (Below w.heap.size w wc))
           case first =>
            have H := HC34.out
            clear HC34
            by_cases c36 : t208 < 0
            ·rw [if_pos c36] at H
             have c36b0 : decide (t208 < 0) = true := decide_eq_true c36
             clear c36
             (first | rw [c36b0] | (simp only [i64_w, i32_w]; rw [c36b0]) | skip)
             obtain rfl := Option.some.inj H
             go_wp2
             go_ret
             exact ⟨by first | rfl | (simp [errW_none, errW_some] <;> rfl) | (simp [*, errW_none, errW_some] <;> rfl), by exact Lz HB⟩
            rw [if_neg c36] at H
            have c36b0 : decide (t208 < 0) = false := decide_eq_false c36
            clear c36
            (first | rw [c36b0] | (simp only [i64_w, i32_w]; rw [c36b0]) | skip)
            have H' := Aside0.mk H
            clear H
            go_wp2
            go_meet
            case rel => exact ⟨_, H', ⟨by have := HJ1.out; have := HJ8.out; have := HJ20.out; have := HJ25.out; have := HJ29.out; first | omega | exact Nat.le_refl _⟩, ⟨by exact Rz HO_3⟩, ⟨by exact Rz HO_5⟩, ⟨by exact Lz HB⟩⟩
           case rest =>
            clear HC34
            try clear c3
            try clear c3b0
            try clear c3b1
            try clear c18
            try clear c24
            try clear c28
            try clear c28b0
            try clear c31
            try clear c36
            try clear c36b0
            obtain ⟨kq, HA, HJ33, HO_3, HO_5, HB⟩ := hcut
            have hl5_33 := (Kd.R_reads' HO_5.out).1
            rw [hl5_33] at HO_5
            (try simp only [hl5_33])
            (try simp only [hl5_33] at HO_3)
            cases kq with
            | zero => exact absurd HA.out (by simp [laws_FnExactNegateDivisor.j5])
            | succ kj33 =>
             have H := HA.out
             clear HA
             simp only [laws_FnExactNegateDivisor.j5] at H
             have HC37 := Aside0.mk H
             clear H
             go_upto_if 50 with (fail)
             go_cut [] (fun wc => ∃ (kq : Nat), Aside0 (laws_FnExactNegateDivisor.j6 kq l0 t189 t207 t206 = some r) ∧ Aside0 (kq ≤ kj33) ∧ Aside0 (Kd.R (Kd.int .i64) 3 wc w.heap.size (fun k_ => some k_ ≠ ((.slice Ao16 t207.length co16) : Value).ownBlock) (.slice Ao17 t189.length co17) t189) ∧ Aside0 (Kd.R (Kd.int .i64) 3 wc w.heap.size (fun k_ => some k_ ≠ ((.slice Ao17 t189.length co17) : Value).ownBlock) (.slice Ao16 t207.length co16) t207) ∧ Aside0 (Below w.heap.size w wc))
             case first =>
              have H := HC37.out
              clear HC37
              by_cases c38 : t208 = t206
              ·rw [if_pos c38] at H
               have c38b0 : (t208 == t206) = true := beq_iff_eq.mpr c38
               have c38b1 : (t208 != t206) = false := bne_eq_false_iff_eq.mpr c38
               clear c38
               (first | rw [c38b0] | (simp only [i64_w, i32_w]; rw [c38b0]) | skip)
               have H' := Aside0.mk H
               clear H
               go_wp2
               go_meet
               case rel => exact ⟨_, H', ⟨by have := HJ1.out; have := HJ8.out; have := HJ20.out; have := HJ25.out; have := HJ29.out; have := HJ33.out; first | omega | exact Nat.le_refl _⟩, ⟨by (try simp only [hl5_33]); exact Rz HO_3⟩, ⟨by (try simp only [hl5_33]); exact Rz HO_5⟩, ⟨by exact Lz HB⟩⟩
              rw [if_neg c38] at H
              have c38b0 : (t208 == t206) = false := beq_eq_false_iff_ne.mpr c38
              have c38b1 : (t208 != t206) = true := bne_iff_ne.mpr c38
              (first | rw [c38b0] | (simp only [i64_w, i32_w]; rw [c38b0]) | skip)
              obtain rfl := Option.some.inj H
              go_wp2
              go_ret
              exact ⟨by first | rfl | (simp [errW_none, errW_some] <;> rfl) | (simp [*, errW_none, errW_some] <;> rfl), by exact Lz HB⟩
             case rest =>
              clear HC37
              try clear c3
              try clear c3b0
              try clear c3b1
              try clear c18
              try clear c24
              try clear c28
              try clear c28b0
              try clear c31
              try clear c36
              try clear c36b0
              try clear c38
              try clear c38b0
              try clear c38b1
              obtain ⟨kq, HA, HJ36, HO_3, HO_5, HB⟩ := hcut
              cases kq with
              | zero => exact absurd HA.out (by simp [laws_FnExactNegateDivisor.j6])
              | succ kj36 =>
               have H := HA.out
               clear HA
               simp only [laws_FnExactNegateDivisor.j6] at H
               replace H := Option.bind_eq_some_iff.mp H
               obtain ⟨t209, A390, H⟩ := H
               replace H : ((impl_NegateDivisor.f kj36 t209).bind fun t212 => ((laws_eqIntS.f kj36 t212 t189).bind fun t215 => (if t215 = true then (laws_FnExactNegateDivisor.j7 kj36 t207 t206) else (some false)))) = some r := H
               have A39 := Aside0.mk A390
               clear A390
               replace H := Option.bind_eq_some_iff.mp H
               obtain ⟨t212, A400, H⟩ := H
               replace H : ((laws_eqIntS.f kj36 t212 t189).bind fun t215 => (if t215 = true then (laws_FnExactNegateDivisor.j7 kj36 t207 t206) else (some false))) = some r := H
               have A40 := Aside0.mk A400
               clear A400
               replace H := Option.bind_eq_some_iff.mp H
               obtain ⟨t215, A410, H⟩ := H
               replace H : (if t215 = true then (laws_FnExactNegateDivisor.j7 kj36 t207 t206) else (some false)) = some r := H
               have A41 := Aside0.mk A410
               clear A410
               have HC42 := Aside0.mk H
               clear H
               go_upto_if 57 with (first | ((with_reducible refine gate_callee (f := 20) rfl ?_); refine goesM_ (some 52) rfl rfl Try.func20 (by kernel_rfl) rfl #[.slice A0 l0.length c0] rfl ?_; (with_reducible refine (laws_toIntS.calls kj36 _ _ l0 t209 _ ?side1 ?side2 A39.out).mono ?_); (case side1 => exact Cz ((Kd.C_below HR0.out HB.out))); (case side2 => exact HC0.out); rintro e w43 ⟨v210, rfl, ho0, hb⟩; refine ⟨_, rfl, ?_⟩; have HO211 := Aside0.mk (Kd.R_lower (Kd.R_new' (Kd.R_new' ho0 (Kd.R_lt (Rz HO_3))) (Kd.R_lt (Rz HO_5))) (below_size (Lz HB))); replace HO_3 := Aside0.mk (Kd.R_elder' (Rz HO_3) (Kd.R_base ho0) hb); replace HO_5 := Aside0.mk (Kd.R_elder' (Rz HO_5) (Kd.R_base ho0) hb); replace HB := Aside0.mk (below_step (Lz HB) hb); (try clear hb); (try clear ho0); obtain ⟨Ao44, co44, eo44⟩ := Kd.R_slice HO211.out; subst eo44) | ((with_reducible refine gate_callee (f := 28) rfl ?_); refine goesM_ (some 53) rfl rfl Try.func28 (by kernel_rfl) rfl #[.slice Ao44 t209.length co44] rfl ?_; (with_reducible refine (impl_NegateDivisor.calls kj36 _ _ t209 t212 _ ?side1 ?side2 A40.out).mono ?_); (case side1 => exact Cz ((Kd.R_reads' HO211.out).2.2)); (case side2 => exact (Kd.R_reads' HO211.out).2.1); rintro e w45 ⟨v213, rfl, ho0, hb⟩; refine ⟨_, rfl, ?_⟩; have HO214 := Aside0.mk (Kd.R_lower (Kd.R_new' (Kd.R_new' (Kd.R_new' ho0 (Kd.R_lt (Rz HO_3))) (Kd.R_lt (Rz HO_5))) (Kd.R_lt (Rz HO211))) (below_size (Lz HB))); replace HO_3 := Aside0.mk (Kd.R_elder' (Rz HO_3) (Kd.R_base ho0) hb); replace HO_5 := Aside0.mk (Kd.R_elder' (Rz HO_5) (Kd.R_base ho0) hb); replace HO211 := Aside0.mk (Kd.R_elder' (Rz HO211) (Kd.R_base ho0) hb); replace HB := Aside0.mk (below_step (Lz HB) hb); (try clear hb); (try clear ho0); obtain ⟨Ao46, co46, eo46⟩ := Kd.R_slice HO214.out; subst eo46) | ((with_reducible refine gate_callee (f := 22) rfl ?_); refine goesM_ (some 56) rfl rfl Try.func22 (by kernel_rfl) rfl #[.slice Ao46 t212.length co46, .slice Ao17 t189.length co17] rfl ?_; (with_reducible refine (laws_eqIntS.calls kj36 _ _ t212 _ _ t189 t215 _ ?side1 ?side2 ?side3 ?side4 A41.out).mono ?_); (case side1 => exact Cz ((Kd.R_reads' HO214.out).2.2)); (case side2 => exact (Kd.R_reads' HO214.out).2.1); (case side3 => exact Cz ((Kd.R_reads' HO_3.out).2.2)); (case side4 => exact (Kd.R_reads' HO_3.out).2.1); rintro e w' ⟨rfl, ⟨nd, rfl⟩⟩; refine ⟨_, rfl, ?_⟩))
               (try simp only [Act.put, List.setIfInBounds_toArray, List.set_cons_zero, List.set_cons_succ])
               go_cut [] (fun wc => ∃ (kq : Nat), Aside0 (laws_FnExactNegateDivisor.j7 kq t207 t206 = some r) ∧ Aside0 (kq ≤ kj36) ∧ Aside0 (Kd.R (Kd.int .i64) 3 wc w.heap.size (fun _ => True) (.slice Ao16 t207.length co16) t207) ∧ Aside0 (Below w.heap.size w wc))
               case first =>
                have H := HC42.out
                clear HC42
                by_cases c47 : t215 = true
                ·subst c47
                 have H1 : (laws_FnExactNegateDivisor.j7 kj36 t207 t206) = some r := by rw [if_pos rfl] at H; exact H
                 clear H
                 have H := H1
                 clear H1
                 have H' := Aside0.mk H
                 clear H
                 go_wp2
                 go_meet
                 case rel => exact ⟨_, H', ⟨by have := HJ1.out; have := HJ8.out; have := HJ20.out; have := HJ25.out; have := HJ29.out; have := HJ33.out; have := HJ36.out; first | omega | exact Nat.le_refl _⟩, ⟨by (try simp only [hl5_33]); (with_reducible repeat (first | apply Kd.R_alloc | apply Kd.R_drewN | apply Kd.R_drew)); exact Kd.R_mono HO_5.out (fun _ hk => trivial)⟩, ⟨by exact Lz HB⟩⟩
                replace c47 := Bool.eq_false_iff.mpr c47
                subst c47
                have H1 : (some false) = some r := by rw [if_neg (show ¬ (false = true) by decide)] at H; exact H
                clear H
                have H := H1
                clear H1
                obtain rfl := Option.some.inj H
                go_wp2
                go_ret
                exact ⟨by first | rfl | (simp [errW_none, errW_some] <;> rfl) | (simp [*, errW_none, errW_some] <;> rfl), by exact Lz HB⟩
               case rest =>
                clear HC42
                try clear c3
                try clear c3b0
                try clear c3b1
                try clear c18
                try clear c24
                try clear c28
                try clear c28b0
                try clear c31
                try clear c36
                try clear c36b0
                try clear c38
                try clear c38b0
                try clear c38b1
                try clear c47
                obtain ⟨kq, HA, HJ41, HO_5, HB⟩ := hcut
                cases kq with
                | zero => exact absurd HA.out (by simp [laws_FnExactNegateDivisor.j7])
                | succ kj41 =>
                 have H := HA.out
                 clear HA
                 simp only [laws_FnExactNegateDivisor.j7] at H
                 replace H := Option.bind_eq_some_iff.mp H
                 obtain ⟨t216, A480, H⟩ := H
                 replace H : (if t216 < 0 then (some false) else (laws_FnExactNegateDivisor.j8 kj41 t206 t216)) = some r := H
                 have A48 := Aside0.mk A480
                 clear A480
                 have HC49 := Aside0.mk H
                 clear H
                 go_upto_if 62 with (first | ((with_reducible refine gate_callee (f := 30) rfl ?_); refine goesM_ (some 60) rfl rfl Try.func30 (by kernel_rfl) rfl #[.slice Ao16 t207.length co16, .int .i64 1] rfl ?_; (with_reducible refine (laws_heldIntS.calls kj41 _ _ t207 1 t216 _ ?side1 ?side2 A48.out).mono ?_); (case side1 => exact Cz ((Kd.R_reads' HO_5.out).2.2)); (case side2 => exact (Kd.R_reads' HO_5.out).2.1); rintro e w' ⟨rfl, ⟨nd, rfl⟩⟩; refine ⟨_, rfl, ?_⟩))
                 (try simp only [Act.put, List.setIfInBounds_toArray, List.set_cons_zero, List.set_cons_succ])
                 go_cut [] (fun wc => ∃ (kq : Nat), Aside0 (laws_FnExactNegateDivisor.j8 kq t206 t216 = some r) ∧ Aside0 (kq ≤ kj41) ∧ Aside0 (Below w.heap.size w wc))
                 case first =>
                  have H := HC49.out
                  clear HC49
                  by_cases c50 : t216 < 0
                  ·rw [if_pos c50] at H
                   have c50b0 : decide (t216 < 0) = true := decide_eq_true c50
                   clear c50
                   (first | rw [c50b0] | (simp only [i64_w, i32_w]; rw [c50b0]) | skip)
                   obtain rfl := Option.some.inj H
                   go_wp2
                   go_ret
                   exact ⟨by first | rfl | (simp [errW_none, errW_some] <;> rfl) | (simp [*, errW_none, errW_some] <;> rfl), by exact Lz HB⟩
                  rw [if_neg c50] at H
                  have c50b0 : decide (t216 < 0) = false := decide_eq_false c50
                  clear c50
                  (first | rw [c50b0] | (simp only [i64_w, i32_w]; rw [c50b0]) | skip)
                  have H' := Aside0.mk H
                  clear H
                  go_wp2
                  go_meet
                  case rel => exact ⟨_, H', ⟨by have := HJ1.out; have := HJ8.out; have := HJ20.out; have := HJ25.out; have := HJ29.out; have := HJ33.out; have := HJ36.out; have := HJ41.out; first | omega | exact Nat.le_refl _⟩, ⟨by exact Lz HB⟩⟩
                 case rest =>
                  clear HC49
                  try clear c3
                  try clear c3b0
                  try clear c3b1
                  try clear c18
                  try clear c24
                  try clear c28
                  try clear c28b0
                  try clear c31
                  try clear c36
                  try clear c36b0
                  try clear c38
                  try clear c38b0
                  try clear c38b1
                  try clear c47
                  try clear c50
                  try clear c50b0
                  obtain ⟨kq, HA, HJ48, HB⟩ := hcut
                  cases kq with
                  | zero => exact absurd HA.out (by simp [laws_FnExactNegateDivisor.j8])
                  | succ kj48 =>
                   have H := HA.out
                   clear HA
                   simp only [laws_FnExactNegateDivisor.j8] at H
                   by_cases c51 : t216 = t206
                   ·rw [if_pos c51] at H
                    have c51b0 : (t216 == t206) = true := beq_iff_eq.mpr c51
                    have c51b1 : (t216 != t206) = false := bne_eq_false_iff_eq.mpr c51
                    clear c51
                    obtain rfl := Option.some.inj H
                    go_wp2
                    go_ret
                    exact ⟨by first | rfl | (simp [errW_none, errW_some] <;> rfl) | (simp [*, errW_none, errW_some] <;> rfl), by exact Lz HB⟩
                   rw [if_neg c51] at H
                   have c51b0 : (t216 == t206) = false := beq_eq_false_iff_ne.mpr c51
                   have c51b1 : (t216 != t206) = true := bne_iff_ne.mpr c51
                   obtain rfl := Option.some.inj H
                   go_wp2
                   go_ret
                   exact ⟨by first | rfl | (simp [errW_none, errW_some] <;> rfl) | (simp [*, errW_none, errW_some] <;> rfl), by exact Lz HB⟩

/-- THE ONE PURE STATEMENT of laws_FnExactNegateDivisor: yours. -/
def laws_FnExactNegateDivisor.Pure : Prop := ∀ (l0 : List Int), l0.length ≤ maxLen → l0.length * 8 ≤ 140737488351232 → (∀ x ∈ l0, (Lit.int .i64 x).wf = true) → ∃ k, laws_FnExactNegateDivisor.f k l0 = some true
theorem laws_FnExactNegateDivisor.walk (P : laws_FnExactNegateDivisor.Pure) (a0 : Option Addr) (len0 cap0 : Nat) (z0 : List Int) (w : World) (w0 : (a0 = none ∧ len0 = 0 ∧ cap0 = 0 ∧ z0 = []) ∨ ∃ x, a0 = some x ∧ len0 ≤ cap0 ∧ cap0 ≤ maxLen ∧ z0.length = cap0 ∧ (∀ i, i < z0.length → w.cell? (x.add i) = some (.int .i64 (z0.getD i 0))) ∧ ∀ n ∈ z0, (Lit.int .i64 n).wf = true) (y0 : len0 * 8 ≤ 140737488351232) :
  Calls Try.prog 8 #[.slice a0 len0 cap0] w fun e w' => e = .returned (.bool true) ∧ Below w.heap.size w w' := by
 obtain ⟨l0, rfl, hr0, hm0, hw0, hc0⟩ := ReadsInt.ofRowC w0
 obtain ⟨k, h⟩ := P l0 hm0 y0 hw0
 refine (laws_FnExactNegateDivisor.calls k _ _ l0 true w (Kd.C_of_reads (d := (0 : Int)) (h1 := fun _ => rfl) hr0) hc0 h).mono ?_
 rintro e w' ⟨rfl, hd⟩
 exact ⟨rfl, hd⟩

end Go.Proofs.Ytdolciclfpdcfaa.P
