/- Functions of the program as plain Lean functions and that the machine's calls answer as they do, the words of the print that these use, lemmas and plain proofs of laws. Put together by a program of this work that leaves out what nothing uses; Lean checks it. -/
import Derived.Test.YtbcfccdoffbncaaProg
import Derived.Below
import Derived.Deep.Draws
import Derived.Deep.AppendLies
import Derived.Maps.AppendAt
import Derived.OwnWalk
import Derived.Laws.BytesArg
import Derived.Laws.MakeOwn
import Derived.Laws.OwnMore
import Derived.Deep.OwnRows
import Derived.Tactics
import Derived.Lib.ConvBytes
import Derived.Laws.Slices
import Derived.WalkKit
import Derived.KernelRfl
import Derived.RowKit3
import Derived.Deep.LoopGhost
import Derived.Deep.QuietTactic
import Derived.BigQuiet
import Derived.WideLaws
import Derived.Deep.DeepCutAuto
import Derived.Deep.CutBlock
import Derived.Deep.RegionHeld3
import Derived.Laws.Rows
import Derived.Lib.AppendStr
import Derived.ArgAppend
import Derived.Laws.IdiomCopy
import Derived.OrdersHeld
import Derived.Laws.BitsLemmas
import Derived.RowKit
import Derived.Laws.StructEq
import Derived.Test.YtbcfccdoffbncaaG91cfef8bc8
section
namespace Go.Proofs.Ytbcfccdoffbncaa.P
open Go.RowKit Go.Proofs.YtbcfccdoffbncaaW.PrintWords Go.Proofs.YtbcfccdoffbncaaW.PrintLast Go.Proofs.YtbcfccdoffbncaaW.PrintMore
attribute [local go_sem] max2_int min2_int max_two min_two max_three min_three max_four min_four
set_option linter.unusedVariables false
set_option linter.unusedSimpArgs false
def errW : Option Int → Value
  | none => .nilIface
  | some c => .iface 0 (.int .i64 c)
theorem errW_none : errW none = .nilIface := rfl
theorem errW_some (c : Int) : errW (some c) = .iface 0 (.int .i64 c) := rfl
theorem info3 : (Try.prog.info? 3).map (fun i => (i.zero, i.size, i.bytes)) = some (some (.int .i64 0), 1, 8) := by kernel_rfl
theorem info4 : (Try.prog.info? 4).map (fun i => (i.zero, i.size, i.bytes)) = some (some (.bool false), 1, 1) := by kernel_rfl
theorem info67 : (Try.prog.info? 67).map (fun i => (i.zero, i.size, i.bytes)) = some (some (.agg #[(.int .i64 0), (.int .i64 0)]), 2, 16) := by kernel_rfl
structure S96 where
  f0 : Int
  f1 : Int
def z96 : S96 := ⟨(0 : Int), (0 : Int)⟩
def k96 : Kd S96 := Kd.iso (Kd.pair (Kd.int .i64) (Kd.int .i64)) (fun x : S96 => (x.f0, x.f1))
theorem k96_open {w : World} {x : S96} {cs : List Value} (h : k96.K w x cs) : cs = [.int .i64 x.f0, .int .i64 x.f1] := by
  obtain ⟨_, _, rfl, rfl, rfl⟩ := h
  exact rfl
def rd_T96 (xs : List S96) (i : Int) : S96 := xs.getD i.toNat z96
theorem at_T96 {w : World} {A : Option Addr} {n : Nat} {xs : List S96} (h : Kd.C k96 w A n xs) (i : Int) (h0 : 0 ≤ i) (h1 : i < n) : ∃ ad , A = some ad ∧ w.cell? (ad.add (i.toNat * 2)) = some (.int .i64 (rd_T96 xs i).f0) ∧ w.cell? ⟨(ad.add (i.toNat * 2)).block, (ad.add (i.toNat * 2)).off + 1, none⟩ = some (.int .i64 (rd_T96 xs i).f1) := by
  obtain ⟨ad, c, e, _, hK, hc0⟩ := Kd.C_get h z96 i h0 h1
  have hc : ∀ j u, c[j]? = some u → w.cell? (ad.add (i.toNat * 2 + j)) = some u := hc0
  obtain rfl := k96_open hK
  exact ⟨ad, e, hc 0 _ rfl, by rw [← add_field _ _ 1 (by omega)]; exact hc 1 _ rfl⟩
structure S67 where
  f0 : Int
  f1 : Int
def z67 : S67 := ⟨(0 : Int), (0 : Int)⟩
def k67 : Kd S67 := Kd.iso (Kd.pair (Kd.int .i64) (Kd.int .i64)) (fun x : S67 => (x.f0, x.f1))
theorem k67_heap : Kd.Heap k67 := Kd.heap_iso _ (Kd.heap_pair (Kd.heap_int .i64) (Kd.heap_int .i64))
theorem k67_open {w : World} {x : S67} {cs : List Value} (h : k67.K w x cs) : cs = [.int .i64 x.f0, .int .i64 x.f1] := by
  obtain ⟨_, _, rfl, rfl, rfl⟩ := h
  exact rfl
theorem k67_openM {w : World} {base : Nat} {ok : Nat → Prop} {x : S67} {cs : List Value} (h : k67.M w base ok x cs) : cs = [.int .i64 x.f0, .int .i64 x.f1] := by
  obtain ⟨_, _, rfl, rfl, rfl⟩ := h
  exact rfl
theorem k67_mkM (w : World) (base : Nat) (ok : Nat → Prop) (x : S67)  : k67.M w base ok x [.int .i64 x.f0, .int .i64 x.f1] := ⟨[.int .i64 x.f0], [.int .i64 x.f1], rfl, rfl, rfl⟩
def rd_T67 (xs : List S67) (i : Int) : S67 := xs.getD i.toNat z67
theorem at_T67 {w : World} {A : Option Addr} {n : Nat} {xs : List S67} (h : Kd.C k67 w A n xs) (i : Int) (h0 : 0 ≤ i) (h1 : i < n) : ∃ ad , A = some ad ∧ w.cell? (ad.add (i.toNat * 2)) = some (.int .i64 (rd_T67 xs i).f0) ∧ w.cell? ⟨(ad.add (i.toNat * 2)).block, (ad.add (i.toNat * 2)).off + 1, none⟩ = some (.int .i64 (rd_T67 xs i).f1) := by
  obtain ⟨ad, c, e, _, hK, hc0⟩ := Kd.C_get h z67 i h0 h1
  have hc : ∀ j u, c[j]? = some u → w.cell? (ad.add (i.toNat * 2 + j)) = some u := hc0
  obtain rfl := k67_open hK
  exact ⟨ad, e, hc 0 _ rfl, by rw [← add_field _ _ 1 (by omega)]; exact hc 1 _ rfl⟩
end Go.Proofs.Ytbcfccdoffbncaa.P
end
section
namespace Go.Proofs.Ytbcfccdoffbncaa.P
open Go.RowKit Go.Proofs.YtbcfccdoffbncaaW.PrintWords Go.Proofs.YtbcfccdoffbncaaW.PrintLast Go.Proofs.YtbcfccdoffbncaaW.PrintMore
attribute [local go_sem] max2_int min2_int max_two min_two max_three min_three max_four min_four
set_option linter.unusedVariables false
set_option linter.unusedSimpArgs false
def laws_szEdgeS.f (l0 : List (S96)) (a1 : Int) : Option (Int) := if (wrap64 (a1 - (l0.length : Int))) < 0 then (some (-1)) else (some (wrap64 (a1 - (l0.length : Int))))
set_option maxHeartbeats 8000000 in
set_option maxRecDepth 100000 in
theorem laws_szEdgeS.calls (A0 : Option Addr) (c0 : Nat) (l0 : List (S96)) (a1 : Int) (r : Int) (w : World) (hr0 : Kd.C k96 w A0 l0.length l0) (hc0 : l0.length ≤ c0) (h : laws_szEdgeS.f l0 a1 = some r) :
  Calls Try.prog 54 #[.slice A0 l0.length c0, .int .i64 a1] w fun e w' => e = .returned (.int .i64 r) ∧ Drawn0 w w' := by
 have HR0 := Aside0.mk hr0
 have HC0 := Aside0.mk hc0
 clear hr0 hc0
 have H : (if (wrap64 (a1 - (l0.length : Int))) < 0 then (some (-1)) else (some (wrap64 (a1 - (l0.length : Int))))) = some r := h
 clear h
 by_cases c3 : (wrap64 (a1 - (l0.length : Int))) < 0
 ·rw [if_pos c3] at H
  have c3b0 : decide ((wrap64 (a1 - (l0.length : Int))) < 0) = true := decide_eq_true c3
  clear c3
  obtain rfl := Option.some.inj H
  go_enter Try.func54, Try.ntmps54
  go_wp2
  go_ret
  exact ⟨by first | rfl | (simp; done) | (simp [*]; done), by repeat (first | exact Drawn0.refl _ | apply Drawn0.step)⟩
 rw [if_neg c3] at H
 have c3b0 : decide ((wrap64 (a1 - (l0.length : Int))) < 0) = false := decide_eq_false c3
 clear c3
 obtain rfl := Option.some.inj H
 go_enter Try.func54, Try.ntmps54
 go_wp2
 go_ret
 exact ⟨by first | rfl | (simp; done) | (simp [*]; done), by repeat (first | exact Drawn0.refl _ | apply Drawn0.step)⟩
end Go.Proofs.Ytbcfccdoffbncaa.P
end
section
namespace Go.Proofs.Ytbcfccdoffbncaa.P
open Go.RowKit Go.Proofs.YtbcfccdoffbncaaW.PrintWords Go.Proofs.YtbcfccdoffbncaaW.PrintLast Go.Proofs.YtbcfccdoffbncaaW.PrintMore
attribute [local go_sem] max2_int min2_int max_two min_two max_three min_three max_four min_four
set_option linter.unusedVariables false
set_option linter.unusedSimpArgs false
def laws_szGraph.f (a0_0 : Int) (l0_1 : List (S96)) (a1 : Int) : Option (Int) := (laws_szEdgeS.f l0_1 a1).bind fun t102 => (if t102 < 0 then (some (-1)) else (some t102))
set_option maxHeartbeats 8000000 in
set_option maxRecDepth 100000 in
theorem laws_szGraph.calls (a0_0 : Int) (A0_1 : Option Addr) (c0_1 : Nat) (l0_1 : List (S96)) (a1 : Int) (r : Int) (w : World) (hr0_1 : Kd.C k96 w A0_1 l0_1.length l0_1) (hc0_1 : l0_1.length ≤ c0_1) (h : laws_szGraph.f a0_0 l0_1 a1 = some r) :
  Calls Try.prog 10 #[.agg #[.int .i64 a0_0, .slice A0_1 l0_1.length c0_1], .int .i64 a1] w fun e w' => e = .returned (.int .i64 r) ∧ Below w.heap.size w w' := by
 have hu24 := Try.underlying24
 have HR0_1 := Aside0.mk hr0_1
 have HC0_1 := Aside0.mk hc0_1
 clear hr0_1 hc0_1
 have HB := Aside0.mk (Below.refl w.heap.size w)
 have H : ((laws_szEdgeS.f l0_1 a1).bind fun t102 => (if t102 < 0 then (some (-1)) else (some t102))) = some r := h
 clear h
 replace H := Option.bind_eq_some_iff.mp H
 obtain ⟨t102, A30, H⟩ := H
 replace H : (if t102 < 0 then (some (-1)) else (some t102)) = some r := H
 have A3 := Aside0.mk A30
 clear A30
 by_cases c4 : t102 < 0
 ·rw [if_pos c4] at H
  have c4b0 : decide (t102 < 0) = true := decide_eq_true c4
  clear c4
  obtain rfl := Option.some.inj H
  go_enter Try.func10, Try.ntmps10
  go_wp2_with (first | ((with_reducible refine gate_dst (N := 2) rfl ?_); refine box_event ?hg (N := 2) ?hd (cs := #[.int .i64 a0_0, .slice A0_1 l0_1.length c0_1]) (t := 24) ?hr ?_; (case hd => rfl); (case hg => rfl); (case hr => first | (go_simp; done) | (go_simp; rfl)); intro gb101 hg w5 hbox hb; have BK101 := Aside0.mk (hbox); have GW101 := Aside0.mk ((by rw [hg]; exact (below_size (Lz HB)) : w.heap.size ≤ gb101)); have GE101 := Aside0.mk ((by rw [hg]; exact (below_size (Lz HB)) : w.heap.size ≤ gb101)); replace HB := Aside0.mk (below_step (Lz HB) hb); clear hb hbox hg; have hcz6_0 : w5.cell? ⟨gb101, 0, none⟩ = some (.int .i64 a0_0) := (blk_cell BK101.out 0).trans rfl; have hcz6_1 : w5.cell? ⟨gb101, 1, none⟩ = some (.slice A0_1 l0_1.length c0_1) := (blk_cell BK101.out 1).trans rfl; have hfz6_0 := blk_frozen BK101.out 0; have hfz6_1 := blk_frozen BK101.out 1) | ((with_reducible refine gate_callee (f := 54) rfl ?_); refine goesM_ (some 8) rfl rfl Try.func54 (by kernel_rfl) rfl #[.slice A0_1 l0_1.length c0_1, .int .i64 a1] rfl ?_; (with_reducible refine (laws_szEdgeS.calls _ _ l0_1 a1 t102 _ ?side1 ?side2 A3.out).mono ?_); (case side1 => exact Cz ((Kd.C_below HR0_1.out HB.out))); (case side2 => exact HC0_1.out); rintro e w' ⟨rfl, ⟨nd, rfl⟩⟩; refine ⟨_, rfl, ?_⟩))
  go_ret
  exact ⟨by first | rfl | (simp [errW_none, errW_some] <;> rfl) | (simp [*, errW_none, errW_some] <;> rfl), by exact Lz1 HB GE101⟩
 rw [if_neg c4] at H
 have c4b0 : decide (t102 < 0) = false := decide_eq_false c4
 clear c4
 obtain rfl := Option.some.inj H
 go_enter Try.func10, Try.ntmps10
 go_wp2_with (first | ((with_reducible refine gate_dst (N := 2) rfl ?_); refine box_event ?hg (N := 2) ?hd (cs := #[.int .i64 a0_0, .slice A0_1 l0_1.length c0_1]) (t := 24) ?hr ?_; (case hd => rfl); (case hg => rfl); (case hr => first | (go_simp; done) | (go_simp; rfl)); intro gb101 hg w7 hbox hb; have BK101 := Aside0.mk (hbox); have GW101 := Aside0.mk ((by rw [hg]; exact (below_size (Lz HB)) : w.heap.size ≤ gb101)); have GE101 := Aside0.mk ((by rw [hg]; exact (below_size (Lz HB)) : w.heap.size ≤ gb101)); replace HB := Aside0.mk (below_step (Lz HB) hb); clear hb hbox hg; have hcz8_0 : w7.cell? ⟨gb101, 0, none⟩ = some (.int .i64 a0_0) := (blk_cell BK101.out 0).trans rfl; have hcz8_1 : w7.cell? ⟨gb101, 1, none⟩ = some (.slice A0_1 l0_1.length c0_1) := (blk_cell BK101.out 1).trans rfl; have hfz8_0 := blk_frozen BK101.out 0; have hfz8_1 := blk_frozen BK101.out 1) | ((with_reducible refine gate_callee (f := 54) rfl ?_); refine goesM_ (some 8) rfl rfl Try.func54 (by kernel_rfl) rfl #[.slice A0_1 l0_1.length c0_1, .int .i64 a1] rfl ?_; (with_reducible refine (laws_szEdgeS.calls _ _ l0_1 a1 t102 _ ?side1 ?side2 A3.out).mono ?_); (case side1 => exact Cz ((Kd.C_below HR0_1.out HB.out))); (case side2 => exact HC0_1.out); rintro e w' ⟨rfl, ⟨nd, rfl⟩⟩; refine ⟨_, rfl, ?_⟩))
 go_ret
 exact ⟨by first | rfl | (simp [errW_none, errW_some] <;> rfl) | (simp [*, errW_none, errW_some] <;> rfl), by exact Lz1 HB GE101⟩
end Go.Proofs.Ytbcfccdoffbncaa.P
end
section
namespace Go.Proofs.Ytbcfccdoffbncaa.P
open Go.RowKit Go.Proofs.YtbcfccdoffbncaaW.PrintWords Go.Proofs.YtbcfccdoffbncaaW.PrintLast Go.Proofs.YtbcfccdoffbncaaW.PrintMore
attribute [local go_sem] max2_int min2_int max_two min_two max_three min_three max_four min_four
set_option linter.unusedVariables false
set_option linter.unusedSimpArgs false
def spec_l05Debt.l0 : Nat → Int → List Int → Int → Int → Option (Bool)
 | 0, _, _, _, _ => none
 | k + 1, x1, x7, x8, x9 => if x9 < x8 then (if 0 ≤ x9 then (if x9 < (x7.length : Int) then (if x9 = x1 then (spec_l05Debt.l0 k x1 x7 x8 (wrap64 (x9 + 1))) else (if (rd x7 x9) < 0 then (some true) else (spec_l05Debt.l0 k x1 x7 x8 (wrap64 (x9 + 1))))) else (none)) else (none)) else (some false)
def spec_l05Debt.f (k : Nat) (l0 : List Int) (a1 : Int) : Option (Bool) := spec_l05Debt.l0 k a1 l0 (l0.length : Int) 0
set_option maxHeartbeats 8000000 in
set_option maxRecDepth 100000 in
theorem spec_l05Debt.calls (k : Nat) (A0 : Option Addr) (c0 : Nat) (l0 : List Int) (a1 : Int) (r : Bool) (w : World) (hr0 : Kd.C (Kd.int .i64) w A0 l0.length l0) (hc0 : l0.length ≤ c0) (h : spec_l05Debt.f k l0 a1 = some r) :
  Calls Try.prog 95 #[.slice A0 l0.length c0, .int .i64 a1] w fun e w' => e = .returned (.bool r) ∧ Drawn0 w w' := by
 have HR0 := Aside0.mk hr0
 have HC0 := Aside0.mk hc0
 clear hr0 hc0
 have H : (spec_l05Debt.l0 k a1 l0 (l0.length : Int) 0) = some r := h
 clear h
 have H' := Aside0.mk H
 clear H
 go_enter Try.func95, Try.ntmps95
 go_wp2
 go_loopg [9] k (fun kq v9 w' => ∃ (x9_1 : Int), v9 = .int .i64 x9_1 ∧ Aside0 (spec_l05Debt.l0 kq a1 l0 (l0.length : Int) x9_1 = some r) ∧ Aside0 (kq ≤ k) ∧ Drawn0 w w')
 case atStart => exact ⟨(0), (by first | rfl | (simp; done) | (simp [*]; done)), H', ⟨Nat.le_refl _⟩, by repeat (first | exact Drawn0.refl _ | apply Drawn0.step)⟩
 case round =>
  clear H'
  obtain ⟨x9_1, rfl, HA, HK1, ⟨m1, rfl⟩⟩ := hrel
  cases gk with
  | zero => exact absurd HA.out (by simp [spec_l05Debt.l0])
  | succ k1 =>
   have H := HA.out
   clear HA
   simp only [spec_l05Debt.l0] at H
   by_cases c3 : x9_1 < (l0.length : Int)
   ·rw [if_pos c3] at H
    have c3b0 : decide (x9_1 < (l0.length : Int)) = true := decide_eq_true c3
    clear c3
    by_cases c4 : 0 ≤ x9_1
    ·rw [if_pos c4] at H
     have c4b0 : decide (0 ≤ x9_1) = true := decide_eq_true c4
     clear c4
     by_cases c5 : x9_1 < (l0.length : Int)
     ·rw [if_pos c5] at H
      have c5b0 : decide (x9_1 < (l0.length : Int)) = true := decide_eq_true c5
      clear c5
      by_cases c6 : x9_1 = a1
      ·rw [if_pos c6] at H
       have c6b0 : (x9_1 == a1) = true := beq_iff_eq.mpr c6
       have c6b1 : (x9_1 != a1) = false := bne_eq_false_iff_eq.mpr c6
       clear c6
       have H' := Aside0.mk H
       clear H
       have p103 : 0 ≤ (x9_1 : Int) := of_decide_eq_true (by first | (with_reducible assumption) | assumption)
       have q103 : x9_1 < (l0.length : Int) := of_decide_eq_true (by first | (with_reducible assumption) | assumption)
       obtain ⟨ad103, e103, hx103_0⟩ := Kd.at_int HR0.out x9_1 p103 q103
       cases e103
       replace p103 := eq_true p103
       replace q103 := eq_true q103
       go_wp2
       go_roundg k1
       case measure => have := HK1.out; omega
       case rel => exact ⟨(wrap64 (x9_1 + 1)), (by first | rfl | (simp; done) | (simp [*]; done)), H', ⟨by have := HK1.out; omega⟩, by repeat (first | exact Drawn0.refl _ | apply Drawn0.step)⟩
      rw [if_neg c6] at H
      have c6b0 : (x9_1 == a1) = false := beq_eq_false_iff_ne.mpr c6
      have c6b1 : (x9_1 != a1) = true := bne_iff_ne.mpr c6
      by_cases c7 : (rd l0 x9_1) < 0
      ·rw [if_pos c7] at H
       have c7b0 : decide ((rd l0 x9_1) < 0) = true := decide_eq_true c7
       clear c7
       obtain rfl := Option.some.inj H
       have p103 : 0 ≤ (x9_1 : Int) := of_decide_eq_true (by first | (with_reducible assumption) | assumption)
       have q103 : x9_1 < (l0.length : Int) := of_decide_eq_true (by first | (with_reducible assumption) | assumption)
       obtain ⟨ad103, e103, hx103_0⟩ := Kd.at_int HR0.out x9_1 p103 q103
       cases e103
       replace p103 := eq_true p103
       replace q103 := eq_true q103
       go_wp2
       go_ret
       exact ⟨by first | rfl | (simp; done) | (simp [*]; done), by repeat (first | exact Drawn0.refl _ | apply Drawn0.step)⟩
      rw [if_neg c7] at H
      have c7b0 : decide ((rd l0 x9_1) < 0) = false := decide_eq_false c7
      clear c7
      have H' := Aside0.mk H
      clear H
      have p103 : 0 ≤ (x9_1 : Int) := of_decide_eq_true (by first | (with_reducible assumption) | assumption)
      have q103 : x9_1 < (l0.length : Int) := of_decide_eq_true (by first | (with_reducible assumption) | assumption)
      obtain ⟨ad103, e103, hx103_0⟩ := Kd.at_int HR0.out x9_1 p103 q103
      cases e103
      replace p103 := eq_true p103
      replace q103 := eq_true q103
      go_wp2
      go_roundg k1
      case measure => have := HK1.out; omega
      case rel => exact ⟨(wrap64 (x9_1 + 1)), (by first | rfl | (simp; done) | (simp [*]; done)), H', ⟨by have := HK1.out; omega⟩, by repeat (first | exact Drawn0.refl _ | apply Drawn0.step)⟩
     rw [if_neg c5] at H
     exact absurd H (by simp)
    rw [if_neg c4] at H
    exact absurd H (by simp)
   rw [if_neg c3] at H
   have c3b0 : decide (x9_1 < (l0.length : Int)) = false := decide_eq_false c3
   clear c3
   obtain rfl := Option.some.inj H
   go_wp2
   go_ret
   exact ⟨by first | rfl | (simp; done) | (simp [*]; done), by repeat (first | exact Drawn0.refl _ | apply Drawn0.step)⟩
end Go.Proofs.Ytbcfccdoffbncaa.P
end
section
namespace Go.Proofs.Ytbcfccdoffbncaa.P
open Go.RowKit Go.Proofs.YtbcfccdoffbncaaW.PrintWords Go.Proofs.YtbcfccdoffbncaaW.PrintLast Go.Proofs.YtbcfccdoffbncaaW.PrintMore
attribute [local go_sem] max2_int min2_int max_two min_two max_three min_three max_four min_four
set_option linter.unusedVariables false
set_option linter.unusedSimpArgs false
def spec_l04Fire.l0 : Nat → List Int → List Int → List (S67) → Int → Int → Option (List Int)
 | 0, _, _, _, _, _ => none
 | k + 1, x2, x7, x14, x15, x16 => if x16 < x15 then (if 0 ≤ x16 then (if x16 < (x14.length : Int) then (if 0 ≤ ((rd_T67 x14 x16).f0) then (if ((rd_T67 x14 x16).f0) < (x7.length : Int) then (if ((rd_T67 x14 x16).f0) < (x2.length : Int) then (if 0 ≤ ((rd_T67 x14 x16).f1) then (if ((rd_T67 x14 x16).f1) < (x2.length : Int) then ((some (x7.set (((rd_T67 x14 x16).f0) : Int).toNat (wrap64 ((wrap64 ((rd x7 ((rd_T67 x14 x16).f0)) - (rd x2 ((rd_T67 x14 x16).f0)))) + (rd x2 ((rd_T67 x14 x16).f1)))) : List Int)).bind fun y116 => (if ((rd_T67 x14 x16).f1) < (x7.length : Int) then (spec_l04Fire.l0 k x2 (y116.set (((rd_T67 x14 x16).f1) : Int).toNat (wrap64 ((wrap64 ((rd y116 ((rd_T67 x14 x16).f1)) - (rd x2 ((rd_T67 x14 x16).f1)))) + (rd x2 ((rd_T67 x14 x16).f0))))) x14 x15 (wrap64 (x16 + 1))) else (none))) else (none)) else (none)) else (none)) else (none)) else (none)) else (none)) else (none)) else (some x7)
def spec_l04Fire.f (k : Nat) (a0_0 : Int) (l0_1 : List (S67)) (l1 : List Int) (l2 : List Int) : Option (List Int) := (some (([] : List Int) : List Int)).bind fun y105 => (if y105.length + l1.length < 17592186044416 then (spec_l04Fire.l0 k l2 (y105 ++ l1) l0_1 (l0_1.length : Int) 0) else (none))
def spec_l04Fire.T5 : Bool × List (List Nat × List Nat) := (true, [([], []), ([], []), ([1], [1]), ([], []), ([], []), ([4], [4]), ([3, 5], [3, 5]), ([6], [6]), ([], []), ([], []), ([9], [9]), ([8, 10], [8, 10]), ([11], [11]), ([7, 12], [7, 12]), ([], []), ([], []), ([15], [15]), ([14, 16], [14, 16]), ([17], [17]), ([13, 18], [13, 18]), ([0, 2, 0, 1, 2, 3, 4, 5, 6, 7, 8, 9, 10, 11, 12, 13, 14, 15, 16, 17, 18, 19], [0, 2]), ([20, 19, 0, 1, 2, 3, 4, 5, 6, 7, 8, 9, 10, 11, 12, 13, 14, 15, 16, 17, 18, 19], [19, 20])])
def spec_l04Fire.B5 : List Nat := [0, 0, 2, 0, 0, 16, 56, 120, 0, 0, 512, 1792, 3840, 8184, 0, 0, 32768, 114688, 245760, 524280, 1048575, 2097151]
theorem spec_l04Fire.tab5 : rtab .any (opsOf Try.f96 5) = spec_l04Fire.T5 := by kernel_rfl
theorem spec_l04Fire.bits5 : waitsOk spec_l04Fire.T5.2 spec_l04Fire.B5 = true := by kernel_rfl
def spec_l04Fire.T6 : Bool × List (List Nat × List Nat) := (true, [([], []), ([], []), ([1], [1]), ([], []), ([], []), ([4], [4]), ([3, 5], [3, 5]), ([6], [6]), ([], []), ([], []), ([9], [9]), ([8, 10], [8, 10]), ([11], [11]), ([7, 12], [7, 12]), ([], []), ([], []), ([15], [15]), ([14, 16], [14, 16]), ([17], [17]), ([13, 18], [13, 18]), ([0, 2, 0, 1, 2, 3, 4, 5, 6, 7, 8, 9, 10, 11, 12, 13, 14, 15, 16, 17, 18, 19], [0, 2]), ([20, 19, 0, 1, 2, 3, 4, 5, 6, 7, 8, 9, 10, 11, 12, 13, 14, 15, 16, 17, 18, 19], [19, 20])])
def spec_l04Fire.B6 : List Nat := [0, 0, 2, 0, 0, 16, 56, 120, 0, 0, 512, 1792, 3840, 8184, 0, 0, 32768, 114688, 245760, 524280, 1048575, 2097151]
theorem spec_l04Fire.tab6 : rtab .any (opsOf Try.f96 6) = spec_l04Fire.T6 := by kernel_rfl
theorem spec_l04Fire.bits6 : waitsOk spec_l04Fire.T6.2 spec_l04Fire.B6 = true := by kernel_rfl
set_option maxHeartbeats 8000000 in
set_option maxRecDepth 100000 in
theorem spec_l04Fire.calls (k : Nat) (a0_0 : Int) (A0_1 : Option Addr) (c0_1 : Nat) (l0_1 : List (S67)) (A1 : Option Addr) (c1 : Nat) (l1 : List Int) (A2 : Option Addr) (c2 : Nat) (l2 : List Int) (r : List Int) (w : World) (hr0_1 : Kd.C k67 w A0_1 l0_1.length l0_1) (hc0_1 : l0_1.length ≤ c0_1) (hr1 : Kd.C (Kd.int .i64) w A1 l1.length l1) (hc1 : l1.length ≤ c1) (hr2 : Kd.C (Kd.int .i64) w A2 l2.length l2) (hc2 : l2.length ≤ c2) (h : spec_l04Fire.f k a0_0 l0_1 l1 l2 = some r) :
  Calls Try.prog 96 #[.agg #[.int .i64 a0_0, .slice A0_1 l0_1.length c0_1], .slice A1 l1.length c1, .slice A2 l2.length c2] w fun e w' => ∃ v0_ : Value, e = .returned (v0_) ∧ Kd.R (Kd.int .i64) 3 w' w.heap.size (fun _ => True) v0_ r ∧ Below w.heap.size w w' := by
 have hu31 := Try.underlying31
 have hu67 := Try.underlying67
 have HR0_1 := Aside0.mk hr0_1
 have HC0_1 := Aside0.mk hc0_1
 clear hr0_1 hc0_1
 have HR1 := Aside0.mk hr1
 have HC1 := Aside0.mk hc1
 clear hr1 hc1
 have HR2 := Aside0.mk hr2
 have HC2 := Aside0.mk hc2
 clear hr2 hc2
 have HB := Aside0.mk (Below.refl w.heap.size w)
 have H : ((some (([] : List Int) : List Int)).bind fun y105 => (if y105.length + l1.length < 17592186044416 then (spec_l04Fire.l0 k l2 (y105 ++ l1) l0_1 (l0_1.length : Int) 0) else (none))) = some r := h
 clear h
 obtain ⟨y105, hy105⟩ : ∃ y_ : List Int, y_ = (([] : List Int)) := ⟨_, rfl⟩
 replace H : (if y105.length + l1.length < 17592186044416 then (spec_l04Fire.l0 k l2 (y105 ++ l1) l0_1 (l0_1.length : Int) 0) else (none)) = some r := by first | (rw [hy105]; with_reducible exact H) | (have H2_ := (Option.bind_some _ _).symm.trans H; rw [hy105]; with_reducible exact H2_) | (have H2_ := (Option.bind_some _ _).symm.trans H; with_reducible exact H2_) | with_reducible exact H | (rw [hy105]; exact H) | exact H
 have Ny105 := Aside0.mk hy105
 clear hy105
 by_cases c4 : y105.length + l1.length < 17592186044416
 ·rw [if_pos c4] at H
  have LMc4 := Aside0.mk c4
  clear c4
  obtain ⟨y108, hy108⟩ : ∃ y_ : List Int, y_ = (y105 ++ l1) := ⟨_, rfl⟩
  replace H : (spec_l04Fire.l0 k l2 y108 l0_1 (l0_1.length : Int) 0) = some r := by first | (rw [hy108]; with_reducible exact H) | (have H2_ := (Option.bind_some _ _).symm.trans H; rw [hy108]; with_reducible exact H2_) | (have H2_ := (Option.bind_some _ _).symm.trans H; with_reducible exact H2_) | with_reducible exact H | (rw [hy108]; exact H) | exact H
  have Ny108 := Aside0.mk hy108
  clear hy108
  have H' := Aside0.mk H
  clear H
  go_enter Try.func96, Try.ntmps96
  go_wp2_with (first | ((with_reducible refine gate_dst (N := 3) rfl ?_); refine box_event ?hg (N := 3) ?hd (cs := #[.int .i64 a0_0, .slice A0_1 l0_1.length c0_1]) (t := 31) ?hr ?_; (case hd => rfl); (case hg => rfl); (case hr => first | (go_simp; done) | (go_simp; rfl)); intro gb104 hg w5 hbox hb; have BK104 := Aside0.mk (hbox); have GW104 := Aside0.mk ((by rw [hg]; exact (below_size (Lz HB)) : w.heap.size ≤ gb104)); have GE104 := Aside0.mk ((by rw [hg]; exact (below_size (Lz HB)) : w.heap.size ≤ gb104)); replace HB := Aside0.mk (below_step (Lz HB) hb); clear hb hbox hg) | ((with_reducible refine gate_dst (N := 10) rfl ?_); refine Kd.R_lit (Kd.int .i64) _ 3 ?hg (N := 10) ?hd (xs := ([] : List Int)) (inner := []) (ok := fun _ => True) (okp := fun _ => True) ?hr ?hp (fun _ hk => hk) trivial (Below.refl _ _) (Nat.le_refl _) (by simp) ?_; (case hd => rfl); (case hg => rfl); (case hr => first | (go_simp; done) | (go_simp; rfl)); (case hp => exact (Reps.none _ _)); intro v106 w6 ho7 hb hg_ hnew_; clear hg_ hnew_; (first | rw [← Ny105.out] at ho7 | (simp only [Int.reduceToNat] at ho7; rw [← Ny105.out] at ho7)); have HO107 := Aside0.mk (Kd.R_lower ho7 (below_size (by exact Lz1 HB GE104))); replace BK104 := Aside0.mk (blk_below (g := gb104) (o := .cells #[.int .i64 a0_0, .slice A0_1 l0_1.length c0_1] 31 (0, 0)) (Bz BK104) hb); replace HB := Aside0.mk (below_step (by exact Lz1 HB GE104) hb); clear hb ho7) | ((with_reducible refine gate_builtin (b := .append) (xs := #[.tmp 10, .tmp 11]) rfl ?_); at_builtin; refine Kd.R_append_rows (Kd.int .i64) (w0 := w) w.heap.size rfl (.tmp 10) (.tmp 11) 25 3 (.int .i64 0) 8 rfl Try.underlying25 info3 rfl (by decide) (by omega) v106 y105 l1 _ _ _ (fun _ => True) (fun _ => False) rfl rfl ?aO ?aR (fun _ _ h => h) (fun _ h => h.elim) ?aF ?aB ?aS ?aL ?_; (case aR => exact Cz ((Kd.C_below HR1.out HB.out))); (case aB => exact (by exact Lz1 HB GE104)); (case aF => exact (fun _ _ => trivial)); (case aO => exact (Rz HO107)); (case aS => exact (below_size (by exact Lz1 HB GE104))); (case aL => have := LMc4.out; omega); intro v109 w8 ho hb hg hat; rw [← Ny108.out] at ho; replace BK104 := Aside0.mk (blk_grown (g := gb104) (o := .cells #[.int .i64 a0_0, .slice A0_1 l0_1.length c0_1] 31 (0, 0)) (Bz BK104) hg (Kd.R_ne HO107.out BK104.out (by decide))); replace HB := Aside0.mk (hb); have HO110 := Aside0.mk (ho); clear HO107; clear ho hb hg hat; have hcz9_0 : w8.cell? ⟨gb104, 0, none⟩ = some (.int .i64 a0_0) := (blk_cell BK104.out 0).trans rfl; have hcz9_1 : w8.cell? ⟨gb104, 1, none⟩ = some (.slice A0_1 l0_1.length c0_1) := (blk_cell BK104.out 1).trans rfl; have hfz9_0 := blk_frozen BK104.out 0; have hfz9_1 := blk_frozen BK104.out 1))
  go_loopg [16] k (fun kq v16 w' => ∃ (x7_1 : List Int) (x16_1 : Int), v16 = .int .i64 x16_1 ∧ Aside0 (spec_l04Fire.l0 kq l2 x7_1 l0_1 (l0_1.length : Int) x16_1 = some r) ∧ Aside0 (kq ≤ k) ∧ Aside0 (Kd.R (Kd.int .i64) 3 w' w.heap.size (fun _ => True) v109 x7_1) ∧ Aside0 (w'.heap[gb104]? = some (.cells #[.int .i64 a0_0, (.slice A0_1 l0_1.length c0_1)] 31 (0, 0))) ∧ Aside0 (Below w.heap.size w w'))
  case atStart => exact ⟨(y108), (0), (by first | rfl | (simp; done) | (simp [*]; done)), H', ⟨Nat.le_refl _⟩, ⟨by exact Rz HO110⟩, ⟨by exact Bz BK104⟩, ⟨by exact Lz1 HB GE104⟩⟩
  case round =>
   clear H'
   try clear c1
   try clear c2
   try clear c4
   obtain ⟨x7_1, x16_1, rfl, HA, HK1, HO_7, BK104, HB⟩ := hrel
   cases gk with
   | zero => exact absurd HA.out (by simp [spec_l04Fire.l0])
   | succ k1 =>
    have H := HA.out
    clear HA
    simp only [spec_l04Fire.l0] at H
    by_cases c10 : x16_1 < (l0_1.length : Int)
    ·rw [if_pos c10] at H
     have c10b0 : decide (x16_1 < (l0_1.length : Int)) = true := decide_eq_true c10
     clear c10
     by_cases c11 : 0 ≤ x16_1
     ·rw [if_pos c11] at H
      have c11b0 : decide (0 ≤ x16_1) = true := decide_eq_true c11
      clear c11
      by_cases c12 : x16_1 < (l0_1.length : Int)
      ·rw [if_pos c12] at H
       have c12b0 : decide (x16_1 < (l0_1.length : Int)) = true := decide_eq_true c12
       clear c12
       by_cases c13 : 0 ≤ ((rd_T67 l0_1 x16_1).f0)
       ·rw [if_pos c13] at H
        have c13b0 : decide (0 ≤ ((rd_T67 l0_1 x16_1).f0)) = true := decide_eq_true c13
        clear c13
        by_cases c14 : ((rd_T67 l0_1 x16_1).f0) < (x7_1.length : Int)
        ·rw [if_pos c14] at H
         have c14b0 : decide (((rd_T67 l0_1 x16_1).f0) < (x7_1.length : Int)) = true := decide_eq_true c14
         clear c14
         by_cases c15 : ((rd_T67 l0_1 x16_1).f0) < (l2.length : Int)
         ·rw [if_pos c15] at H
          have c15b0 : decide (((rd_T67 l0_1 x16_1).f0) < (l2.length : Int)) = true := decide_eq_true c15
          clear c15
          by_cases c16 : 0 ≤ ((rd_T67 l0_1 x16_1).f1)
          ·rw [if_pos c16] at H
           have c16b0 : decide (0 ≤ ((rd_T67 l0_1 x16_1).f1)) = true := decide_eq_true c16
           clear c16
           by_cases c17 : ((rd_T67 l0_1 x16_1).f1) < (l2.length : Int)
           ·rw [if_pos c17] at H
            have c17b0 : decide (((rd_T67 l0_1 x16_1).f1) < (l2.length : Int)) = true := decide_eq_true c17
            clear c17
            obtain ⟨y116, hy116⟩ : ∃ y_ : List Int, y_ = (x7_1.set (((rd_T67 l0_1 x16_1).f0) : Int).toNat (wrap64 ((wrap64 ((rd x7_1 ((rd_T67 l0_1 x16_1).f0)) - (rd l2 ((rd_T67 l0_1 x16_1).f0)))) + (rd l2 ((rd_T67 l0_1 x16_1).f1))))) := ⟨_, rfl⟩
            replace H : (if ((rd_T67 l0_1 x16_1).f1) < (x7_1.length : Int) then (spec_l04Fire.l0 k1 l2 (y116.set (((rd_T67 l0_1 x16_1).f1) : Int).toNat (wrap64 ((wrap64 ((rd y116 ((rd_T67 l0_1 x16_1).f1)) - (rd l2 ((rd_T67 l0_1 x16_1).f1)))) + (rd l2 ((rd_T67 l0_1 x16_1).f0))))) l0_1 (l0_1.length : Int) (wrap64 (x16_1 + 1))) else (none)) = some r := by first | (rw [hy116]; with_reducible exact H) | (have H2_ := (Option.bind_some _ _).symm.trans H; rw [hy116]; with_reducible exact H2_) | (have H2_ := (Option.bind_some _ _).symm.trans H; with_reducible exact H2_) | with_reducible exact H | (rw [hy116]; exact H) | exact H
            have Ny116 := Aside0.mk hy116
            clear hy116
            by_cases c19 : ((rd_T67 l0_1 x16_1).f1) < (x7_1.length : Int)
            ·rw [if_pos c19] at H
             have c19b0 : decide (((rd_T67 l0_1 x16_1).f1) < (x7_1.length : Int)) = true := decide_eq_true c19
             clear c19
             obtain ⟨y120, hy120⟩ : ∃ y_ : List Int, y_ = (y116.set (((rd_T67 l0_1 x16_1).f1) : Int).toNat (wrap64 ((wrap64 ((rd y116 ((rd_T67 l0_1 x16_1).f1)) - (rd l2 ((rd_T67 l0_1 x16_1).f1)))) + (rd l2 ((rd_T67 l0_1 x16_1).f0))))) := ⟨_, rfl⟩
             replace H : (spec_l04Fire.l0 k1 l2 y120 l0_1 (l0_1.length : Int) (wrap64 (x16_1 + 1))) = some r := by first | (rw [hy120]; with_reducible exact H) | (have H2_ := (Option.bind_some _ _).symm.trans H; rw [hy120]; with_reducible exact H2_) | (have H2_ := (Option.bind_some _ _).symm.trans H; with_reducible exact H2_) | with_reducible exact H | (rw [hy120]; exact H) | exact H
             have Ny120 := Aside0.mk hy120
             clear hy120
             have H' := Aside0.mk H
             clear H
             have p111 : 0 ≤ (x16_1 : Int) := of_decide_eq_true (by first | (with_reducible assumption) | assumption)
             have q111 : x16_1 < (l0_1.length : Int) := of_decide_eq_true (by first | (with_reducible assumption) | assumption)
             obtain ⟨ad111, e111, hx111_0, hx111_1⟩ := at_T67 HR0_1.out x16_1 p111 q111
             cases e111
             replace hx111_0 := (HB.out.cell (World.block_lt_of_cell? w _ hx111_0)).trans hx111_0
             replace hx111_1 := (HB.out.cell (World.block_lt_of_cell? w _ hx111_1)).trans hx111_1
             replace p111 := eq_true p111
             replace q111 := eq_true q111
             try go_wp2_with (first | ((with_reducible refine gate_dst (N := 9) rfl ?_); refine box_event ?hg (N := 9) ?hd (cs := #[.int .i64 0, .int .i64 0]) (t := 67) ?hr ?_; (case hd => rfl); (case hg => rfl); (case hr => first | (go_simp; done) | (go_simp; rfl)); intro gb112 hg w21 hbox hb; replace HO_7 := Aside0.mk (Kd.R_below (Rz HO_7) hb); have BK112 := Aside0.mk (hbox); have GW112 := Aside0.mk ((by rw [hg]; exact (below_size (by exact Lz1 HB GE104)) : w.heap.size ≤ gb112)); have GE112 := Aside0.mk ((by rw [hg]; exact (below_size (by exact Lz1 HB GE104)) : w.heap.size ≤ gb112)); replace HB := Aside0.mk (below_step (by exact Lz1 HB GE104) hb); have NB104_112 := Aside0.mk ((by rw [hg]; exact Nat.ne_of_lt (blk_lt (g := gb104) (o := .cells #[.int .i64 a0_0, .slice (some ad111) l0_1.length c0_1] 31 (0, 0)) (Bz BK104)) : gb104 ≠ gb112)); have NB112_104 := Aside0.mk ((by rw [hg]; exact Nat.ne_of_gt (blk_lt (g := gb104) (o := .cells #[.int .i64 a0_0, .slice (some ad111) l0_1.length c0_1] 31 (0, 0)) (Bz BK104)) : gb112 ≠ gb104)); replace BK104 := Aside0.mk (blk_below (g := gb104) (o := .cells #[.int .i64 a0_0, .slice (some ad111) l0_1.length c0_1] 31 (0, 0)) (Bz BK104) hb); clear hb hbox hg; have hnb22 := NB112_104.out; have hnc22 := NB104_112.out; have hcz23_0 : w21.cell? ⟨gb112, 0, none⟩ = some (.int .i64 0) := (blk_cell BK112.out 0).trans rfl; have hcz23_1 : w21.cell? ⟨gb112, 1, none⟩ = some (.int .i64 0) := (blk_cell BK112.out 1).trans rfl; have hfz23_0 := blk_frozen BK112.out 0; have hfz23_1 := blk_frozen BK112.out 1))
             have n0_ : Aside0 (Kd.R (Kd.int .i64) 3 ((w21.setCell ⟨gb112, 0, none⟩ (.int .i64 ((rd_T67 l0_1 x16_1).f0))).setCell ⟨gb112, 1, none⟩ (.int .i64 ((rd_T67 l0_1 x16_1).f1))) w.heap.size (fun _ => True) v109 x7_1) := ⟨by (with_reducible repeat (first | apply Kd.R_alloc | apply Kd.R_drewN | apply Kd.R_drew)); exact Kd.R_mono (Kd.R_far (p := ⟨gb112, 1, none⟩) (Kd.R_far (p := ⟨gb112, 0, none⟩) (Kd.R_types HO_7.out BK112.out (by decide)) (fun _ hk => hk.2) (.int .i64 ((rd_T67 l0_1 x16_1).f0))) (fun _ hk => hk.2) (.int .i64 ((rd_T67 l0_1 x16_1).f1))) (fun _ hk => trivial)⟩
             have n1_ : Aside0 (((w21.setCell ⟨gb112, 0, none⟩ (.int .i64 ((rd_T67 l0_1 x16_1).f0))).setCell ⟨gb112, 1, none⟩ (.int .i64 ((rd_T67 l0_1 x16_1).f1))).heap[gb104]? = some (.cells #[.int .i64 a0_0, .slice (some ad111) l0_1.length c0_1] 31 (0, 0))) := ⟨by (with_reducible repeat (first | refine blk_drewN ?_ _ | refine blk_drew ?_ | refine blk_alloc ?_ _)); refine blk_far ?_ NB104_112.out _; (with_reducible repeat (first | refine blk_drewN ?_ _ | refine blk_drew ?_ | refine blk_alloc ?_ _)); refine blk_far ?_ NB104_112.out _; exact Bz BK104⟩
             have n2_ : Aside0 (((w21.setCell ⟨gb112, 0, none⟩ (.int .i64 ((rd_T67 l0_1 x16_1).f0))).setCell ⟨gb112, 1, none⟩ (.int .i64 ((rd_T67 l0_1 x16_1).f1))).heap[gb112]? = some (.cells #[.int .i64 ((rd_T67 l0_1 x16_1).f0), .int .i64 ((rd_T67 l0_1 x16_1).f1)] 67 (0, 0))) := ⟨by (with_reducible repeat (first | refine blk_drewN ?_ _ | refine blk_drew ?_ | refine blk_alloc ?_ _)); refine blk_put (cs := #[.int .i64 ((rd_T67 l0_1 x16_1).f0), .int .i64 0]) ?_ 1 _ rfl; (with_reducible repeat (first | refine blk_drewN ?_ _ | refine blk_drew ?_ | refine blk_alloc ?_ _)); refine blk_put (cs := #[.int .i64 0, .int .i64 0]) ?_ 0 _ rfl; exact Bz BK112⟩
             have n3_ : Aside0 (Below w.heap.size w ((w21.setCell ⟨gb112, 0, none⟩ (.int .i64 ((rd_T67 l0_1 x16_1).f0))).setCell ⟨gb112, 1, none⟩ (.int .i64 ((rd_T67 l0_1 x16_1).f1)))) := ⟨by exact Lz2 HB GE104 GE112⟩
             (try clear HO_7)
             (try clear BK104)
             (try clear BK112)
             (try clear HB)
             generalize ((w21.setCell ⟨gb112, 0, none⟩ (.int .i64 ((rd_T67 l0_1 x16_1).f0))).setCell ⟨gb112, 1, none⟩ (.int .i64 ((rd_T67 l0_1 x16_1).f1))) = w24 at n0_ n1_ n2_ n3_ ⊢
             have HO_7 := n0_
             have BK104 := n1_
             have BK112 := n2_
             have HB := n3_
             clear n0_ n1_ n2_ n3_
             replace HO_7 := Aside0.mk (Kd.R_drew HO_7.out)
             replace BK104 := Aside0.mk (blk_drew BK104.out)
             replace BK112 := Aside0.mk (blk_drew BK112.out)
             replace HB := Aside0.mk (below_drew1 HB.out)
             obtain ⟨Ao26, co26, eo26⟩ := Kd.R_slice HO_7.out
             (first | subst eo26 | (injection eo26 with f1_ f2_ f3_; have f4_ := f1_.symm; have f5_ := f3_.symm; clear f1_ f2_ f3_; subst f4_; subst f5_))
             have p113 : 0 ≤ (((rd_T67 l0_1 x16_1).f0) : Int) := of_decide_eq_true (by first | (with_reducible assumption) | assumption)
             have q113 : ((rd_T67 l0_1 x16_1).f0) < (x7_1.length : Int) := of_decide_eq_true (by first | (with_reducible assumption) | assumption)
             obtain ⟨ad113, e113, hx113_0⟩ := Kd.at_int (Kd.R_reads' HO_7.out).2.2 ((rd_T67 l0_1 x16_1).f0) p113 q113
             cases e113
             replace p113 := eq_true p113
             replace q113 := eq_true q113
             have p114 : 0 ≤ (((rd_T67 l0_1 x16_1).f0) : Int) := of_decide_eq_true (by first | (with_reducible assumption) | assumption)
             have q114 : ((rd_T67 l0_1 x16_1).f0) < (l2.length : Int) := of_decide_eq_true (by first | (with_reducible assumption) | assumption)
             obtain ⟨ad114, e114, hx114_0⟩ := Kd.at_int HR2.out ((rd_T67 l0_1 x16_1).f0) p114 q114
             have hw114_0 := hx114_0
             cases e114
             replace hx114_0 := (HB.out.cell (World.block_lt_of_cell? w _ hx114_0)).trans hx114_0
             replace p114 := eq_true p114
             replace q114 := eq_true q114
             have p115 : 0 ≤ (((rd_T67 l0_1 x16_1).f1) : Int) := of_decide_eq_true (by first | (with_reducible assumption) | assumption)
             have q115 : ((rd_T67 l0_1 x16_1).f1) < (l2.length : Int) := of_decide_eq_true (by first | (with_reducible assumption) | assumption)
             obtain ⟨ad115, e115, hx115_0⟩ := Kd.at_int HR2.out ((rd_T67 l0_1 x16_1).f1) p115 q115
             have hw115_0 := hx115_0
             obtain rfl : ad114 = ad115 := (by injection e115)
             replace hx115_0 := (HB.out.cell (World.block_lt_of_cell? w _ hx115_0)).trans hx115_0
             replace p115 := eq_true p115
             replace q115 := eq_true q115
             have p18 : 0 ≤ (((rd_T67 l0_1 x16_1).f0) : Int) := of_decide_eq_true (by first | (with_reducible assumption) | assumption)
             have q18 : (((rd_T67 l0_1 x16_1).f0) : Int) < ((x7_1.length : Int) : Int) := of_decide_eq_true (by first | (with_reducible assumption) | assumption)
             obtain ⟨go18, co18, eo18, gb18, gl18, cl18, HG18⟩ := Kd.R_form HO_7.out (by omega)
             (first | cases eo18 | (injection eo18 with ea_ en_ ec_; (first | subst ea_ | (injection ea_ with ea_; subst ea_)); subst ec_; clear en_))
             have GB18 := Aside0.mk gb18
             have GG18 := Aside0.mk HG18
             clear gb18 gl18 HG18
             (first | simp only [add_plain] at hx113_0 | skip)
             obtain ⟨hx18_0, hf18_0⟩ := Kd.R_celln 0 HO_7.out (((rd_T67 l0_1 x16_1).f0) : Int) p18 q18
             replace p18 := eq_true p18
             replace q18 := eq_true q18
             have HP27 := Kd.R_putn HO_7.out (((rd_T67 l0_1 x16_1).f0) : Int) (wrap64 ((wrap64 ((rd x7_1 ((rd_T67 l0_1 x16_1).f0)) - (rd l2 ((rd_T67 l0_1 x16_1).f0)))) + (rd l2 ((rd_T67 l0_1 x16_1).f1))))
             rw [← Ny116.out] at HP27
             have HQ27 := Aside0.mk HP27
             clear HP27
             refine start_ (n := 22) (S := fun w' => w'.cell? ⟨gb112, 0, none⟩ = some (.int .i64 ((rd_T67 l0_1 x16_1).f0)) ∧ w'.cell? ⟨gb112, 1, none⟩ = some (.int .i64 ((rd_T67 l0_1 x16_1).f1)) ∧ w'.cell? ⟨go18, (((rd_T67 l0_1 x16_1).f0)).toNat, none⟩ = some (.int .i64 (rd x7_1 ((rd_T67 l0_1 x16_1).f0))) ∧ w'.cell? (ad114.add (((rd_T67 l0_1 x16_1).f0)).toNat) = some (.int .i64 (rd l2 ((rd_T67 l0_1 x16_1).f0))) ∧ w'.cell? (ad114.add (((rd_T67 l0_1 x16_1).f1)).toNat) = some (.int .i64 (rd l2 ((rd_T67 l0_1 x16_1).f1)))) (ds := [21]) #[false, false, false, false, false, false, false, false, false, false, false, false, false, false, false, false, false, false, false, false, false, false] (by kernel_rfl) rfl rfl ⟨(blk_cell BK112.out 0).trans rfl, (blk_cell BK112.out 1).trans rfl, hx113_0, ((HB.out.cell (World.block_lt_of_cell? w _ hw114_0)).trans hw114_0), ((HB.out.cell (World.block_lt_of_cell? w _ hw115_0)).trans hw115_0)⟩ (fun hHeld => ?_); refine with_tabW spec_l04Fire.tab5 spec_l04Fire.bits5 (fun HT_ HW_ => ?_)
             generalize w24.drew = w25 at HO_7 BK104 BK112 HB GG18 HQ27 hf18_0 hx113_0 hx114_0 hx115_0 hx18_0 hHeld ⊢
             refine pureT_ 0 20 HT_ ?_
             refine pureT_ 1 21 HT_ ?_
             refine pureT_ 3 23 HT_ ?_
             refine pureT_ 4 24 HT_ ?_
             refine pureT_ 8 28 HT_ ?_
             refine pureT_ 9 29 HT_ ?_
             refine pureT_ 14 34 HT_ ?_
             refine pureT_ 15 35 HT_ ?_
             refine takeT_ 2 22 HT_ HW_ hHeld rfl (by rintro w' ⟨s0, s1, s2, s3, s4⟩; go_simp; with_reducible rfl) ?_
             refine takeT_ 5 25 HT_ HW_ hHeld rfl (by rintro w' ⟨s0, s1, s2, s3, s4⟩; go_simp; with_reducible rfl) ?_
             refine pureT_ 6 26 HT_ ?_
             refine takeT_ 7 27 HT_ HW_ hHeld rfl (by rintro w' ⟨s0, s1, s2, s3, s4⟩; go_simp; with_reducible rfl) ?_
             refine takeT_ 10 30 HT_ HW_ hHeld rfl (by rintro w' ⟨s0, s1, s2, s3, s4⟩; go_simp; with_reducible rfl) ?_
             refine pureT_ 11 31 HT_ ?_
             refine takeT_ 12 32 HT_ HW_ hHeld rfl (by rintro w' ⟨s0, s1, s2, s3, s4⟩; go_simp; with_reducible rfl) ?_
             refine pureT_ 13 33 HT_ ?_
             refine takeT_ 16 36 HT_ HW_ hHeld rfl (by rintro w' ⟨s0, s1, s2, s3, s4⟩; go_simp; with_reducible rfl) ?_
             refine pureT_ 17 37 HT_ ?_
             refine takeT_ 18 38 HT_ HW_ hHeld rfl (by rintro w' ⟨s0, s1, s2, s3, s4⟩; go_simp; with_reducible rfl) ?_
             refine pureT_ 19 39 HT_ ?_
             refine pureT_ 20 40 HT_ ?_
             refine last_ (i := 21) (N := none) #[true, true, true, true, true, true, true, true, true, true, true, true, true, true, true, true, true, true, true, true, true, true] rfl rfl (one_of HT_.out (by kernel_rfl)) (by decide) (fun K hK => ?_)
             refine skip_ (w1 := ?_) (by rfl) rfl ?_ ?_
             rotate_left
             ·go_simp
              rfl
             refine hK.out _ _ ?_
             clear hK K
             refine done_ (done_of HT_.out (by kernel_rfl)) ?_
             try go_wp2
             have n0_ : Aside0 (Kd.R (Kd.int .i64) 3 (w25.setCell ⟨go18, (((rd_T67 l0_1 x16_1).f0) : Int).toNat, none⟩ (.int .i64 (wrap64 ((wrap64 ((rd x7_1 ((rd_T67 l0_1 x16_1).f0)) - (rd l2 ((rd_T67 l0_1 x16_1).f0)))) + (rd l2 ((rd_T67 l0_1 x16_1).f1)))))) w.heap.size (fun _ => True) (.slice (some ⟨go18, 0, none⟩) x7_1.length co26) y116) := ⟨by exact Rz HQ27⟩
             have n1_ : Aside0 ((w25.setCell ⟨go18, (((rd_T67 l0_1 x16_1).f0) : Int).toNat, none⟩ (.int .i64 (wrap64 ((wrap64 ((rd x7_1 ((rd_T67 l0_1 x16_1).f0)) - (rd l2 ((rd_T67 l0_1 x16_1).f0)))) + (rd l2 ((rd_T67 l0_1 x16_1).f1)))))).heap[gb104]? = some (.cells #[.int .i64 a0_0, .slice (some ad111) l0_1.length c0_1] 31 (0, 0))) := ⟨by (with_reducible repeat (first | refine blk_drewN ?_ _ | refine blk_drew ?_ | refine blk_alloc ?_ _)); refine blk_far ?_ (by have h_ := Kd.R_ne HO_7.out BK104.out (by decide); intro e_; exact h_ (by rw [e_]; rfl)) _; exact Bz BK104⟩
             have n2_ : Aside0 ((w25.setCell ⟨go18, (((rd_T67 l0_1 x16_1).f0) : Int).toNat, none⟩ (.int .i64 (wrap64 ((wrap64 ((rd x7_1 ((rd_T67 l0_1 x16_1).f0)) - (rd l2 ((rd_T67 l0_1 x16_1).f0)))) + (rd l2 ((rd_T67 l0_1 x16_1).f1)))))).heap[gb112]? = some (.cells #[.int .i64 ((rd_T67 l0_1 x16_1).f0), .int .i64 ((rd_T67 l0_1 x16_1).f1)] 67 (0, 0))) := ⟨by (with_reducible repeat (first | refine blk_drewN ?_ _ | refine blk_drew ?_ | refine blk_alloc ?_ _)); refine blk_far ?_ (by have h_ := Kd.R_ne HO_7.out BK112.out (by decide); intro e_; exact h_ (by rw [e_]; rfl)) _; exact Bz BK112⟩
             have n3_ : Aside0 (Below w.heap.size w (w25.setCell ⟨go18, (((rd_T67 l0_1 x16_1).f0) : Int).toNat, none⟩ (.int .i64 (wrap64 ((wrap64 ((rd x7_1 ((rd_T67 l0_1 x16_1).f0)) - (rd l2 ((rd_T67 l0_1 x16_1).f0)))) + (rd l2 ((rd_T67 l0_1 x16_1).f1))))))) := ⟨by exact Lz3 HB GB18 GE104 GE112⟩
             (try clear HO_7)
             (try clear BK104)
             (try clear BK112)
             (try clear HB)
             generalize (w25.setCell ⟨go18, (((rd_T67 l0_1 x16_1).f0) : Int).toNat, none⟩ (.int .i64 (wrap64 ((wrap64 ((rd x7_1 ((rd_T67 l0_1 x16_1).f0)) - (rd l2 ((rd_T67 l0_1 x16_1).f0)))) + (rd l2 ((rd_T67 l0_1 x16_1).f1)))))) = w28 at n0_ n1_ n2_ n3_ ⊢
             have HO_7 := n0_
             have BK104 := n1_
             have BK112 := n2_
             have HB := n3_
             clear n0_ n1_ n2_ n3_
             replace HO_7 := Aside0.mk (Kd.R_drew HO_7.out)
             replace BK104 := Aside0.mk (blk_drew BK104.out)
             replace BK112 := Aside0.mk (blk_drew BK112.out)
             replace HB := Aside0.mk (below_drew1 HB.out)
             have p117 : 0 ≤ (((rd_T67 l0_1 x16_1).f1) : Int) := of_decide_eq_true (by first | (with_reducible assumption) | assumption)
             have q117 : ((rd_T67 l0_1 x16_1).f1) < (y116.length : Int) := (by have h_ : (((rd_T67 l0_1 x16_1).f1) : Int) < ((x7_1.length : Int) : Int) := of_decide_eq_true (by first | (with_reducible assumption) | assumption); first | (have e_ := (Kd.R_reads' HO_7.out).1; omega) | simpa only [Ny116.out, List.length_set] using h_)
             have ql117 : ((((rd_T67 l0_1 x16_1).f1) : Int) < ((x7_1.length : Int) : Int)) = True := eq_true (of_decide_eq_true (by first | (with_reducible assumption) | assumption))
             obtain ⟨ad117, e117, hx117_0⟩ := Kd.at_int (Kd.R_reads' HO_7.out).2.2 ((rd_T67 l0_1 x16_1).f1) p117 q117
             obtain rfl : (⟨go18, 0, none⟩ : Addr) = ad117 := (by injection e117)
             (first | simp only [add_plain] at hx117_0 | simp only [add_at] at hx117_0 | simp only [Addr.add, Nat.zero_add] at hx117_0 | skip)
             replace p117 := eq_true p117
             replace q117 := eq_true q117
             have p118 : 0 ≤ (((rd_T67 l0_1 x16_1).f1) : Int) := of_decide_eq_true (by first | (with_reducible assumption) | assumption)
             have q118 : ((rd_T67 l0_1 x16_1).f1) < (l2.length : Int) := of_decide_eq_true (by first | (with_reducible assumption) | assumption)
             obtain ⟨ad118, e118, hx118_0⟩ := Kd.at_int HR2.out ((rd_T67 l0_1 x16_1).f1) p118 q118
             have hw118_0 := hx118_0
             obtain rfl : ad114 = ad118 := (by injection e118)
             replace hx118_0 := (HB.out.cell (World.block_lt_of_cell? w _ hx118_0)).trans hx118_0
             replace p118 := eq_true p118
             replace q118 := eq_true q118
             have p119 : 0 ≤ (((rd_T67 l0_1 x16_1).f0) : Int) := of_decide_eq_true (by first | (with_reducible assumption) | assumption)
             have q119 : ((rd_T67 l0_1 x16_1).f0) < (l2.length : Int) := of_decide_eq_true (by first | (with_reducible assumption) | assumption)
             obtain ⟨ad119, e119, hx119_0⟩ := Kd.at_int HR2.out ((rd_T67 l0_1 x16_1).f0) p119 q119
             have hw119_0 := hx119_0
             obtain rfl : ad114 = ad119 := (by injection e119)
             replace hx119_0 := (HB.out.cell (World.block_lt_of_cell? w _ hx119_0)).trans hx119_0
             replace p119 := eq_true p119
             replace q119 := eq_true q119
             have p20 : 0 ≤ (((rd_T67 l0_1 x16_1).f1) : Int) := of_decide_eq_true (by first | (with_reducible assumption) | assumption)
             have q20 : (((rd_T67 l0_1 x16_1).f1) : Int) < ((x7_1.length : Int) : Int) := of_decide_eq_true (by first | (with_reducible assumption) | assumption)
             obtain ⟨hx20_0, hf20_0⟩ := Kd.R_celln 0 HO_7.out (((rd_T67 l0_1 x16_1).f1) : Int) p20 q20
             replace p20 := eq_true p20
             replace q20 := eq_true q20
             have HP30 := Kd.R_putn HO_7.out (((rd_T67 l0_1 x16_1).f1) : Int) (wrap64 ((wrap64 ((rd y116 ((rd_T67 l0_1 x16_1).f1)) - (rd l2 ((rd_T67 l0_1 x16_1).f1)))) + (rd l2 ((rd_T67 l0_1 x16_1).f0))))
             rw [← Ny120.out] at HP30
             have HQ30 := Aside0.mk HP30
             clear HP30
             refine start_ (n := 22) (S := fun w' => w'.cell? ⟨gb112, 0, none⟩ = some (.int .i64 ((rd_T67 l0_1 x16_1).f0)) ∧ w'.cell? ⟨gb112, 1, none⟩ = some (.int .i64 ((rd_T67 l0_1 x16_1).f1)) ∧ w'.cell? ⟨go18, (((rd_T67 l0_1 x16_1).f1)).toNat, none⟩ = some (.int .i64 (rd y116 ((rd_T67 l0_1 x16_1).f1))) ∧ w'.cell? (ad114.add (((rd_T67 l0_1 x16_1).f1)).toNat) = some (.int .i64 (rd l2 ((rd_T67 l0_1 x16_1).f1))) ∧ w'.cell? (ad114.add (((rd_T67 l0_1 x16_1).f0)).toNat) = some (.int .i64 (rd l2 ((rd_T67 l0_1 x16_1).f0)))) (ds := [21]) #[false, false, false, false, false, false, false, false, false, false, false, false, false, false, false, false, false, false, false, false, false, false] (by kernel_rfl) rfl rfl ⟨(blk_cell BK112.out 0).trans rfl, (blk_cell BK112.out 1).trans rfl, hx117_0, ((HB.out.cell (World.block_lt_of_cell? w _ hw118_0)).trans hw118_0), ((HB.out.cell (World.block_lt_of_cell? w _ hw119_0)).trans hw119_0)⟩ (fun hHeld => ?_); refine with_tabW spec_l04Fire.tab6 spec_l04Fire.bits6 (fun HT_ HW_ => ?_)
             generalize w28.drew = w29 at HO_7 BK104 BK112 HB HQ27 HQ30 hf20_0 hx117_0 hx118_0 hx119_0 hx20_0 hHeld ⊢
             refine pureT_ 0 41 HT_ ?_
             refine pureT_ 1 42 HT_ ?_
             refine pureT_ 3 44 HT_ ?_
             refine pureT_ 4 45 HT_ ?_
             refine pureT_ 8 49 HT_ ?_
             refine pureT_ 9 50 HT_ ?_
             refine pureT_ 14 55 HT_ ?_
             refine pureT_ 15 56 HT_ ?_
             refine takeT_ 2 43 HT_ HW_ hHeld rfl (by rintro w' ⟨s0, s1, s2, s3, s4⟩; go_simp; with_reducible rfl) ?_
             refine takeT_ 5 46 HT_ HW_ hHeld rfl (by rintro w' ⟨s0, s1, s2, s3, s4⟩; go_simp; with_reducible rfl) ?_
             refine pureT_ 6 47 HT_ ?_
             refine takeT_ 7 48 HT_ HW_ hHeld rfl (by rintro w' ⟨s0, s1, s2, s3, s4⟩; go_simp; with_reducible rfl) ?_
             refine takeT_ 10 51 HT_ HW_ hHeld rfl (by rintro w' ⟨s0, s1, s2, s3, s4⟩; go_simp; with_reducible rfl) ?_
             refine pureT_ 11 52 HT_ ?_
             refine takeT_ 12 53 HT_ HW_ hHeld rfl (by rintro w' ⟨s0, s1, s2, s3, s4⟩; go_simp; with_reducible rfl) ?_
             refine pureT_ 13 54 HT_ ?_
             refine takeT_ 16 57 HT_ HW_ hHeld rfl (by rintro w' ⟨s0, s1, s2, s3, s4⟩; go_simp; with_reducible rfl) ?_
             refine pureT_ 17 58 HT_ ?_
             refine takeT_ 18 59 HT_ HW_ hHeld rfl (by rintro w' ⟨s0, s1, s2, s3, s4⟩; go_simp; with_reducible rfl) ?_
             refine pureT_ 19 60 HT_ ?_
             refine pureT_ 20 61 HT_ ?_
             refine last_ (i := 21) (N := none) #[true, true, true, true, true, true, true, true, true, true, true, true, true, true, true, true, true, true, true, true, true, true] rfl rfl (one_of HT_.out (by kernel_rfl)) (by decide) (fun K hK => ?_)
             refine skip_ (w1 := ?_) (by rfl) rfl ?_ ?_
             rotate_left
             ·go_simp
              rfl
             refine hK.out _ _ ?_
             clear hK K
             refine done_ (done_of HT_.out (by kernel_rfl)) ?_
             try go_wp2
             go_roundg k1
             case measure => have := HK1.out; omega
             case rel => exact ⟨(y120), (wrap64 (x16_1 + 1)), (by first | rfl | (simp; done) | (simp [*]; done)), H', ⟨by have := HK1.out; omega⟩, ⟨by exact Rz HQ30⟩, ⟨by (with_reducible repeat (first | refine blk_drewN ?_ _ | refine blk_drew ?_ | refine blk_alloc ?_ _)); refine blk_far ?_ (by have h_ := Kd.R_ne HO_7.out BK104.out (by decide); intro e_; exact h_ (by rw [e_]; rfl)) _; exact Bz BK104⟩, ⟨by exact Lz3 HB GB18 GE104 GE112⟩⟩
            rw [if_neg c19] at H
            exact absurd H (by simp)
           rw [if_neg c17] at H
           exact absurd H (by simp)
          rw [if_neg c16] at H
          exact absurd H (by simp)
         rw [if_neg c15] at H
         exact absurd H (by simp)
        rw [if_neg c14] at H
        exact absurd H (by simp)
       rw [if_neg c13] at H
       exact absurd H (by simp)
      rw [if_neg c12] at H
      exact absurd H (by simp)
     rw [if_neg c11] at H
     exact absurd H (by simp)
    rw [if_neg c10] at H
    have c10b0 : decide (x16_1 < (l0_1.length : Int)) = false := decide_eq_false c10
    clear c10
    obtain rfl := Option.some.inj H
    go_wp2
    go_ret
    exact ⟨_, by first | rfl | (simp [errW_none, errW_some] <;> rfl) | (simp [*, errW_none, errW_some] <;> rfl), by exact Rz HO_7, by exact Lz1 HB GE104⟩
 rw [if_neg c4] at H
 exact absurd H (by simp)
end Go.Proofs.Ytbcfccdoffbncaa.P
end
section
namespace Go.Proofs.Ytbcfccdoffbncaa.P
open Go.RowKit Go.Proofs.YtbcfccdoffbncaaW.PrintWords Go.Proofs.YtbcfccdoffbncaaW.PrintLast Go.Proofs.YtbcfccdoffbncaaW.PrintMore
attribute [local go_sem] max2_int min2_int max_two min_two max_three min_three max_four min_four
set_option linter.unusedVariables false
set_option linter.unusedSimpArgs false
def spec_l02Vert.f (a0_0 : Int) (l0_1 : List (S67)) (a1 : Int) : Option (Bool) := if a1 ≥ 0 then (some (decide (a1 < a0_0))) else (some false)
set_option maxHeartbeats 8000000 in
set_option maxRecDepth 100000 in
theorem spec_l02Vert.calls (a0_0 : Int) (A0_1 : Option Addr) (c0_1 : Nat) (l0_1 : List (S67)) (a1 : Int) (r : Bool) (w : World) (hr0_1 : Kd.C k67 w A0_1 l0_1.length l0_1) (hc0_1 : l0_1.length ≤ c0_1) (h : spec_l02Vert.f a0_0 l0_1 a1 = some r) :
  Calls Try.prog 131 #[.agg #[.int .i64 a0_0, .slice A0_1 l0_1.length c0_1], .int .i64 a1] w fun e w' => e = .returned (.bool r) ∧ Below w.heap.size w w' := by
 have hu31 := Try.underlying31
 have HR0_1 := Aside0.mk hr0_1
 have HC0_1 := Aside0.mk hc0_1
 clear hr0_1 hc0_1
 have HB := Aside0.mk (Below.refl w.heap.size w)
 have H : (if a1 ≥ 0 then (some (decide (a1 < a0_0))) else (some false)) = some r := h
 clear h
 by_cases c3 : a1 ≥ 0
 ·rw [if_pos c3] at H
  have c3b0 : decide (0 ≤ a1) = true := decide_eq_true c3
  clear c3
  obtain rfl := Option.some.inj H
  go_enter Try.func131, Try.ntmps131
  go_wp2_with (first | ((with_reducible refine gate_dst (N := 2) rfl ?_); refine box_event ?hg (N := 2) ?hd (cs := #[.int .i64 a0_0, .slice A0_1 l0_1.length c0_1]) (t := 31) ?hr ?_; (case hd => rfl); (case hg => rfl); (case hr => first | (go_simp; done) | (go_simp; rfl)); intro gb121 hg w4 hbox hb; have BK121 := Aside0.mk (hbox); have GW121 := Aside0.mk ((by rw [hg]; exact (below_size (Lz HB)) : w.heap.size ≤ gb121)); have GE121 := Aside0.mk ((by rw [hg]; exact (below_size (Lz HB)) : w.heap.size ≤ gb121)); replace HB := Aside0.mk (below_step (Lz HB) hb); clear hb hbox hg; have hcz5_0 : w4.cell? ⟨gb121, 0, none⟩ = some (.int .i64 a0_0) := (blk_cell BK121.out 0).trans rfl; have hcz5_1 : w4.cell? ⟨gb121, 1, none⟩ = some (.slice A0_1 l0_1.length c0_1) := (blk_cell BK121.out 1).trans rfl; have hfz5_0 := blk_frozen BK121.out 0; have hfz5_1 := blk_frozen BK121.out 1))
  go_ret
  exact ⟨by first | rfl | (simp [errW_none, errW_some] <;> rfl) | (simp [*, errW_none, errW_some] <;> rfl), by exact Lz1 HB GE121⟩
 rw [if_neg c3] at H
 have c3b0 : decide (0 ≤ a1) = false := decide_eq_false c3
 clear c3
 obtain rfl := Option.some.inj H
 go_enter Try.func131, Try.ntmps131
 go_wp2_with (first | ((with_reducible refine gate_dst (N := 2) rfl ?_); refine box_event ?hg (N := 2) ?hd (cs := #[.int .i64 a0_0, .slice A0_1 l0_1.length c0_1]) (t := 31) ?hr ?_; (case hd => rfl); (case hg => rfl); (case hr => first | (go_simp; done) | (go_simp; rfl)); intro gb121 hg w6 hbox hb; have BK121 := Aside0.mk (hbox); have GW121 := Aside0.mk ((by rw [hg]; exact (below_size (Lz HB)) : w.heap.size ≤ gb121)); have GE121 := Aside0.mk ((by rw [hg]; exact (below_size (Lz HB)) : w.heap.size ≤ gb121)); replace HB := Aside0.mk (below_step (Lz HB) hb); clear hb hbox hg))
 go_ret
 exact ⟨by first | rfl | (simp [errW_none, errW_some] <;> rfl) | (simp [*, errW_none, errW_some] <;> rfl), by exact Lz1 HB GE121⟩
end Go.Proofs.Ytbcfccdoffbncaa.P
end
section
namespace Go.Proofs.Ytbcfccdoffbncaa.P
open Go.RowKit Go.Proofs.YtbcfccdoffbncaaW.PrintWords Go.Proofs.YtbcfccdoffbncaaW.PrintLast Go.Proofs.YtbcfccdoffbncaaW.PrintMore
attribute [local go_sem] max2_int min2_int max_two min_two max_three min_three max_four min_four
set_option linter.unusedVariables false
set_option linter.unusedSimpArgs false
mutual
def spec_Multiplicity.j0 : Nat → Int → Int → Int → Bool → Int → List (S67) → Option (Int)
 | 0, _, _, _, _, _, _ => none
 | k + 1, x1, x2, x7, x24, x123000, x123001 => if x24 = true then (some 0) else (spec_Multiplicity.l0 k x1 x2 x7 x123001 (x123001.length : Int) 0)
def spec_Multiplicity.l0 : Nat → Int → Int → Int → List (S67) → Int → Int → Option (Int)
 | 0, _, _, _, _, _, _ => none
 | k + 1, x1, x2, x7, x26, x27, x28 => if x28 < x27 then (if 0 ≤ x28 then (if x28 < (x26.length : Int) then (if ((rd_T67 x26 x28).f0) = (mn x1 x2) then (if ((rd_T67 x26 x28).f1) = (mx x1 x2) then (spec_Multiplicity.l0 k x1 x2 (wrap64 (x7 + 1)) x26 x27 (wrap64 (x28 + 1))) else (spec_Multiplicity.l0 k x1 x2 x7 x26 x27 (wrap64 (x28 + 1)))) else (spec_Multiplicity.l0 k x1 x2 x7 x26 x27 (wrap64 (x28 + 1)))) else (none)) else (none)) else (some x7)
end
def spec_Multiplicity.f (k : Nat) (a0_0 : Int) (l0_1 : List (S67)) (a1 : Int) (a2 : Int) : Option (Int) := (spec_l02Vert.f a0_0 l0_1 a1).bind fun t123 => (if t123 = true then ((spec_l02Vert.f a0_0 l0_1 a2).bind fun t124 => (if t124 = true then (spec_Multiplicity.j0 k a1 a2 0 (a1 == a2) a0_0 l0_1) else (spec_Multiplicity.j0 k a1 a2 0 true a0_0 l0_1))) else (spec_Multiplicity.j0 k a1 a2 0 true a0_0 l0_1))
set_option maxHeartbeats 8000000 in
set_option maxRecDepth 100000 in
theorem spec_Multiplicity.calls (k : Nat) (a0_0 : Int) (A0_1 : Option Addr) (c0_1 : Nat) (l0_1 : List (S67)) (a1 : Int) (a2 : Int) (r : Int) (w : World) (hr0_1 : Kd.C k67 w A0_1 l0_1.length l0_1) (hc0_1 : l0_1.length ≤ c0_1) (h : spec_Multiplicity.f k a0_0 l0_1 a1 a2 = some r) :
  Calls Try.prog 115 #[.agg #[.int .i64 a0_0, .slice A0_1 l0_1.length c0_1], .int .i64 a1, .int .i64 a2] w fun e w' => e = .returned (.int .i64 r) ∧ Below w.heap.size w w' := by
 have hu31 := Try.underlying31
 have hu67 := Try.underlying67
 have HR0_1 := Aside0.mk hr0_1
 have HC0_1 := Aside0.mk hc0_1
 clear hr0_1 hc0_1
 have HB := Aside0.mk (Below.refl w.heap.size w)
 have H : ((spec_l02Vert.f a0_0 l0_1 a1).bind fun t123 => (if t123 = true then ((spec_l02Vert.f a0_0 l0_1 a2).bind fun t124 => (if t124 = true then (spec_Multiplicity.j0 k a1 a2 0 (a1 == a2) a0_0 l0_1) else (spec_Multiplicity.j0 k a1 a2 0 true a0_0 l0_1))) else (spec_Multiplicity.j0 k a1 a2 0 true a0_0 l0_1))) = some r := h
 clear h
 have HC4 := Aside0.mk H
 clear H
 go_enter Try.func115, Try.ntmps115
 go_upto_region 2 with (first | ((with_reducible refine gate_dst (N := 3) rfl ?_); (try (refine gate_guard (by rfl) ?_; dsimp only)); refine box_event ?hg (N := 3) ?hd (cs := #[.int .i64 a0_0, .slice A0_1 l0_1.length c0_1]) (t := 31) ?hr ?_; (case hd => rfl); (case hg => rfl); (case hr => first | (go_simp; done) | (go_simp; rfl)); intro gb122 hg w5 hbox hb; have BK122 := Aside0.mk (hbox); have GW122 := Aside0.mk ((by rw [hg]; exact (below_size (Lz HB)) : w.heap.size ≤ gb122)); have GE122 := Aside0.mk ((by rw [hg]; exact (below_size (Lz HB)) : w.heap.size ≤ gb122)); replace HB := Aside0.mk (below_step (Lz HB) hb); clear hb hbox hg))
 (try simp only [Act.put, List.setIfInBounds_toArray, List.set_cons_zero, List.set_cons_succ])
 go_cut [24] (fun v24 wc => ∃ (kq : Nat) (x24_3 : Bool), v24 = .bool x24_3 ∧ Aside0 (spec_Multiplicity.j0 kq a1 a2 0 x24_3 a0_0 l0_1 = some r) ∧ Aside0 (kq ≤ k) ∧ Aside0 (wc.heap[gb122]? = some (.cells #[.int .i64 a0_0, (.slice A0_1 l0_1.length c0_1)] 31 (0, 0))) ∧ Aside0 (Below w.heap.size w wc))
 case first =>
  have H := HC4.out
  clear HC4
  replace H := Option.bind_eq_some_iff.mp H
  obtain ⟨t123, A60, H⟩ := H
  replace H : (if t123 = true then ((spec_l02Vert.f a0_0 l0_1 a2).bind fun t124 => (if t124 = true then (spec_Multiplicity.j0 k a1 a2 0 (a1 == a2) a0_0 l0_1) else (spec_Multiplicity.j0 k a1 a2 0 true a0_0 l0_1))) else (spec_Multiplicity.j0 k a1 a2 0 true a0_0 l0_1)) = some r := H
  have A6 := Aside0.mk A60
  clear A60
  by_cases c7 : t123 = true
  ·subst c7
   have H1 : ((spec_l02Vert.f a0_0 l0_1 a2).bind fun t124 => (if t124 = true then (spec_Multiplicity.j0 k a1 a2 0 (a1 == a2) a0_0 l0_1) else (spec_Multiplicity.j0 k a1 a2 0 true a0_0 l0_1))) = some r := by rw [if_pos rfl] at H; exact H
   clear H
   have H := H1
   clear H1
   replace H := Option.bind_eq_some_iff.mp H
   obtain ⟨t124, A80, H⟩ := H
   replace H : (if t124 = true then (spec_Multiplicity.j0 k a1 a2 0 (a1 == a2) a0_0 l0_1) else (spec_Multiplicity.j0 k a1 a2 0 true a0_0 l0_1)) = some r := H
   have A8 := Aside0.mk A80
   clear A80
   by_cases c9 : t124 = true
   ·subst c9
    have H1 : (spec_Multiplicity.j0 k a1 a2 0 (a1 == a2) a0_0 l0_1) = some r := by rw [if_pos rfl] at H; exact H
    clear H
    have H := H1
    clear H1
    have H' := Aside0.mk H
    clear H
    have hcz10_0 : w5.cell? ⟨gb122, 0, none⟩ = some (.int .i64 a0_0) := (blk_cell BK122.out 0).trans rfl
    have hcz10_1 : w5.cell? ⟨gb122, 1, none⟩ = some (.slice A0_1 l0_1.length c0_1) := (blk_cell BK122.out 1).trans rfl
    have hfz10_0 := blk_frozen BK122.out 0
    have hfz10_1 := blk_frozen BK122.out 1
    go_wp2_with (first | ((with_reducible refine gate_callee (f := 131) rfl ?_); refine goesM_ (some 12) rfl rfl Try.func131 (by kernel_rfl) rfl #[.agg #[.int .i64 a0_0, .slice A0_1 l0_1.length c0_1], .int .i64 a1] rfl ?_; (with_reducible refine (spec_l02Vert.calls a0_0 _ _ l0_1 a1 true _ ?side1 ?side2 A6.out).mono ?_); (case side1 => exact Cz ((Kd.C_below HR0_1.out HB.out))); (case side2 => exact HC0_1.out); rintro e w11 ⟨rfl, hb⟩; refine ⟨_, rfl, ?_⟩; replace BK122 := Aside0.mk (blk_below (g := gb122) (o := .cells #[.int .i64 a0_0, .slice A0_1 l0_1.length c0_1] 31 (0, 0)) (Bz BK122) hb); replace HB := Aside0.mk (below_step (by exact Lz1 HB GE122) hb); (try clear hb); (try clear hb2); (try clear hk); (try clear hi); have hcz12_0 : w11.cell? ⟨gb122, 0, none⟩ = some (.int .i64 a0_0) := (blk_cell BK122.out 0).trans rfl; have hcz12_1 : w11.cell? ⟨gb122, 1, none⟩ = some (.slice A0_1 l0_1.length c0_1) := (blk_cell BK122.out 1).trans rfl; have hfz12_0 := blk_frozen BK122.out 0; have hfz12_1 := blk_frozen BK122.out 1) | (go_at_call 131; (with_reducible refine (spec_l02Vert.calls a0_0 _ _ l0_1 a2 true _ ?side1 ?side2 A8.out).mono ?_); (case side1 => exact Cz ((Kd.C_below HR0_1.out HB.out))); (case side2 => exact HC0_1.out); rintro e w13 ⟨rfl, hb⟩; replace BK122 := Aside0.mk (blk_below (g := gb122) (o := .cells #[.int .i64 a0_0, .slice A0_1 l0_1.length c0_1] 31 (0, 0)) (Bz BK122) hb); replace HB := Aside0.mk (below_step (by exact Lz1 HB GE122) hb); (try clear hb); (try clear hb2); (try clear hk); (try clear hi)))
    go_meet
    case rel => exact ⟨_, ((a1 == a2)), (by first | rfl | (simp; done) | (simp [*]; done)), H', ⟨by first | omega | exact Nat.le_refl _⟩, ⟨by exact Bz BK122⟩, ⟨by exact Lz1 HB GE122⟩⟩
   replace c9 := Bool.eq_false_iff.mpr c9
   subst c9
   have H1 : (spec_Multiplicity.j0 k a1 a2 0 true a0_0 l0_1) = some r := by rw [if_neg (show ¬ (false = true) by decide)] at H; exact H
   clear H
   have H := H1
   clear H1
   have H' := Aside0.mk H
   clear H
   have hcz14_0 : w5.cell? ⟨gb122, 0, none⟩ = some (.int .i64 a0_0) := (blk_cell BK122.out 0).trans rfl
   have hcz14_1 : w5.cell? ⟨gb122, 1, none⟩ = some (.slice A0_1 l0_1.length c0_1) := (blk_cell BK122.out 1).trans rfl
   have hfz14_0 := blk_frozen BK122.out 0
   have hfz14_1 := blk_frozen BK122.out 1
   go_wp2_with (first | ((with_reducible refine gate_callee (f := 131) rfl ?_); refine goesM_ (some 12) rfl rfl Try.func131 (by kernel_rfl) rfl #[.agg #[.int .i64 a0_0, .slice A0_1 l0_1.length c0_1], .int .i64 a1] rfl ?_; (with_reducible refine (spec_l02Vert.calls a0_0 _ _ l0_1 a1 true _ ?side1 ?side2 A6.out).mono ?_); (case side1 => exact Cz ((Kd.C_below HR0_1.out HB.out))); (case side2 => exact HC0_1.out); rintro e w15 ⟨rfl, hb⟩; refine ⟨_, rfl, ?_⟩; replace BK122 := Aside0.mk (blk_below (g := gb122) (o := .cells #[.int .i64 a0_0, .slice A0_1 l0_1.length c0_1] 31 (0, 0)) (Bz BK122) hb); replace HB := Aside0.mk (below_step (by exact Lz1 HB GE122) hb); (try clear hb); (try clear hb2); (try clear hk); (try clear hi); have hcz16_0 : w15.cell? ⟨gb122, 0, none⟩ = some (.int .i64 a0_0) := (blk_cell BK122.out 0).trans rfl; have hcz16_1 : w15.cell? ⟨gb122, 1, none⟩ = some (.slice A0_1 l0_1.length c0_1) := (blk_cell BK122.out 1).trans rfl; have hfz16_0 := blk_frozen BK122.out 0; have hfz16_1 := blk_frozen BK122.out 1) | (go_at_call 131; (with_reducible refine (spec_l02Vert.calls a0_0 _ _ l0_1 a2 false _ ?side1 ?side2 A8.out).mono ?_); (case side1 => exact Cz ((Kd.C_below HR0_1.out HB.out))); (case side2 => exact HC0_1.out); rintro e w17 ⟨rfl, hb⟩; replace BK122 := Aside0.mk (blk_below (g := gb122) (o := .cells #[.int .i64 a0_0, .slice A0_1 l0_1.length c0_1] 31 (0, 0)) (Bz BK122) hb); replace HB := Aside0.mk (below_step (by exact Lz1 HB GE122) hb); (try clear hb); (try clear hb2); (try clear hk); (try clear hi)))
   go_meet
   case rel => exact ⟨_, (true), (by first | rfl | (simp; done) | (simp [*]; done)), H', ⟨by first | omega | exact Nat.le_refl _⟩, ⟨by exact Bz BK122⟩, ⟨by exact Lz1 HB GE122⟩⟩
  replace c7 := Bool.eq_false_iff.mpr c7
  subst c7
  have H1 : (spec_Multiplicity.j0 k a1 a2 0 true a0_0 l0_1) = some r := by rw [if_neg (show ¬ (false = true) by decide)] at H; exact H
  clear H
  have H := H1
  clear H1
  have H' := Aside0.mk H
  clear H
  have hcz18_0 : w5.cell? ⟨gb122, 0, none⟩ = some (.int .i64 a0_0) := (blk_cell BK122.out 0).trans rfl
  have hcz18_1 : w5.cell? ⟨gb122, 1, none⟩ = some (.slice A0_1 l0_1.length c0_1) := (blk_cell BK122.out 1).trans rfl
  have hfz18_0 := blk_frozen BK122.out 0
  have hfz18_1 := blk_frozen BK122.out 1
  go_wp2_with (first | ((with_reducible refine gate_callee (f := 131) rfl ?_); refine goesM_ (some 12) rfl rfl Try.func131 (by kernel_rfl) rfl #[.agg #[.int .i64 a0_0, .slice A0_1 l0_1.length c0_1], .int .i64 a1] rfl ?_; (with_reducible refine (spec_l02Vert.calls a0_0 _ _ l0_1 a1 false _ ?side1 ?side2 A6.out).mono ?_); (case side1 => exact Cz ((Kd.C_below HR0_1.out HB.out))); (case side2 => exact HC0_1.out); rintro e w19 ⟨rfl, hb⟩; refine ⟨_, rfl, ?_⟩; replace BK122 := Aside0.mk (blk_below (g := gb122) (o := .cells #[.int .i64 a0_0, .slice A0_1 l0_1.length c0_1] 31 (0, 0)) (Bz BK122) hb); replace HB := Aside0.mk (below_step (by exact Lz1 HB GE122) hb); (try clear hb); (try clear hb2); (try clear hk); (try clear hi)))
  go_meet
  case rel => exact ⟨_, (true), (by first | rfl | (simp; done) | (simp [*]; done)), H', ⟨by first | omega | exact Nat.le_refl _⟩, ⟨by exact Bz BK122⟩, ⟨by exact Lz1 HB GE122⟩⟩
 case rest =>
  clear HC4
  try clear c7
  try clear c9
  obtain ⟨kq, x24_3, rfl, HA, HJ3, BK122, HB⟩ := hcut
  cases kq with
  | zero => exact absurd HA.out (by simp [spec_Multiplicity.j0])
  | succ kj3 =>
   have H := HA.out
   clear HA
   simp only [spec_Multiplicity.j0] at H
   by_cases c20 : x24_3 = true
   ·subst c20
    have H1 : (some 0) = some r := by rw [if_pos rfl] at H; exact H
    clear H
    have H := H1
    clear H1
    obtain rfl := Option.some.inj H
    go_wp2
    go_ret
    exact ⟨by first | rfl | (simp [errW_none, errW_some] <;> rfl) | (simp [*, errW_none, errW_some] <;> rfl), by exact Lz1 HB GE122⟩
   replace c20 := Bool.eq_false_iff.mpr c20
   subst c20
   have H1 : (spec_Multiplicity.l0 kj3 a1 a2 0 l0_1 (l0_1.length : Int) 0) = some r := by rw [if_neg (show ¬ (false = true) by decide)] at H; exact H
   clear H
   have H := H1
   clear H1
   have H' := Aside0.mk H
   clear H
   have hcz21_0 : wc.cell? ⟨gb122, 0, none⟩ = some (.int .i64 a0_0) := (blk_cell BK122.out 0).trans rfl
   have hcz21_1 : wc.cell? ⟨gb122, 1, none⟩ = some (.slice A0_1 l0_1.length c0_1) := (blk_cell BK122.out 1).trans rfl
   have hfz21_0 := blk_frozen BK122.out 0
   have hfz21_1 := blk_frozen BK122.out 1
   go_wp2
   go_loopg [7, 28] kj3 (fun kq v7 v28 w' => ∃ (x7_2 : Int) (x28_2 : Int), v7 = .int .i64 x7_2 ∧ v28 = .int .i64 x28_2 ∧ Aside0 (spec_Multiplicity.l0 kq a1 a2 x7_2 l0_1 (l0_1.length : Int) x28_2 = some r) ∧ Aside0 (kq ≤ kj3) ∧ Aside0 (w'.heap[gb122]? = some (.cells #[.int .i64 a0_0, (.slice A0_1 l0_1.length c0_1)] 31 (0, 0))) ∧ Aside0 (Below w.heap.size w w'))
   case atStart => exact ⟨(0), (0), (by first | rfl | (simp; done) | (simp [*]; done)), (by first | rfl | (simp; done) | (simp [*]; done)), H', ⟨Nat.le_refl _⟩, ⟨by exact Bz BK122⟩, ⟨by exact Lz1 HB GE122⟩⟩
   case round =>
    clear H'
    try clear c7
    try clear c9
    try clear c20
    obtain ⟨x7_2, x28_2, rfl, rfl, HA, HK2, BK122, HB⟩ := hrel
    cases gk with
    | zero => exact absurd HA.out (by simp [spec_Multiplicity.l0])
    | succ k2 =>
     have H := HA.out
     clear HA
     simp only [spec_Multiplicity.l0] at H
     by_cases c22 : x28_2 < (l0_1.length : Int)
     ·rw [if_pos c22] at H
      have c22b0 : decide (x28_2 < (l0_1.length : Int)) = true := decide_eq_true c22
      clear c22
      by_cases c23 : 0 ≤ x28_2
      ·rw [if_pos c23] at H
       have c23b0 : decide (0 ≤ x28_2) = true := decide_eq_true c23
       clear c23
       by_cases c24 : x28_2 < (l0_1.length : Int)
       ·rw [if_pos c24] at H
        have c24b0 : decide (x28_2 < (l0_1.length : Int)) = true := decide_eq_true c24
        clear c24
        obtain ⟨ji25, hji25⟩ : ∃ j_ : Int, (mn a1 a2) = j_ := ⟨_, rfl⟩
        replace H : (if ((rd_T67 l0_1 x28_2).f0) = (ji25) then (if ((rd_T67 l0_1 x28_2).f1) = (mx a1 a2) then (spec_Multiplicity.l0 k2 a1 a2 (wrap64 (x7_2 + 1)) l0_1 (l0_1.length : Int) (wrap64 (x28_2 + 1))) else (spec_Multiplicity.l0 k2 a1 a2 x7_2 l0_1 (l0_1.length : Int) (wrap64 (x28_2 + 1)))) else (spec_Multiplicity.l0 k2 a1 a2 x7_2 l0_1 (l0_1.length : Int) (wrap64 (x28_2 + 1)))) = some r := by first | (rw [hji25] at H; exact H) | (simp only [hji25] at H ⊢; exact H)
        have hji25_ : (if a2 < a1 then a2 else a1) = ji25 := hji25
        by_cases c26 : ((rd_T67 l0_1 x28_2).f0) = (ji25)
        ·rw [if_pos c26] at H
         have c26b0 : (((rd_T67 l0_1 x28_2).f0) == (ji25)) = true := beq_iff_eq.mpr c26
         have c26b1 : (((rd_T67 l0_1 x28_2).f0) != (ji25)) = false := bne_eq_false_iff_eq.mpr c26
         clear c26
         obtain ⟨ji27, hji27⟩ : ∃ j_ : Int, (mx a1 a2) = j_ := ⟨_, rfl⟩
         replace H : (if ((rd_T67 l0_1 x28_2).f1) = (ji27) then (spec_Multiplicity.l0 k2 a1 a2 (wrap64 (x7_2 + 1)) l0_1 (l0_1.length : Int) (wrap64 (x28_2 + 1))) else (spec_Multiplicity.l0 k2 a1 a2 x7_2 l0_1 (l0_1.length : Int) (wrap64 (x28_2 + 1)))) = some r := by first | (rw [hji27] at H; exact H) | (simp only [hji27] at H ⊢; exact H)
         have hji27_ : (if a1 < a2 then a2 else a1) = ji27 := hji27
         by_cases c28 : ((rd_T67 l0_1 x28_2).f1) = (ji27)
         ·rw [if_pos c28] at H
          have c28b0 : (((rd_T67 l0_1 x28_2).f1) == (ji27)) = true := beq_iff_eq.mpr c28
          have c28b1 : (((rd_T67 l0_1 x28_2).f1) != (ji27)) = false := bne_eq_false_iff_eq.mpr c28
          clear c28
          have H' := Aside0.mk H
          clear H
          have p125 : 0 ≤ (x28_2 : Int) := of_decide_eq_true (by first | (with_reducible assumption) | assumption)
          have q125 : x28_2 < (l0_1.length : Int) := of_decide_eq_true (by first | (with_reducible assumption) | assumption)
          obtain ⟨ad125, e125, hx125_0, hx125_1⟩ := at_T67 HR0_1.out x28_2 p125 q125
          cases e125
          replace hx125_0 := (HB.out.cell (World.block_lt_of_cell? w _ hx125_0)).trans hx125_0
          replace hx125_1 := (HB.out.cell (World.block_lt_of_cell? w _ hx125_1)).trans hx125_1
          replace p125 := eq_true p125
          replace q125 := eq_true q125
          go_wp2_with (first | ((with_reducible refine gate_dst (N := 9) rfl ?_); (try (refine gate_guard (by rfl) ?_; dsimp only)); refine box_event ?hg (N := 9) ?hd (cs := #[.int .i64 0, .int .i64 0]) (t := 67) ?hr ?_; (case hd => rfl); (case hg => rfl); (case hr => first | (go_simp; done) | (go_simp; rfl)); intro gb126 hg w29 hbox hb; have BK126 := Aside0.mk (hbox); have GW126 := Aside0.mk ((by rw [hg]; exact (below_size (by exact Lz1 HB GE122)) : w.heap.size ≤ gb126)); have GE126 := Aside0.mk ((by rw [hg]; exact (below_size (by exact Lz1 HB GE122)) : w.heap.size ≤ gb126)); replace HB := Aside0.mk (below_step (by exact Lz1 HB GE122) hb); have NB122_126 := Aside0.mk ((by rw [hg]; exact Nat.ne_of_lt (blk_lt (g := gb122) (o := .cells #[.int .i64 a0_0, .slice (some ad125) l0_1.length c0_1] 31 (0, 0)) (Bz BK122)) : gb122 ≠ gb126)); have NB126_122 := Aside0.mk ((by rw [hg]; exact Nat.ne_of_gt (blk_lt (g := gb122) (o := .cells #[.int .i64 a0_0, .slice (some ad125) l0_1.length c0_1] 31 (0, 0)) (Bz BK122)) : gb126 ≠ gb122)); replace BK122 := Aside0.mk (blk_below (g := gb122) (o := .cells #[.int .i64 a0_0, .slice (some ad125) l0_1.length c0_1] 31 (0, 0)) (Bz BK122) hb); clear hb hbox hg; have hnb30 := NB126_122.out; have hnc30 := NB122_126.out; have hcz31_0 : w29.cell? ⟨gb126, 0, none⟩ = some (.int .i64 0) := (blk_cell BK126.out 0).trans rfl; have hcz31_1 : w29.cell? ⟨gb126, 1, none⟩ = some (.int .i64 0) := (blk_cell BK126.out 1).trans rfl; have hfz31_0 := blk_frozen BK126.out 0; have hfz31_1 := blk_frozen BK126.out 1))
          go_roundg k2
          case measure => have := HJ3.out; have := HK2.out; omega
          case rel => exact ⟨(wrap64 (x7_2 + 1)), (wrap64 (x28_2 + 1)), (by first | rfl | (simp; done) | (simp [*]; done)), (by first | rfl | (simp; done) | (simp [*]; done)), H', ⟨by have := HJ3.out; have := HK2.out; omega⟩, ⟨by (with_reducible repeat (first | refine blk_drewN ?_ _ | refine blk_drew ?_ | refine blk_alloc ?_ _)); refine blk_far ?_ NB122_126.out _; (with_reducible repeat (first | refine blk_drewN ?_ _ | refine blk_drew ?_ | refine blk_alloc ?_ _)); refine blk_far ?_ NB122_126.out _; exact Bz BK122⟩, ⟨by exact Lz2 HB GE122 GE126⟩⟩
         rw [if_neg c28] at H
         have c28b0 : (((rd_T67 l0_1 x28_2).f1) == (ji27)) = false := beq_eq_false_iff_ne.mpr c28
         have c28b1 : (((rd_T67 l0_1 x28_2).f1) != (ji27)) = true := bne_iff_ne.mpr c28
         have H' := Aside0.mk H
         clear H
         have p125 : 0 ≤ (x28_2 : Int) := of_decide_eq_true (by first | (with_reducible assumption) | assumption)
         have q125 : x28_2 < (l0_1.length : Int) := of_decide_eq_true (by first | (with_reducible assumption) | assumption)
         obtain ⟨ad125, e125, hx125_0, hx125_1⟩ := at_T67 HR0_1.out x28_2 p125 q125
         cases e125
         replace hx125_0 := (HB.out.cell (World.block_lt_of_cell? w _ hx125_0)).trans hx125_0
         replace hx125_1 := (HB.out.cell (World.block_lt_of_cell? w _ hx125_1)).trans hx125_1
         replace p125 := eq_true p125
         replace q125 := eq_true q125
         go_wp2_with (first | ((with_reducible refine gate_dst (N := 9) rfl ?_); (try (refine gate_guard (by rfl) ?_; dsimp only)); refine box_event ?hg (N := 9) ?hd (cs := #[.int .i64 0, .int .i64 0]) (t := 67) ?hr ?_; (case hd => rfl); (case hg => rfl); (case hr => first | (go_simp; done) | (go_simp; rfl)); intro gb126 hg w32 hbox hb; have BK126 := Aside0.mk (hbox); have GW126 := Aside0.mk ((by rw [hg]; exact (below_size (by exact Lz1 HB GE122)) : w.heap.size ≤ gb126)); have GE126 := Aside0.mk ((by rw [hg]; exact (below_size (by exact Lz1 HB GE122)) : w.heap.size ≤ gb126)); replace HB := Aside0.mk (below_step (by exact Lz1 HB GE122) hb); have NB122_126 := Aside0.mk ((by rw [hg]; exact Nat.ne_of_lt (blk_lt (g := gb122) (o := .cells #[.int .i64 a0_0, .slice (some ad125) l0_1.length c0_1] 31 (0, 0)) (Bz BK122)) : gb122 ≠ gb126)); have NB126_122 := Aside0.mk ((by rw [hg]; exact Nat.ne_of_gt (blk_lt (g := gb122) (o := .cells #[.int .i64 a0_0, .slice (some ad125) l0_1.length c0_1] 31 (0, 0)) (Bz BK122)) : gb126 ≠ gb122)); replace BK122 := Aside0.mk (blk_below (g := gb122) (o := .cells #[.int .i64 a0_0, .slice (some ad125) l0_1.length c0_1] 31 (0, 0)) (Bz BK122) hb); clear hb hbox hg; have hnb33 := NB126_122.out; have hnc33 := NB122_126.out; have hcz34_0 : w32.cell? ⟨gb126, 0, none⟩ = some (.int .i64 0) := (blk_cell BK126.out 0).trans rfl; have hcz34_1 : w32.cell? ⟨gb126, 1, none⟩ = some (.int .i64 0) := (blk_cell BK126.out 1).trans rfl; have hfz34_0 := blk_frozen BK126.out 0; have hfz34_1 := blk_frozen BK126.out 1))
         go_roundg k2
         case measure => have := HJ3.out; have := HK2.out; omega
         case rel => exact ⟨(x7_2), (wrap64 (x28_2 + 1)), (by first | rfl | (simp; done) | (simp [*]; done)), (by first | rfl | (simp; done) | (simp [*]; done)), H', ⟨by have := HJ3.out; have := HK2.out; omega⟩, ⟨by (with_reducible repeat (first | refine blk_drewN ?_ _ | refine blk_drew ?_ | refine blk_alloc ?_ _)); refine blk_far ?_ NB122_126.out _; (with_reducible repeat (first | refine blk_drewN ?_ _ | refine blk_drew ?_ | refine blk_alloc ?_ _)); refine blk_far ?_ NB122_126.out _; exact Bz BK122⟩, ⟨by exact Lz2 HB GE122 GE126⟩⟩
        rw [if_neg c26] at H
        have c26b0 : (((rd_T67 l0_1 x28_2).f0) == (ji25)) = false := beq_eq_false_iff_ne.mpr c26
        have c26b1 : (((rd_T67 l0_1 x28_2).f0) != (ji25)) = true := bne_iff_ne.mpr c26
        have H' := Aside0.mk H
        clear H
        have p125 : 0 ≤ (x28_2 : Int) := of_decide_eq_true (by first | (with_reducible assumption) | assumption)
        have q125 : x28_2 < (l0_1.length : Int) := of_decide_eq_true (by first | (with_reducible assumption) | assumption)
        obtain ⟨ad125, e125, hx125_0, hx125_1⟩ := at_T67 HR0_1.out x28_2 p125 q125
        cases e125
        replace hx125_0 := (HB.out.cell (World.block_lt_of_cell? w _ hx125_0)).trans hx125_0
        replace hx125_1 := (HB.out.cell (World.block_lt_of_cell? w _ hx125_1)).trans hx125_1
        replace p125 := eq_true p125
        replace q125 := eq_true q125
        go_wp2_with (first | ((with_reducible refine gate_dst (N := 9) rfl ?_); (try (refine gate_guard (by rfl) ?_; dsimp only)); refine box_event ?hg (N := 9) ?hd (cs := #[.int .i64 0, .int .i64 0]) (t := 67) ?hr ?_; (case hd => rfl); (case hg => rfl); (case hr => first | (go_simp; done) | (go_simp; rfl)); intro gb126 hg w35 hbox hb; have BK126 := Aside0.mk (hbox); have GW126 := Aside0.mk ((by rw [hg]; exact (below_size (by exact Lz1 HB GE122)) : w.heap.size ≤ gb126)); have GE126 := Aside0.mk ((by rw [hg]; exact (below_size (by exact Lz1 HB GE122)) : w.heap.size ≤ gb126)); replace HB := Aside0.mk (below_step (by exact Lz1 HB GE122) hb); have NB122_126 := Aside0.mk ((by rw [hg]; exact Nat.ne_of_lt (blk_lt (g := gb122) (o := .cells #[.int .i64 a0_0, .slice (some ad125) l0_1.length c0_1] 31 (0, 0)) (Bz BK122)) : gb122 ≠ gb126)); have NB126_122 := Aside0.mk ((by rw [hg]; exact Nat.ne_of_gt (blk_lt (g := gb122) (o := .cells #[.int .i64 a0_0, .slice (some ad125) l0_1.length c0_1] 31 (0, 0)) (Bz BK122)) : gb126 ≠ gb122)); replace BK122 := Aside0.mk (blk_below (g := gb122) (o := .cells #[.int .i64 a0_0, .slice (some ad125) l0_1.length c0_1] 31 (0, 0)) (Bz BK122) hb); clear hb hbox hg; have hnb36 := NB126_122.out; have hnc36 := NB122_126.out; have hcz37_0 : w35.cell? ⟨gb126, 0, none⟩ = some (.int .i64 0) := (blk_cell BK126.out 0).trans rfl; have hcz37_1 : w35.cell? ⟨gb126, 1, none⟩ = some (.int .i64 0) := (blk_cell BK126.out 1).trans rfl; have hfz37_0 := blk_frozen BK126.out 0; have hfz37_1 := blk_frozen BK126.out 1))
        go_roundg k2
        case measure => have := HJ3.out; have := HK2.out; omega
        case rel => exact ⟨(x7_2), (wrap64 (x28_2 + 1)), (by first | rfl | (simp; done) | (simp [*]; done)), (by first | rfl | (simp; done) | (simp [*]; done)), H', ⟨by have := HJ3.out; have := HK2.out; omega⟩, ⟨by (with_reducible repeat (first | refine blk_drewN ?_ _ | refine blk_drew ?_ | refine blk_alloc ?_ _)); refine blk_far ?_ NB122_126.out _; (with_reducible repeat (first | refine blk_drewN ?_ _ | refine blk_drew ?_ | refine blk_alloc ?_ _)); refine blk_far ?_ NB122_126.out _; exact Bz BK122⟩, ⟨by exact Lz2 HB GE122 GE126⟩⟩
       rw [if_neg c24] at H
       exact absurd H (by simp)
      rw [if_neg c23] at H
      exact absurd H (by simp)
     rw [if_neg c22] at H
     have c22b0 : decide (x28_2 < (l0_1.length : Int)) = false := decide_eq_false c22
     clear c22
     obtain rfl := Option.some.inj H
     go_wp2
     go_ret
     exact ⟨by first | rfl | (simp [errW_none, errW_some] <;> rfl) | (simp [*, errW_none, errW_some] <;> rfl), by exact Lz1 HB GE122⟩
end Go.Proofs.Ytbcfccdoffbncaa.P
end
section
namespace Go.Proofs.Ytbcfccdoffbncaa.P
open Go.RowKit Go.Proofs.YtbcfccdoffbncaaW.PrintWords Go.Proofs.YtbcfccdoffbncaaW.PrintLast Go.Proofs.YtbcfccdoffbncaaW.PrintMore
attribute [local go_sem] max2_int min2_int max_two min_two max_three min_three max_four min_four
set_option linter.unusedVariables false
set_option linter.unusedSimpArgs false
mutual
def spec_l05Burn.l0 : Nat → List Int → List Int → List Bool → Int → List (S67) → Option (List Int)
 | 0, _, _, _, _, _ => none
 | k + 1, x1, x7, x8, x128000, x128001 => spec_l05Burn.l1 k x1 x7 x8 (-1) (wrap64 (x128000 - 1)) x128000 x128001
def spec_l05Burn.l1 : Nat → List Int → List Int → List Bool → Int → Int → Int → List (S67) → Option (List Int)
 | 0, _, _, _, _, _, _, _ => none
 | k + 1, x1, x7, x8, x9, x10, x128000, x128001 => if x10 ≥ 0 then (spec_l05Burn.l2 k x1 x7 x8 x9 x10 0 0 x128000 x128001) else (if x9 < 0 then (some x7) else (if 0 ≤ x9 then (if x9 < (x8.length : Int) then (if x7.length < 17592186044416 then (spec_l05Burn.l0 k x1 (x7 ++ [x9]) (x8.set (x9 : Int).toNat true) x128000 x128001) else (none)) else (none)) else (none)))
def spec_l05Burn.l2 : Nat → List Int → List Int → List Bool → Int → Int → Int → Int → Int → List (S67) → Option (List Int)
 | 0, _, _, _, _, _, _, _, _, _ => none
 | k + 1, x1, x7, x8, x9, x10, x11, x12, x128000, x128001 => if x12 < x128000 then (if 0 ≤ x12 then (if x12 < (x8.length : Int) then (if rdOf false x8 x12 = true then ((spec_Multiplicity.f k x128000 x128001 x10 x12).bind fun t136 => (spec_l05Burn.l2 k x1 x7 x8 x9 x10 (wrap64 (x11 + t136)) (wrap64 (x12 + 1)) x128000 x128001)) else (spec_l05Burn.l2 k x1 x7 x8 x9 x10 x11 (wrap64 (x12 + 1)) x128000 x128001)) else (none)) else (none)) else (if 0 ≤ x10 then (if x10 < (x8.length : Int) then (if rdOf false x8 x10 = true then (spec_l05Burn.l1 k x1 x7 x8 x9 (wrap64 (x10 - 1)) x128000 x128001) else (if x10 < (x1.length : Int) then (if (rd x1 x10) < x11 then (spec_l05Burn.l1 k x1 x7 x8 x10 (wrap64 (x10 - 1)) x128000 x128001) else (spec_l05Burn.l1 k x1 x7 x8 x9 (wrap64 (x10 - 1)) x128000 x128001)) else (none))) else (none)) else (none))
end
def spec_l05Burn.f (k : Nat) (a0_0 : Int) (l0_1 : List (S67)) (l1 : List Int) (a2 : Int) : Option (List Int) := if 0 ≤ a0_0 then (if (a0_0 : Int).toNat ≤ 281474976710656 then ((some (List.replicate (a0_0 : Int).toNat false : List Bool)).bind fun y131 => (if 0 ≤ a2 then (if a2 < (y131.length : Int) then (spec_l05Burn.l0 k l1 (([a2] : List Int)) (y131.set (a2 : Int).toNat true) a0_0 l0_1) else (none)) else (none))) else (none)) else (none)
set_option maxHeartbeats 8000000 in
set_option maxRecDepth 100000 in
theorem spec_l05Burn.calls (k : Nat) (a0_0 : Int) (A0_1 : Option Addr) (c0_1 : Nat) (l0_1 : List (S67)) (A1 : Option Addr) (c1 : Nat) (l1 : List Int) (a2 : Int) (r : List Int) (w : World) (hr0_1 : Kd.C k67 w A0_1 l0_1.length l0_1) (hc0_1 : l0_1.length ≤ c0_1) (hr1 : Kd.C (Kd.int .i64) w A1 l1.length l1) (hc1 : l1.length ≤ c1) (h : spec_l05Burn.f k a0_0 l0_1 l1 a2 = some r) :
  Calls Try.prog 97 #[.agg #[.int .i64 a0_0, .slice A0_1 l0_1.length c0_1], .slice A1 l1.length c1, .int .i64 a2] w fun e w' => ∃ v0_ : Value, e = .returned (v0_) ∧ Kd.R (Kd.int .i64) 3 w' w.heap.size (fun _ => True) v0_ r ∧ Below w.heap.size w w' := by
 have hu31 := Try.underlying31
 have HR0_1 := Aside0.mk hr0_1
 have HC0_1 := Aside0.mk hc0_1
 clear hr0_1 hc0_1
 have HR1 := Aside0.mk hr1
 have HC1 := Aside0.mk hc1
 clear hr1 hc1
 have HB := Aside0.mk (Below.refl w.heap.size w)
 have H : (if 0 ≤ a0_0 then (if (a0_0 : Int).toNat ≤ 281474976710656 then ((some (List.replicate (a0_0 : Int).toNat false : List Bool)).bind fun y131 => (if 0 ≤ a2 then (if a2 < (y131.length : Int) then (spec_l05Burn.l0 k l1 (([a2] : List Int)) (y131.set (a2 : Int).toNat true) a0_0 l0_1) else (none)) else (none))) else (none)) else (none)) = some r := h
 clear h
 obtain ⟨y128, hy128⟩ : ∃ y_ : List Int, y_ = (([a2] : List Int)) := ⟨_, rfl⟩
 replace H : (if 0 ≤ a0_0 then (if (a0_0 : Int).toNat ≤ 281474976710656 then ((some (List.replicate (a0_0 : Int).toNat false : List Bool)).bind fun y131 => (if 0 ≤ a2 then (if a2 < (y131.length : Int) then (spec_l05Burn.l0 k l1 y128 (y131.set (a2 : Int).toNat true) a0_0 l0_1) else (none)) else (none))) else (none)) else (none)) = some r := by first | (rw [hy128]; with_reducible exact H) | (have H2_ := (Option.bind_some _ _).symm.trans H; rw [hy128]; with_reducible exact H2_) | (have H2_ := (Option.bind_some _ _).symm.trans H; with_reducible exact H2_) | with_reducible exact H | (rw [hy128]; exact H) | exact H
 have Ny128 := Aside0.mk hy128
 clear hy128
 by_cases c4 : 0 ≤ a0_0
 ·rw [if_pos c4] at H
  have c4b0 := eq_true c4
  have c4b1 : decide (0 ≤ a0_0) = true := decide_eq_true c4
  clear c4
  by_cases c5 : (a0_0 : Int).toNat ≤ 281474976710656
  ·rw [if_pos c5] at H
   have c5b0 := eq_true c5
   have c5b1 : decide ((a0_0 : Int).toNat ≤ 281474976710656) = true := decide_eq_true c5
   clear c5
   obtain ⟨y131, hy131⟩ : ∃ y_ : List Bool, y_ = (List.replicate (a0_0 : Int).toNat false) := ⟨_, rfl⟩
   replace H : (if 0 ≤ a2 then (if a2 < (y131.length : Int) then (spec_l05Burn.l0 k l1 y128 (y131.set (a2 : Int).toNat true) a0_0 l0_1) else (none)) else (none)) = some r := by first | (rw [hy131]; with_reducible exact H) | (have H2_ := (Option.bind_some _ _).symm.trans H; rw [hy131]; with_reducible exact H2_) | (have H2_ := (Option.bind_some _ _).symm.trans H; with_reducible exact H2_) | with_reducible exact H | (rw [hy131]; exact H) | exact H
   have Ny131 := Aside0.mk hy131
   clear hy131
   by_cases c6 : 0 ≤ a2
   ·rw [if_pos c6] at H
    have c6b0 : decide (0 ≤ a2) = true := decide_eq_true c6
    clear c6
    by_cases c7 : a2 < (y131.length : Int)
    ·rw [if_pos c7] at H
     have c7b0 : decide (a2 < (y131.length : Int)) = true := decide_eq_true c7
     (try simp only [hl8_1] at c7b0)
     clear c7
     obtain ⟨y134, hy134⟩ : ∃ y_ : List Bool, y_ = (y131.set (a2 : Int).toNat true) := ⟨_, rfl⟩
     replace H : (spec_l05Burn.l0 k l1 y128 y134 a0_0 l0_1) = some r := by first | (rw [hy134]; with_reducible exact H) | (have H2_ := (Option.bind_some _ _).symm.trans H; rw [hy134]; with_reducible exact H2_) | (have H2_ := (Option.bind_some _ _).symm.trans H; with_reducible exact H2_) | with_reducible exact H | (rw [hy134]; exact H) | exact H
     have Ny134 := Aside0.mk hy134
     clear hy134
     have H' := Aside0.mk H
     clear H
     go_enter Try.func97, Try.ntmps97
     go_wp2_with (first | ((with_reducible refine gate_dst (N := 3) rfl ?_); refine box_event ?hg (N := 3) ?hd (cs := #[.int .i64 a0_0, .slice A0_1 l0_1.length c0_1]) (t := 31) ?hr ?_; (case hd => rfl); (case hg => rfl); (case hr => first | (go_simp; done) | (go_simp; rfl)); intro gb127 hg w9 hbox hb; have BK127 := Aside0.mk (hbox); have GW127 := Aside0.mk ((by rw [hg]; exact (below_size (Lz HB)) : w.heap.size ≤ gb127)); have GE127 := Aside0.mk ((by rw [hg]; exact (below_size (Lz HB)) : w.heap.size ≤ gb127)); replace HB := Aside0.mk (below_step (Lz HB) hb); clear hb hbox hg) | ((with_reducible refine gate_dst (N := 14) rfl ?_); refine Kd.R_lit (Kd.int .i64) _ 3 ?hg (N := 14) ?hd (xs := ([a2] : List Int)) (inner := [.int .i64 a2]) (ok := fun _ => True) (okp := fun _ => True) ?hr ?hp (fun _ hk => hk) trivial (Below.refl _ _) (Nat.le_refl _) (by simp) ?_; (case hd => rfl); (case hg => rfl); (case hr => first | (go_simp; done) | (go_simp; rfl)); (case hp => exact (Reps.one (show Kd.M (Kd.int .i64) _ _ _ a2 [.int .i64 a2] from rfl) (Reps.none _ _))); intro v129 w10 ho11 hb hg_ hnew_; clear hg_ hnew_; (first | rw [← Ny128.out] at ho11 | (simp only [Int.reduceToNat] at ho11; rw [← Ny128.out] at ho11)); have HO130 := Aside0.mk (Kd.R_lower ho11 (below_size (by exact Lz1 HB GE127))); replace BK127 := Aside0.mk (blk_below (g := gb127) (o := .cells #[.int .i64 a0_0, .slice A0_1 l0_1.length c0_1] 31 (0, 0)) (Bz BK127) hb); replace HB := Aside0.mk (below_step (by exact Lz1 HB GE127) hb); clear hb ho11; have hcz12_0 : w10.cell? ⟨gb127, 0, none⟩ = some (.int .i64 a0_0) := (blk_cell BK127.out 0).trans rfl; have hcz12_1 : w10.cell? ⟨gb127, 1, none⟩ = some (.slice A0_1 l0_1.length c0_1) := (blk_cell BK127.out 1).trans rfl; have hfz12_0 := blk_frozen BK127.out 0; have hfz12_1 := blk_frozen BK127.out 1) | ((with_reducible refine gate_dst (N := 17) rfl ?_); refine Kd.R_make Kd.bool _ 4 rfl (N := 17) rfl 107 _ _ rfl a0_0 rfl rfl Try.underlying107 (.bool false) 1 info4 rfl (by decide) (by omega) false (ok := fun _ => True) (okp := fun _ => True) rfl (fun _ hk => hk) trivial (of_decide_eq_true (by first | (with_reducible assumption) | assumption)) (Nat.le_trans (Nat.mul_le_mul_right _ (of_decide_eq_true (by first | (with_reducible assumption) | assumption) : a0_0.toNat ≤ 281474976710656)) (by omega)) (Below.refl _ _) (Nat.le_refl _) ?_; intro v132 w13 ho14 hb hg_ hnew_; clear hg_ hnew_; (first | rw [← Ny131.out] at ho14 | (simp only [Int.reduceToNat] at ho14; rw [← Ny131.out] at ho14)); replace HO130 := Aside0.mk (Kd.R_below (Rz HO130) hb); have HO133 := Aside0.mk (Kd.R_lower ho14 (below_size (by exact Lz1 HB GE127))); replace BK127 := Aside0.mk (blk_below (g := gb127) (o := .cells #[.int .i64 a0_0, .slice A0_1 l0_1.length c0_1] 31 (0, 0)) (Bz BK127) hb); replace HB := Aside0.mk (below_step (by exact Lz1 HB GE127) hb); clear hb ho14; have p8 : 0 ≤ (a2 : Int) := of_decide_eq_true (by first | (with_reducible assumption) | assumption); have q8 : (a2 : Int) < ((y131.length : Int) : Int) := of_decide_eq_true (by first | (with_reducible assumption) | assumption); obtain ⟨go8, co8, eo8, gb8, gl8, cl8, HG8⟩ := Kd.R_form HO133.out (by omega); (first | cases eo8 | (injection eo8 with ea_ en_ ec_; (first | subst ea_ | (injection ea_ with ea_; subst ea_)); subst ec_; clear en_)); have GB8 := Aside0.mk gb8; have GG8 := Aside0.mk HG8; clear gb8 gl8 HG8; obtain ⟨hx8_0, hf8_0⟩ := Kd.R_celln false HO133.out (a2 : Int) p8 q8; replace p8 := eq_true p8; replace q8 := eq_true q8; obtain ⟨hy15_, hz15_⟩ := Kd.R_celln false HO133.out (a2 : Int) (of_decide_eq_true (by first | (with_reducible assumption) | assumption)) (of_decide_eq_true (by first | (with_reducible assumption) | assumption)); have HP15 := Kd.R_putg HO133.out (a2 : Int) true) | ((with_reducible refine gate_store (t := 4) (p := 20) rfl ?_); refine store_event (t := 4) (p := 20) (v := ?vo_w16) (w1 := (w13.setCell ⟨go8, (a2 : Int).toNat, none⟩ (.bool true))) ?hg ?ho ?hn ?hr ?_; (case ho => rfl); (case hg => rfl); (case hn => rfl); (case hr => first | (go_simp; done) | (go_simp; rfl)); intro w16 hw; have hg : w13.grownBy w16 (some go8) := (by rw [hw]; exact HP15.2); have hp_ : Kd.R Kd.bool 4 w16 w.heap.size (fun _ => True) (.slice (some ⟨go8, 0, none⟩) y131.length co8) y134 := (by rw [hw, Ny134.out]; exact HP15.1); clear HP15; replace BK127 := Aside0.mk (blk_grown (g := gb127) (o := .cells #[.int .i64 a0_0, .slice A0_1 l0_1.length c0_1] 31 (0, 0)) (Bz BK127) hg (Kd.R_ne HO133.out BK127.out (by decide))); replace HO130 := Aside0.mk (Kd.R_over' (v := (.slice (some ⟨go8, 0, none⟩) y131.length co8)) (Rz HO130) (Kd.R_typed HO133.out) (by decide) hg); replace HO133 := Aside0.mk (hp_); replace HB := Aside0.mk ((by rw [hw]; exact below_set (HB.out) GB8.out : Below w.heap.size w w16)); clear hg hw hp_))
     go_loopg [7] k (fun kq v7 w' => ∃ (x7_1 : List Int) (x8_1 : List Bool), Aside0 (spec_l05Burn.l0 kq l1 x7_1 x8_1 a0_0 l0_1 = some r) ∧ Aside0 (kq ≤ k) ∧ Aside0 (Kd.R (Kd.int .i64) 3 w' w.heap.size (fun _ => True) v7 x7_1) ∧ Aside0 (Kd.R Kd.bool 4 w' w.heap.size (fun _ => True) (.slice (some ⟨go8, 0, none⟩) y131.length co8) x8_1) ∧ Aside0 (w'.heap[gb127]? = some (.cells #[.int .i64 a0_0, (.slice A0_1 l0_1.length c0_1)] 31 (0, 0))) ∧ Aside0 (Below w.heap.size w w'))
     case atStart => exact ⟨(y128), (y134), H', ⟨Nat.le_refl _⟩, ⟨by exact Rz HO130⟩, ⟨by exact Rz HO133⟩, ⟨by exact Bz BK127⟩, ⟨by exact Lz1 HB GE127⟩⟩
     case round =>
      clear H'
      try clear c1
      try clear c4
      try clear c4b0
      try clear c4b1
      try clear c5
      try clear c5b0
      try clear c5b1
      try clear c6
      try clear c6b0
      try clear c7
      try clear c7b0
      try clear p8
      try clear q8
      try clear p8
      try clear q8
      obtain ⟨x7_1, x8_1, HA, HK1, HO_7, HO_8, BK127, HB⟩ := hrel
      have hl8_1 := (Kd.R_reads' HO_8.out).1
      rw [hl8_1] at HO_8
      (try simp only [hl8_1])
      (try simp only [hl8_1] at BK127)
      (try simp only [hl8_1] at HO_7)
      cases gk with
      | zero => exact absurd HA.out (by simp [spec_l05Burn.l0])
      | succ k1 =>
       have H := HA.out
       clear HA
       simp only [spec_l05Burn.l0] at H
       have H' := Aside0.mk H
       clear H
       have hcz17_0 : wr.cell? ⟨gb127, 0, none⟩ = some (.int .i64 a0_0) := (blk_cell BK127.out 0).trans rfl
       have hcz17_1 : wr.cell? ⟨gb127, 1, none⟩ = some (.slice A0_1 l0_1.length c0_1) := (blk_cell BK127.out 1).trans rfl
       have hfz17_0 := blk_frozen BK127.out 0
       have hfz17_1 := blk_frozen BK127.out 1
       go_wp2
       go_loopg [9, 10] k1 (fun kq v9 v10 w' => ∃ (x9_2 : Int) (x10_2 : Int), v9 = .int .i64 x9_2 ∧ v10 = .int .i64 x10_2 ∧ Aside0 (spec_l05Burn.l1 kq l1 x7_1 x8_1 x9_2 x10_2 a0_0 l0_1 = some r) ∧ Aside0 (kq ≤ k1) ∧ Aside0 (Kd.R (Kd.int .i64) 3 w' w.heap.size (fun _ => True) u7 x7_1) ∧ Aside0 (Kd.R Kd.bool 4 w' w.heap.size (fun _ => True) (.slice (some ⟨go8, 0, none⟩) x8_1.length co8) x8_1) ∧ Aside0 (w'.heap[gb127]? = some (.cells #[.int .i64 a0_0, (.slice A0_1 l0_1.length c0_1)] 31 (0, 0))) ∧ Aside0 (Below w.heap.size w w'))
       case atStart => exact ⟨((-1)), (wrap64 (a0_0 - 1)), (by first | rfl | (simp; done) | (simp [*]; done)), (by first | rfl | (simp; done) | (simp [*]; done)), H', ⟨Nat.le_refl _⟩, ⟨by (try simp only [hl8_1]); exact Rz HO_7⟩, ⟨by (try simp only [hl8_1]); exact Rz HO_8⟩, ⟨by (try simp only [hl8_1]); exact Bz BK127⟩, ⟨by exact Lz1 HB GE127⟩⟩
       case round =>
        clear H'
        try clear c1
        try clear c4
        try clear c4b0
        try clear c4b1
        try clear c5
        try clear c5b0
        try clear c5b1
        try clear c6
        try clear c6b0
        try clear c7
        try clear c7b0
        try clear p8
        try clear q8
        try clear p8
        try clear q8
        obtain ⟨x9_2, x10_2, rfl, rfl, HA, HK2, HO_7, HO_8, BK127, HB⟩ := hrel
        cases gk with
        | zero => exact absurd HA.out (by simp [spec_l05Burn.l1])
        | succ k2 =>
         have H := HA.out
         clear HA
         simp only [spec_l05Burn.l1] at H
         by_cases c18 : x10_2 ≥ 0
         ·rw [if_pos c18] at H
          have c18b0 : decide (0 ≤ x10_2) = true := decide_eq_true c18
          clear c18
          have H' := Aside0.mk H
          clear H
          go_wp2
          go_loopg [11, 12] k2 (fun kq v11 v12 w' => ∃ (x11_3 : Int) (x12_3 : Int), v11 = .int .i64 x11_3 ∧ v12 = .int .i64 x12_3 ∧ Aside0 (spec_l05Burn.l2 kq l1 x7_1 x8_1 x9_2 x10_2 x11_3 x12_3 a0_0 l0_1 = some r) ∧ Aside0 (kq ≤ k2) ∧ Aside0 (Kd.R (Kd.int .i64) 3 w' w.heap.size (fun _ => True) u7 x7_1) ∧ Aside0 (Kd.R Kd.bool 4 w' w.heap.size (fun _ => True) (.slice (some ⟨go8, 0, none⟩) x8_1.length co8) x8_1) ∧ Aside0 (w'.heap[gb127]? = some (.cells #[.int .i64 a0_0, (.slice A0_1 l0_1.length c0_1)] 31 (0, 0))) ∧ Aside0 (Below w.heap.size w w'))
          case atStart => exact ⟨(0), (0), (by first | rfl | (simp; done) | (simp [*]; done)), (by first | rfl | (simp; done) | (simp [*]; done)), H', ⟨Nat.le_refl _⟩, ⟨by (try simp only [hl8_1]); exact Rz HO_7⟩, ⟨by (try simp only [hl8_1]); exact Rz HO_8⟩, ⟨by (try simp only [hl8_1]); exact Bz BK127⟩, ⟨by exact Lz1 HB GE127⟩⟩
          case round =>
           clear H'
           try clear c1
           try clear c4
           try clear c4b0
           try clear c4b1
           try clear c5
           try clear c5b0
           try clear c5b1
           try clear c6
           try clear c6b0
           try clear c7
           try clear c7b0
           try clear p8
           try clear q8
           try clear c18
           try clear c18b0
           try clear p8
           try clear q8
           obtain ⟨x11_3, x12_3, rfl, rfl, HA, HK3, HO_7, HO_8, BK127, HB⟩ := hrel
           cases gk with
           | zero => exact absurd HA.out (by simp [spec_l05Burn.l2])
           | succ k3 =>
            have H := HA.out
            clear HA
            simp only [spec_l05Burn.l2] at H
            by_cases c19 : x12_3 < a0_0
            ·rw [if_pos c19] at H
             have c19b0 : decide (x12_3 < a0_0) = true := decide_eq_true c19
             clear c19
             by_cases c20 : 0 ≤ x12_3
             ·rw [if_pos c20] at H
              have c20b0 : decide (0 ≤ x12_3) = true := decide_eq_true c20
              clear c20
              by_cases c21 : x12_3 < (x8_1.length : Int)
              ·rw [if_pos c21] at H
               have c21b0 : decide (x12_3 < (x8_1.length : Int)) = true := decide_eq_true c21
               (try simp only [hl8_1] at c21b0)
               clear c21
               obtain ⟨bq22, hbq22⟩ : ∃ b_ : Bool, b_ = (rdOf false x8_1 x12_3) := ⟨_, rfl⟩
               replace H : (if bq22 = true then ((spec_Multiplicity.f k3 a0_0 l0_1 x10_2 x12_3).bind fun t136 => (spec_l05Burn.l2 k3 l1 x7_1 x8_1 x9_2 x10_2 (wrap64 (x11_3 + t136)) (wrap64 (x12_3 + 1)) a0_0 l0_1)) else (spec_l05Burn.l2 k3 l1 x7_1 x8_1 x9_2 x10_2 x11_3 (wrap64 (x12_3 + 1)) a0_0 l0_1)) = some r := by rw [← hbq22] at H; exact H
               have Nbq22 := Aside0.mk hbq22
               clear hbq22
               by_cases c23 : bq22 = true
               ·subst c23
                have H1 : ((spec_Multiplicity.f k3 a0_0 l0_1 x10_2 x12_3).bind fun t136 => (spec_l05Burn.l2 k3 l1 x7_1 x8_1 x9_2 x10_2 (wrap64 (x11_3 + t136)) (wrap64 (x12_3 + 1)) a0_0 l0_1)) = some r := by rw [if_pos rfl] at H; exact H
                clear H
                have H := H1
                clear H1
                replace H := Option.bind_eq_some_iff.mp H
                obtain ⟨t136, A240, H⟩ := H
                replace H : (spec_l05Burn.l2 k3 l1 x7_1 x8_1 x9_2 x10_2 (wrap64 (x11_3 + t136)) (wrap64 (x12_3 + 1)) a0_0 l0_1) = some r := H
                have A24 := Aside0.mk A240
                clear A240
                have H' := Aside0.mk H
                clear H
                have hcz25_0 : wr.cell? ⟨gb127, 0, none⟩ = some (.int .i64 a0_0) := (blk_cell BK127.out 0).trans rfl
                have hcz25_1 : wr.cell? ⟨gb127, 1, none⟩ = some (.slice A0_1 l0_1.length c0_1) := (blk_cell BK127.out 1).trans rfl
                have hfz25_0 := blk_frozen BK127.out 0
                have hfz25_1 := blk_frozen BK127.out 1
                have p135 : 0 ≤ (x12_3 : Int) := of_decide_eq_true (by first | (with_reducible assumption) | assumption)
                have q135 : x12_3 < (x8_1.length : Int) := of_decide_eq_true (by first | (with_reducible assumption) | assumption)
                obtain ⟨ad135, e135, hx135_0⟩ := Kd.at_bool (Kd.R_reads' HO_8.out).2.2 x12_3 p135 q135
                (try rw [← Nbq22.out] at hx135_0)
                obtain rfl : (⟨go8, 0, none⟩ : Addr) = ad135 := (by injection e135)
                (first | simp only [add_plain] at hx135_0 | simp only [add_at] at hx135_0 | simp only [Addr.add, Nat.zero_add] at hx135_0 | skip)
                replace p135 := eq_true p135
                replace q135 := eq_true q135
                go_wp2_with (first | ((with_reducible refine gate_callee (f := 115) rfl ?_); refine goesM_ (some 42) rfl rfl Try.func115 (by kernel_rfl) rfl #[.agg #[.int .i64 a0_0, .slice A0_1 l0_1.length c0_1], .int .i64 x10_2, .int .i64 x12_3] rfl ?_; (with_reducible refine (spec_Multiplicity.calls k3 a0_0 _ _ l0_1 x10_2 x12_3 t136 _ ?side1 ?side2 A24.out).mono ?_); (case side1 => exact Cz ((Kd.C_below HR0_1.out HB.out))); (case side2 => exact HC0_1.out); rintro e w26 ⟨rfl, hb⟩; refine ⟨_, rfl, ?_⟩; replace HO_7 := Aside0.mk (Kd.R_below (Rz HO_7) hb); replace HO_8 := Aside0.mk (Kd.R_below (Rz HO_8) hb); replace BK127 := Aside0.mk (blk_below (g := gb127) (o := .cells #[.int .i64 a0_0, .slice A0_1 l0_1.length c0_1] 31 (0, 0)) (Bz BK127) hb); replace HB := Aside0.mk (below_step (by exact Lz1 HB GE127) hb); (try clear hb); (try clear hb2); (try clear hk); (try clear hi)))
                go_roundg k3
                case measure => have := HK1.out; have := HK2.out; have := HK3.out; omega
                case rel => exact ⟨(wrap64 (x11_3 + t136)), (wrap64 (x12_3 + 1)), (by first | rfl | (simp; done) | (simp [*]; done)), (by first | rfl | (simp; done) | (simp [*]; done)), H', ⟨by have := HK1.out; have := HK2.out; have := HK3.out; omega⟩, ⟨by (try simp only [hl8_1]); exact Rz HO_7⟩, ⟨by (try simp only [hl8_1]); exact Rz HO_8⟩, ⟨by (try simp only [hl8_1]); exact Bz BK127⟩, ⟨by exact Lz1 HB GE127⟩⟩
               replace c23 := Bool.eq_false_iff.mpr c23
               subst c23
               have H1 : (spec_l05Burn.l2 k3 l1 x7_1 x8_1 x9_2 x10_2 x11_3 (wrap64 (x12_3 + 1)) a0_0 l0_1) = some r := by rw [if_neg (show ¬ (false = true) by decide)] at H; exact H
               clear H
               have H := H1
               clear H1
               have H' := Aside0.mk H
               clear H
               have hcz27_0 : wr.cell? ⟨gb127, 0, none⟩ = some (.int .i64 a0_0) := (blk_cell BK127.out 0).trans rfl
               have hcz27_1 : wr.cell? ⟨gb127, 1, none⟩ = some (.slice A0_1 l0_1.length c0_1) := (blk_cell BK127.out 1).trans rfl
               have hfz27_0 := blk_frozen BK127.out 0
               have hfz27_1 := blk_frozen BK127.out 1
               have p135 : 0 ≤ (x12_3 : Int) := of_decide_eq_true (by first | (with_reducible assumption) | assumption)
               have q135 : x12_3 < (x8_1.length : Int) := of_decide_eq_true (by first | (with_reducible assumption) | assumption)
               obtain ⟨ad135, e135, hx135_0⟩ := Kd.at_bool (Kd.R_reads' HO_8.out).2.2 x12_3 p135 q135
               (try rw [← Nbq22.out] at hx135_0)
               obtain rfl : (⟨go8, 0, none⟩ : Addr) = ad135 := (by injection e135)
               (first | simp only [add_plain] at hx135_0 | simp only [add_at] at hx135_0 | simp only [Addr.add, Nat.zero_add] at hx135_0 | skip)
               replace p135 := eq_true p135
               replace q135 := eq_true q135
               go_wp2
               go_roundg k3
               case measure => have := HK1.out; have := HK2.out; have := HK3.out; omega
               case rel => exact ⟨(x11_3), (wrap64 (x12_3 + 1)), (by first | rfl | (simp; done) | (simp [*]; done)), (by first | rfl | (simp; done) | (simp [*]; done)), H', ⟨by have := HK1.out; have := HK2.out; have := HK3.out; omega⟩, ⟨by (try simp only [hl8_1]); exact Rz HO_7⟩, ⟨by (try simp only [hl8_1]); exact Rz HO_8⟩, ⟨by (try simp only [hl8_1]); exact Bz BK127⟩, ⟨by exact Lz1 HB GE127⟩⟩
              rw [if_neg c21] at H
              exact absurd H (by simp)
             rw [if_neg c20] at H
             exact absurd H (by simp)
            rw [if_neg c19] at H
            have c19b0 : decide (x12_3 < a0_0) = false := decide_eq_false c19
            clear c19
            by_cases c28 : 0 ≤ x10_2
            ·rw [if_pos c28] at H
             have c28b0 : decide (0 ≤ x10_2) = true := decide_eq_true c28
             clear c28
             by_cases c29 : x10_2 < (x8_1.length : Int)
             ·rw [if_pos c29] at H
              have c29b0 : decide (x10_2 < (x8_1.length : Int)) = true := decide_eq_true c29
              (try simp only [hl8_1] at c29b0)
              clear c29
              obtain ⟨bq30, hbq30⟩ : ∃ b_ : Bool, b_ = (rdOf false x8_1 x10_2) := ⟨_, rfl⟩
              replace H : (if bq30 = true then (spec_l05Burn.l1 k3 l1 x7_1 x8_1 x9_2 (wrap64 (x10_2 - 1)) a0_0 l0_1) else (if x10_2 < (l1.length : Int) then (if (rd l1 x10_2) < x11_3 then (spec_l05Burn.l1 k3 l1 x7_1 x8_1 x10_2 (wrap64 (x10_2 - 1)) a0_0 l0_1) else (spec_l05Burn.l1 k3 l1 x7_1 x8_1 x9_2 (wrap64 (x10_2 - 1)) a0_0 l0_1)) else (none))) = some r := by rw [← hbq30] at H; exact H
              have Nbq30 := Aside0.mk hbq30
              clear hbq30
              by_cases c31 : bq30 = true
              ·subst c31
               have H1 : (spec_l05Burn.l1 k3 l1 x7_1 x8_1 x9_2 (wrap64 (x10_2 - 1)) a0_0 l0_1) = some r := by rw [if_pos rfl] at H; exact H
               clear H
               have H := H1
               clear H1
               have H' := Aside0.mk H
               clear H
               have hcz32_0 : wr.cell? ⟨gb127, 0, none⟩ = some (.int .i64 a0_0) := (blk_cell BK127.out 0).trans rfl
               have hcz32_1 : wr.cell? ⟨gb127, 1, none⟩ = some (.slice A0_1 l0_1.length c0_1) := (blk_cell BK127.out 1).trans rfl
               have hfz32_0 := blk_frozen BK127.out 0
               have hfz32_1 := blk_frozen BK127.out 1
               have p137 : 0 ≤ (x10_2 : Int) := of_decide_eq_true (by first | (with_reducible assumption) | assumption)
               have q137 : x10_2 < (x8_1.length : Int) := of_decide_eq_true (by first | (with_reducible assumption) | assumption)
               obtain ⟨ad137, e137, hx137_0⟩ := Kd.at_bool (Kd.R_reads' HO_8.out).2.2 x10_2 p137 q137
               (try rw [← Nbq30.out] at hx137_0)
               obtain rfl : (⟨go8, 0, none⟩ : Addr) = ad137 := (by injection e137)
               (first | simp only [add_plain] at hx137_0 | simp only [add_at] at hx137_0 | simp only [Addr.add, Nat.zero_add] at hx137_0 | skip)
               replace p137 := eq_true p137
               replace q137 := eq_true q137
               go_wp2
               go_roundg k3
               case measure => have := HK1.out; have := HK2.out; have := HK3.out; omega
               case rel => exact ⟨(x9_2), (wrap64 (x10_2 - 1)), (by first | rfl | (simp; done) | (simp [*]; done)), (by first | rfl | (simp; done) | (simp [*]; done)), H', ⟨by have := HK1.out; have := HK2.out; have := HK3.out; omega⟩, ⟨by (try simp only [hl8_1]); exact Rz HO_7⟩, ⟨by (try simp only [hl8_1]); exact Rz HO_8⟩, ⟨by (try simp only [hl8_1]); exact Bz BK127⟩, ⟨by exact Lz1 HB GE127⟩⟩
              replace c31 := Bool.eq_false_iff.mpr c31
              subst c31
              have H1 : (if x10_2 < (l1.length : Int) then (if (rd l1 x10_2) < x11_3 then (spec_l05Burn.l1 k3 l1 x7_1 x8_1 x10_2 (wrap64 (x10_2 - 1)) a0_0 l0_1) else (spec_l05Burn.l1 k3 l1 x7_1 x8_1 x9_2 (wrap64 (x10_2 - 1)) a0_0 l0_1)) else (none)) = some r := by rw [if_neg (show ¬ (false = true) by decide)] at H; exact H
              clear H
              have H := H1
              clear H1
              by_cases c33 : x10_2 < (l1.length : Int)
              ·rw [if_pos c33] at H
               have c33b0 : decide (x10_2 < (l1.length : Int)) = true := decide_eq_true c33
               (try simp only [hl8_1] at c33b0)
               clear c33
               by_cases c34 : (rd l1 x10_2) < x11_3
               ·rw [if_pos c34] at H
                have c34b0 : decide ((rd l1 x10_2) < x11_3) = true := decide_eq_true c34
                clear c34
                have H' := Aside0.mk H
                clear H
                have hcz35_0 : wr.cell? ⟨gb127, 0, none⟩ = some (.int .i64 a0_0) := (blk_cell BK127.out 0).trans rfl
                have hcz35_1 : wr.cell? ⟨gb127, 1, none⟩ = some (.slice A0_1 l0_1.length c0_1) := (blk_cell BK127.out 1).trans rfl
                have hfz35_0 := blk_frozen BK127.out 0
                have hfz35_1 := blk_frozen BK127.out 1
                have p137 : 0 ≤ (x10_2 : Int) := of_decide_eq_true (by first | (with_reducible assumption) | assumption)
                have q137 : x10_2 < (x8_1.length : Int) := of_decide_eq_true (by first | (with_reducible assumption) | assumption)
                obtain ⟨ad137, e137, hx137_0⟩ := Kd.at_bool (Kd.R_reads' HO_8.out).2.2 x10_2 p137 q137
                (try rw [← Nbq30.out] at hx137_0)
                obtain rfl : (⟨go8, 0, none⟩ : Addr) = ad137 := (by injection e137)
                (first | simp only [add_plain] at hx137_0 | simp only [add_at] at hx137_0 | simp only [Addr.add, Nat.zero_add] at hx137_0 | skip)
                replace p137 := eq_true p137
                replace q137 := eq_true q137
                have p138 : 0 ≤ (x10_2 : Int) := of_decide_eq_true (by first | (with_reducible assumption) | assumption)
                have q138 : x10_2 < (l1.length : Int) := of_decide_eq_true (by first | (with_reducible assumption) | assumption)
                obtain ⟨ad138, e138, hx138_0⟩ := Kd.at_int HR1.out x10_2 p138 q138
                cases e138
                replace hx138_0 := (HB.out.cell (World.block_lt_of_cell? w _ hx138_0)).trans hx138_0
                replace p138 := eq_true p138
                replace q138 := eq_true q138
                go_wp2
                go_roundg k3
                case measure => have := HK1.out; have := HK2.out; have := HK3.out; omega
                case rel => exact ⟨(x10_2), (wrap64 (x10_2 - 1)), (by first | rfl | (simp; done) | (simp [*]; done)), (by first | rfl | (simp; done) | (simp [*]; done)), H', ⟨by have := HK1.out; have := HK2.out; have := HK3.out; omega⟩, ⟨by (try simp only [hl8_1]); exact Rz HO_7⟩, ⟨by (try simp only [hl8_1]); exact Rz HO_8⟩, ⟨by (try simp only [hl8_1]); exact Bz BK127⟩, ⟨by exact Lz1 HB GE127⟩⟩
               rw [if_neg c34] at H
               have c34b0 : decide ((rd l1 x10_2) < x11_3) = false := decide_eq_false c34
               clear c34
               have H' := Aside0.mk H
               clear H
               have hcz36_0 : wr.cell? ⟨gb127, 0, none⟩ = some (.int .i64 a0_0) := (blk_cell BK127.out 0).trans rfl
               have hcz36_1 : wr.cell? ⟨gb127, 1, none⟩ = some (.slice A0_1 l0_1.length c0_1) := (blk_cell BK127.out 1).trans rfl
               have hfz36_0 := blk_frozen BK127.out 0
               have hfz36_1 := blk_frozen BK127.out 1
               have p137 : 0 ≤ (x10_2 : Int) := of_decide_eq_true (by first | (with_reducible assumption) | assumption)
               have q137 : x10_2 < (x8_1.length : Int) := of_decide_eq_true (by first | (with_reducible assumption) | assumption)
               obtain ⟨ad137, e137, hx137_0⟩ := Kd.at_bool (Kd.R_reads' HO_8.out).2.2 x10_2 p137 q137
               (try rw [← Nbq30.out] at hx137_0)
               obtain rfl : (⟨go8, 0, none⟩ : Addr) = ad137 := (by injection e137)
               (first | simp only [add_plain] at hx137_0 | simp only [add_at] at hx137_0 | simp only [Addr.add, Nat.zero_add] at hx137_0 | skip)
               replace p137 := eq_true p137
               replace q137 := eq_true q137
               have p138 : 0 ≤ (x10_2 : Int) := of_decide_eq_true (by first | (with_reducible assumption) | assumption)
               have q138 : x10_2 < (l1.length : Int) := of_decide_eq_true (by first | (with_reducible assumption) | assumption)
               obtain ⟨ad138, e138, hx138_0⟩ := Kd.at_int HR1.out x10_2 p138 q138
               cases e138
               replace hx138_0 := (HB.out.cell (World.block_lt_of_cell? w _ hx138_0)).trans hx138_0
               replace p138 := eq_true p138
               replace q138 := eq_true q138
               go_wp2
               go_roundg k3
               case measure => have := HK1.out; have := HK2.out; have := HK3.out; omega
               case rel => exact ⟨(x9_2), (wrap64 (x10_2 - 1)), (by first | rfl | (simp; done) | (simp [*]; done)), (by first | rfl | (simp; done) | (simp [*]; done)), H', ⟨by have := HK1.out; have := HK2.out; have := HK3.out; omega⟩, ⟨by (try simp only [hl8_1]); exact Rz HO_7⟩, ⟨by (try simp only [hl8_1]); exact Rz HO_8⟩, ⟨by (try simp only [hl8_1]); exact Bz BK127⟩, ⟨by exact Lz1 HB GE127⟩⟩
              rw [if_neg c33] at H
              exact absurd H (by simp)
             rw [if_neg c29] at H
             exact absurd H (by simp)
            rw [if_neg c28] at H
            exact absurd H (by simp)
         rw [if_neg c18] at H
         have c18b0 : decide (0 ≤ x10_2) = false := decide_eq_false c18
         clear c18
         by_cases c37 : x9_2 < 0
         ·rw [if_pos c37] at H
          have c37b0 : decide (x9_2 < 0) = true := decide_eq_true c37
          clear c37
          obtain rfl := Option.some.inj H
          go_wp2
          go_ret
          exact ⟨_, by first | rfl | (simp [errW_none, errW_some] <;> rfl) | (simp [*, errW_none, errW_some] <;> rfl), by exact Rz HO_7, by exact Lz1 HB GE127⟩
         rw [if_neg c37] at H
         have c37b0 : decide (x9_2 < 0) = false := decide_eq_false c37
         clear c37
         by_cases c38 : 0 ≤ x9_2
         ·rw [if_pos c38] at H
          have c38b0 : decide (0 ≤ x9_2) = true := decide_eq_true c38
          clear c38
          by_cases c39 : x9_2 < (x8_1.length : Int)
          ·rw [if_pos c39] at H
           have c39b0 : decide (x9_2 < (x8_1.length : Int)) = true := decide_eq_true c39
           (try simp only [hl8_1] at c39b0)
           clear c39
           obtain ⟨y139, hy139⟩ : ∃ y_ : List Bool, y_ = (x8_1.set (x9_2 : Int).toNat true) := ⟨_, rfl⟩
           replace H : (if x7_1.length < 17592186044416 then (spec_l05Burn.l0 k2 l1 (x7_1 ++ [x9_2]) y139 a0_0 l0_1) else (none)) = some r := by first | (rw [hy139]; with_reducible exact H) | (have H2_ := (Option.bind_some _ _).symm.trans H; rw [hy139]; with_reducible exact H2_) | (have H2_ := (Option.bind_some _ _).symm.trans H; with_reducible exact H2_) | with_reducible exact H | (rw [hy139]; exact H) | exact H
           have Ny139 := Aside0.mk hy139
           clear hy139
           by_cases c41 : x7_1.length < 17592186044416
           ·rw [if_pos c41] at H
            have LMc41 := Aside0.mk c41
            clear c41
            obtain ⟨y140, hy140⟩ : ∃ y_ : List Int, y_ = (x7_1 ++ [x9_2]) := ⟨_, rfl⟩
            replace H : (spec_l05Burn.l0 k2 l1 y140 y139 a0_0 l0_1) = some r := by first | (rw [hy140]; with_reducible exact H) | (have H2_ := (Option.bind_some _ _).symm.trans H; rw [hy140]; with_reducible exact H2_) | (have H2_ := (Option.bind_some _ _).symm.trans H; with_reducible exact H2_) | with_reducible exact H | (rw [hy140]; exact H) | exact H
            have Ny140 := Aside0.mk hy140
            clear hy140
            have H' := Aside0.mk H
            clear H
            have p40 : 0 ≤ (x9_2 : Int) := of_decide_eq_true (by first | (with_reducible assumption) | assumption)
            have q40 : (x9_2 : Int) < ((x8_1.length : Int) : Int) := of_decide_eq_true (by first | (with_reducible assumption) | assumption)
            obtain ⟨hx40_0, hf40_0⟩ := Kd.R_celln false HO_8.out (x9_2 : Int) p40 q40
            replace p40 := eq_true p40
            replace q40 := eq_true q40
            have HP42 := Kd.R_putg HO_8.out (x9_2 : Int) true
            go_wp2_with (first | ((with_reducible refine gate_store (t := 4) (p := 63) rfl ?_); refine store_event (t := 4) (p := 63) (v := ?vo_w43) (w1 := (wr.setCell ⟨go8, (x9_2 : Int).toNat, none⟩ (.bool true))) ?hg ?ho ?hn ?hr ?_; (case ho => rfl); (case hg => rfl); (case hn => rfl); (case hr => first | (go_simp; done) | (go_simp; rfl)); intro w43 hw; have hg : wr.grownBy w43 (some go8) := (by rw [hw]; exact HP42.2); have hp_ : Kd.R Kd.bool 4 w43 w.heap.size (fun _ => True) (.slice (some ⟨go8, 0, none⟩) x8_1.length co8) y139 := (by rw [hw, Ny139.out]; exact HP42.1); clear HP42; replace HO_7 := Aside0.mk (Kd.R_over' (v := (.slice (some ⟨go8, 0, none⟩) x8_1.length co8)) (Rz HO_7) (Kd.R_typed HO_8.out) (by decide) hg); replace BK127 := Aside0.mk (blk_grown (g := gb127) (o := .cells #[.int .i64 a0_0, .slice A0_1 l0_1.length c0_1] 31 (0, 0)) (Bz BK127) hg (Kd.R_ne HO_8.out BK127.out (by decide))); replace HO_8 := Aside0.mk (hp_); replace HB := Aside0.mk ((by rw [hw]; exact below_set (HB.out) GB8.out : Below w.heap.size w w43)); clear hg hw hp_) | ((with_reducible refine gate_builtin (b := .append) (xs := #[.tmp 64, .tmp 66]) rfl ?_); at_builtin; refine Kd.R_append (Kd.int .i64) (w0 := w) w.heap.size rfl (.tmp 64) (.tmp 66) 25 3 (.int .i64 0) 8 rfl Try.underlying25 info3 rfl (by decide) (by omega) u7 x7_1 x9_2 [.int .i64 x9_2] (fun _ => True) (fun _ => False) rfl rfl ?aP (fun _ hk => hk.elim) ?aF ?aO ?aB ?aS ?aL ?_; (case aP => exact rfl); (case aB => exact (by exact Lz1 HB GE127)); (case aF => exact (fun _ _ => trivial)); (case aO => exact (Rz HO_7)); (case aS => exact (below_size (by exact Lz1 HB GE127))); (case aL => have := LMc41.out; omega); intro v141 w44 ho hb hg hat; rw [← Ny140.out] at ho; replace HO_8 := Aside0.mk (Kd.R_over' (Rz HO_8) (Kd.R_typed (Rz HO_7)) (by decide) hg); replace BK127 := Aside0.mk (blk_grown (g := gb127) (o := .cells #[.int .i64 a0_0, .slice A0_1 l0_1.length c0_1] 31 (0, 0)) (Bz BK127) hg (Kd.R_ne HO_7.out BK127.out (by decide))); replace HB := Aside0.mk (hb); have HO142 := Aside0.mk (ho); clear HO_7; clear ho hb hg hat))
            (try simp only [← hl8_1])
            go_roundg k2
            case measure => have := HK1.out; have := HK2.out; omega
            case rel => exact ⟨(y140), (y139), H', ⟨by have := HK1.out; have := HK2.out; omega⟩, ⟨by (try simp only [hl8_1]); exact Rz HO142⟩, ⟨by (try simp only [hl8_1]); exact Rz HO_8⟩, ⟨by (try simp only [hl8_1]); exact Bz BK127⟩, ⟨by exact Lz1 HB GE127⟩⟩
           rw [if_neg c41] at H
           exact absurd H (by simp)
          rw [if_neg c39] at H
          exact absurd H (by simp)
         rw [if_neg c38] at H
         exact absurd H (by simp)
    rw [if_neg c7] at H
    exact absurd H (by simp)
   rw [if_neg c6] at H
   exact absurd H (by simp)
  rw [if_neg c5] at H
  exact absurd H (by simp)
 rw [if_neg c4] at H
 exact absurd H (by simp)
end Go.Proofs.Ytbcfccdoffbncaa.P
end
section
namespace Go.Proofs.Ytbcfccdoffbncaa.P
open Go.RowKit Go.Proofs.YtbcfccdoffbncaaW.PrintWords Go.Proofs.YtbcfccdoffbncaaW.PrintLast Go.Proofs.YtbcfccdoffbncaaW.PrintMore
attribute [local go_sem] max2_int min2_int max_two min_two max_three min_three max_four min_four
set_option linter.unusedVariables false
set_option linter.unusedSimpArgs false
def spec_l02Has.l0 : Nat → Int → List Int → Int → Int → Option (Bool)
 | 0, _, _, _, _ => none
 | k + 1, x1, x7, x8, x9 => if x9 < x8 then (if 0 ≤ x9 then (if x9 < (x7.length : Int) then (if (rd x7 x9) = x1 then (some true) else (spec_l02Has.l0 k x1 x7 x8 (wrap64 (x9 + 1)))) else (none)) else (none)) else (some false)
def spec_l02Has.f (k : Nat) (l0 : List Int) (a1 : Int) : Option (Bool) := spec_l02Has.l0 k a1 l0 (l0.length : Int) 0
set_option maxHeartbeats 8000000 in
set_option maxRecDepth 100000 in
theorem spec_l02Has.calls (k : Nat) (A0 : Option Addr) (c0 : Nat) (l0 : List Int) (a1 : Int) (r : Bool) (w : World) (hr0 : Kd.C (Kd.int .i64) w A0 l0.length l0) (hc0 : l0.length ≤ c0) (h : spec_l02Has.f k l0 a1 = some r) :
  Calls Try.prog 98 #[.slice A0 l0.length c0, .int .i64 a1] w fun e w' => e = .returned (.bool r) ∧ Drawn0 w w' := by
 have HR0 := Aside0.mk hr0
 have HC0 := Aside0.mk hc0
 clear hr0 hc0
 have H : (spec_l02Has.l0 k a1 l0 (l0.length : Int) 0) = some r := h
 clear h
 have H' := Aside0.mk H
 clear H
 go_enter Try.func98, Try.ntmps98
 go_wp2
 go_loopg [9] k (fun kq v9 w' => ∃ (x9_1 : Int), v9 = .int .i64 x9_1 ∧ Aside0 (spec_l02Has.l0 kq a1 l0 (l0.length : Int) x9_1 = some r) ∧ Aside0 (kq ≤ k) ∧ Drawn0 w w')
 case atStart => exact ⟨(0), (by first | rfl | (simp; done) | (simp [*]; done)), H', ⟨Nat.le_refl _⟩, by repeat (first | exact Drawn0.refl _ | apply Drawn0.step)⟩
 case round =>
  clear H'
  obtain ⟨x9_1, rfl, HA, HK1, ⟨m1, rfl⟩⟩ := hrel
  cases gk with
  | zero => exact absurd HA.out (by simp [spec_l02Has.l0])
  | succ k1 =>
   have H := HA.out
   clear HA
   simp only [spec_l02Has.l0] at H
   by_cases c3 : x9_1 < (l0.length : Int)
   ·rw [if_pos c3] at H
    have c3b0 : decide (x9_1 < (l0.length : Int)) = true := decide_eq_true c3
    clear c3
    by_cases c4 : 0 ≤ x9_1
    ·rw [if_pos c4] at H
     have c4b0 : decide (0 ≤ x9_1) = true := decide_eq_true c4
     clear c4
     by_cases c5 : x9_1 < (l0.length : Int)
     ·rw [if_pos c5] at H
      have c5b0 : decide (x9_1 < (l0.length : Int)) = true := decide_eq_true c5
      clear c5
      by_cases c6 : (rd l0 x9_1) = a1
      ·rw [if_pos c6] at H
       have c6b0 : ((rd l0 x9_1) == a1) = true := beq_iff_eq.mpr c6
       have c6b1 : ((rd l0 x9_1) != a1) = false := bne_eq_false_iff_eq.mpr c6
       clear c6
       obtain rfl := Option.some.inj H
       have p143 : 0 ≤ (x9_1 : Int) := of_decide_eq_true (by first | (with_reducible assumption) | assumption)
       have q143 : x9_1 < (l0.length : Int) := of_decide_eq_true (by first | (with_reducible assumption) | assumption)
       obtain ⟨ad143, e143, hx143_0⟩ := Kd.at_int HR0.out x9_1 p143 q143
       cases e143
       replace p143 := eq_true p143
       replace q143 := eq_true q143
       go_wp2
       go_ret
       exact ⟨by first | rfl | (simp; done) | (simp [*]; done), by repeat (first | exact Drawn0.refl _ | apply Drawn0.step)⟩
      rw [if_neg c6] at H
      have c6b0 : ((rd l0 x9_1) == a1) = false := beq_eq_false_iff_ne.mpr c6
      have c6b1 : ((rd l0 x9_1) != a1) = true := bne_iff_ne.mpr c6
      have H' := Aside0.mk H
      clear H
      have p143 : 0 ≤ (x9_1 : Int) := of_decide_eq_true (by first | (with_reducible assumption) | assumption)
      have q143 : x9_1 < (l0.length : Int) := of_decide_eq_true (by first | (with_reducible assumption) | assumption)
      obtain ⟨ad143, e143, hx143_0⟩ := Kd.at_int HR0.out x9_1 p143 q143
      cases e143
      replace p143 := eq_true p143
      replace q143 := eq_true q143
      go_wp2
      go_roundg k1
      case measure => have := HK1.out; omega
      case rel => exact ⟨(wrap64 (x9_1 + 1)), (by first | rfl | (simp; done) | (simp [*]; done)), H', ⟨by have := HK1.out; omega⟩, by repeat (first | exact Drawn0.refl _ | apply Drawn0.step)⟩
     rw [if_neg c5] at H
     exact absurd H (by simp)
    rw [if_neg c4] at H
    exact absurd H (by simp)
   rw [if_neg c3] at H
   have c3b0 : decide (x9_1 < (l0.length : Int)) = false := decide_eq_false c3
   clear c3
   obtain rfl := Option.some.inj H
   go_wp2
   go_ret
   exact ⟨by first | rfl | (simp; done) | (simp [*]; done), by repeat (first | exact Drawn0.refl _ | apply Drawn0.step)⟩
end Go.Proofs.Ytbcfccdoffbncaa.P
end
section
namespace Go.Proofs.Ytbcfccdoffbncaa.P
open Go.RowKit Go.Proofs.YtbcfccdoffbncaaW.PrintWords Go.Proofs.YtbcfccdoffbncaaW.PrintLast Go.Proofs.YtbcfccdoffbncaaW.PrintMore
attribute [local go_sem] max2_int min2_int max_two min_two max_three min_three max_four min_four
set_option linter.unusedVariables false
set_option linter.unusedSimpArgs false
mutual
def spec_l05Reduce.l0 : Nat → List Int → Int → List Int → List Int → Int → List (S67) → Option (List Int × List Int)
 | 0, _, _, _, _, _, _ => none
 | k + 1, x1, x2, x8, x9, x145000, x145001 => (spec_l05Debt.f k x9 x2).bind fun t154 => (if t154 = true then (spec_l05Reduce.l1 k x1 x2 x8 x9 (x9.length : Int) 0 x145000 x145001) else (spec_l05Reduce.l2 k x1 x2 x8 x9 x145000 x145001))
def spec_l05Reduce.l1 : Nat → List Int → Int → List Int → List Int → Int → Int → Int → List (S67) → Option (List Int × List Int)
 | 0, _, _, _, _, _, _, _, _ => none
 | k + 1, x1, x2, x8, x9, x23, x24, x145000, x145001 => if x24 < x23 then (if x24 = x2 then (spec_l05Reduce.l1 k x1 x2 x8 x9 x23 (wrap64 (x24 + 1)) x145000 x145001) else (if 0 ≤ x24 then (if x24 < (x9.length : Int) then (if (rd x9 x24) < 0 then (if x24 < (x8.length : Int) then ((some (x8.set (x24 : Int).toNat (wrap64 ((rd x8 x24) - 1)) : List Int)).bind fun y157 => ((spec_l04Fire.f k x145000 x145001 x1 y157).bind fun t158 => (spec_l05Reduce.l1 k x1 x2 y157 t158 x23 (wrap64 (x24 + 1)) x145000 x145001))) else (none)) else (spec_l05Reduce.l1 k x1 x2 x8 x9 x23 (wrap64 (x24 + 1)) x145000 x145001)) else (none)) else (none))) else (spec_l05Reduce.l0 k x1 x2 x8 x9 x145000 x145001)
def spec_l05Reduce.l2 : Nat → List Int → Int → List Int → List Int → Int → List (S67) → Option (List Int × List Int)
 | 0, _, _, _, _, _, _ => none
 | k + 1, x1, x2, x8, x9, x145000, x145001 => (spec_l05Burn.f k x145000 x145001 x9 x2).bind fun t161 => (if (t161.length : Int) = x145000 then (some (x9, x8)) else (spec_l05Reduce.l3 k x1 x2 x8 t161 0 x145000 x145001))
def spec_l05Reduce.l3 : Nat → List Int → Int → List Int → List Int → Int → Int → List (S67) → Option (List Int × List Int)
 | 0, _, _, _, _, _, _, _ => none
 | k + 1, x1, x2, x8, x11, x12, x145000, x145001 => if x12 < x145000 then ((spec_l02Has.f k x11 x12).bind fun t167 => (if t167 = true then (spec_l05Reduce.l3 k x1 x2 x8 x11 (wrap64 (x12 + 1)) x145000 x145001) else (if 0 ≤ x12 then (if x12 < (x8.length : Int) then (spec_l05Reduce.l3 k x1 x2 (x8.set (x12 : Int).toNat (wrap64 ((rd x8 x12) + 1))) x11 (wrap64 (x12 + 1)) x145000 x145001) else (none)) else (none)))) else ((spec_l04Fire.f k x145000 x145001 x1 x8).bind fun t164 => (spec_l05Reduce.l2 k x1 x2 x8 t164 x145000 x145001))
end
def spec_l05Reduce.f (k : Nat) (a0_0 : Int) (l0_1 : List (S67)) (l1 : List Int) (a2 : Int) : Option (List Int × List Int) := if 0 ≤ a0_0 then (if (a0_0 : Int).toNat ≤ 35184372088832 then ((some (([] : List Int) : List Int)).bind fun y148 => (if y148.length + l1.length < 17592186044416 then (spec_l05Reduce.l0 k l1 a2 (List.replicate (a0_0 : Int).toNat 0) (y148 ++ l1) a0_0 l0_1) else (none))) else (none)) else (none)
set_option maxHeartbeats 8000000 in
set_option maxRecDepth 100000 in
theorem spec_l05Reduce.calls (k : Nat) (a0_0 : Int) (A0_1 : Option Addr) (c0_1 : Nat) (l0_1 : List (S67)) (A1 : Option Addr) (c1 : Nat) (l1 : List Int) (a2 : Int) (r1 : List Int) (r2 : List Int) (w : World) (hr0_1 : Kd.C k67 w A0_1 l0_1.length l0_1) (hc0_1 : l0_1.length ≤ c0_1) (hr1 : Kd.C (Kd.int .i64) w A1 l1.length l1) (hc1 : l1.length ≤ c1) (h : spec_l05Reduce.f k a0_0 l0_1 l1 a2 = some (r1, r2)) :
  Calls Try.prog 56 #[.agg #[.int .i64 a0_0, .slice A0_1 l0_1.length c0_1], .slice A1 l1.length c1, .int .i64 a2] w fun e w' => ∃ v0_ v1_ : Value, e = .returned (.tuple #[v0_, v1_]) ∧ Kd.R (Kd.int .i64) 3 w' w.heap.size (fun k_ => some k_ ≠ (v1_ : Value).ownBlock) v0_ r1 ∧ Kd.R (Kd.int .i64) 3 w' w.heap.size (fun k_ => some k_ ≠ (v0_ : Value).ownBlock) v1_ r2 ∧ Below w.heap.size w w' := by
 have hu31 := Try.underlying31
 have HR0_1 := Aside0.mk hr0_1
 have HC0_1 := Aside0.mk hc0_1
 clear hr0_1 hc0_1
 have HR1 := Aside0.mk hr1
 have HC1 := Aside0.mk hc1
 clear hr1 hc1
 have HB := Aside0.mk (Below.refl w.heap.size w)
 have H : (if 0 ≤ a0_0 then (if (a0_0 : Int).toNat ≤ 35184372088832 then ((some (([] : List Int) : List Int)).bind fun y148 => (if y148.length + l1.length < 17592186044416 then (spec_l05Reduce.l0 k l1 a2 (List.replicate (a0_0 : Int).toNat 0) (y148 ++ l1) a0_0 l0_1) else (none))) else (none)) else (none)) = some (r1, r2) := h
 clear h
 by_cases c4 : 0 ≤ a0_0
 ·rw [if_pos c4] at H
  have c4b0 := eq_true c4
  have c4b1 : decide (0 ≤ a0_0) = true := decide_eq_true c4
  clear c4
  by_cases c5 : (a0_0 : Int).toNat ≤ 35184372088832
  ·rw [if_pos c5] at H
   have c5b0 := eq_true c5
   have c5b1 : decide ((a0_0 : Int).toNat ≤ 35184372088832) = true := decide_eq_true c5
   clear c5
   obtain ⟨y145, hy145⟩ : ∃ y_ : List Int, y_ = (List.replicate (a0_0 : Int).toNat 0) := ⟨_, rfl⟩
   replace H : ((some (([] : List Int) : List Int)).bind fun y148 => (if y148.length + l1.length < 17592186044416 then (spec_l05Reduce.l0 k l1 a2 y145 (y148 ++ l1) a0_0 l0_1) else (none))) = some (r1, r2) := by first | (rw [hy145]; with_reducible exact H) | (have H2_ := (Option.bind_some _ _).symm.trans H; rw [hy145]; with_reducible exact H2_) | (have H2_ := (Option.bind_some _ _).symm.trans H; with_reducible exact H2_) | with_reducible exact H | (rw [hy145]; exact H) | exact H
   have Ny145 := Aside0.mk hy145
   clear hy145
   obtain ⟨y148, hy148⟩ : ∃ y_ : List Int, y_ = (([] : List Int)) := ⟨_, rfl⟩
   replace H : (if y148.length + l1.length < 17592186044416 then (spec_l05Reduce.l0 k l1 a2 y145 (y148 ++ l1) a0_0 l0_1) else (none)) = some (r1, r2) := by first | (rw [hy148]; with_reducible exact H) | (have H2_ := (Option.bind_some _ _).symm.trans H; rw [hy148]; with_reducible exact H2_) | (have H2_ := (Option.bind_some _ _).symm.trans H; with_reducible exact H2_) | with_reducible exact H | (rw [hy148]; exact H) | exact H
   have Ny148 := Aside0.mk hy148
   clear hy148
   by_cases c6 : y148.length + l1.length < 17592186044416
   ·rw [if_pos c6] at H
    have LMc6 := Aside0.mk c6
    clear c6
    obtain ⟨y151, hy151⟩ : ∃ y_ : List Int, y_ = (y148 ++ l1) := ⟨_, rfl⟩
    replace H : (spec_l05Reduce.l0 k l1 a2 y145 y151 a0_0 l0_1) = some (r1, r2) := by first | (rw [hy151]; with_reducible exact H) | (have H2_ := (Option.bind_some _ _).symm.trans H; rw [hy151]; with_reducible exact H2_) | (have H2_ := (Option.bind_some _ _).symm.trans H; with_reducible exact H2_) | with_reducible exact H | (rw [hy151]; exact H) | exact H
    have Ny151 := Aside0.mk hy151
    clear hy151
    have H' := Aside0.mk H
    clear H
    go_enter Try.func56, Try.ntmps56
    go_wp2_with (first | ((with_reducible refine gate_dst (N := 3) rfl ?_); refine box_event ?hg (N := 3) ?hd (cs := #[.int .i64 a0_0, .slice A0_1 l0_1.length c0_1]) (t := 31) ?hr ?_; (case hd => rfl); (case hg => rfl); (case hr => first | (go_simp; done) | (go_simp; rfl)); intro gb144 hg w7 hbox hb; have BK144 := Aside0.mk (hbox); have GW144 := Aside0.mk ((by rw [hg]; exact (below_size (Lz HB)) : w.heap.size ≤ gb144)); have GE144 := Aside0.mk ((by rw [hg]; exact (below_size (Lz HB)) : w.heap.size ≤ gb144)); replace HB := Aside0.mk (below_step (Lz HB) hb); clear hb hbox hg; have hcz8_0 : w7.cell? ⟨gb144, 0, none⟩ = some (.int .i64 a0_0) := (blk_cell BK144.out 0).trans rfl; have hcz8_1 : w7.cell? ⟨gb144, 1, none⟩ = some (.slice A0_1 l0_1.length c0_1) := (blk_cell BK144.out 1).trans rfl; have hfz8_0 := blk_frozen BK144.out 0; have hfz8_1 := blk_frozen BK144.out 1) | ((with_reducible refine gate_dst (N := 15) rfl ?_); refine Kd.R_make (Kd.int .i64) _ 3 rfl (N := 15) rfl 25 _ _ rfl a0_0 rfl rfl Try.underlying25 (.int .i64 0) 8 info3 rfl (by decide) (by omega) 0 (ok := fun _ => True) (okp := fun _ => True) rfl (fun _ hk => hk) trivial (of_decide_eq_true (by first | (with_reducible assumption) | assumption)) (Nat.le_trans (Nat.mul_le_mul_right _ (of_decide_eq_true (by first | (with_reducible assumption) | assumption) : a0_0.toNat ≤ 35184372088832)) (by omega)) (Below.refl _ _) (Nat.le_refl _) ?_; intro v146 w9 ho10 hb hg_ hnew_; clear hg_ hnew_; (first | rw [← Ny145.out] at ho10 | (simp only [Int.reduceToNat] at ho10; rw [← Ny145.out] at ho10)); have HO147 := Aside0.mk (Kd.R_lower ho10 (below_size (by exact Lz1 HB GE144))); replace BK144 := Aside0.mk (blk_below (g := gb144) (o := .cells #[.int .i64 a0_0, .slice A0_1 l0_1.length c0_1] 31 (0, 0)) (Bz BK144) hb); replace HB := Aside0.mk (below_step (by exact Lz1 HB GE144) hb); clear hb ho10) | ((with_reducible refine gate_dst (N := 16) rfl ?_); refine Kd.R_lit (Kd.int .i64) _ 3 ?hg (N := 16) ?hd (xs := ([] : List Int)) (inner := []) (ok := fun _ => True) (okp := fun _ => True) ?hr ?hp (fun _ hk => hk) trivial (Below.refl _ _) (Nat.le_refl _) (by simp) ?_; (case hd => rfl); (case hg => rfl); (case hr => first | (go_simp; done) | (go_simp; rfl)); (case hp => exact (Reps.none _ _)); intro v149 w11 ho12 hb hg_ hnew_; clear hg_ hnew_; (first | rw [← Ny148.out] at ho12 | (simp only [Int.reduceToNat] at ho12; rw [← Ny148.out] at ho12)); have HO150 := Aside0.mk (Kd.R_lower (Kd.R_new' ho12 (Kd.R_lt (Rz HO147))) (below_size (by exact Lz1 HB GE144))); replace HO147 := Aside0.mk (Kd.R_elder' (Rz HO147) (Kd.R_base ho12) hb); replace BK144 := Aside0.mk (blk_below (g := gb144) (o := .cells #[.int .i64 a0_0, .slice A0_1 l0_1.length c0_1] 31 (0, 0)) (Bz BK144) hb); replace HB := Aside0.mk (below_step (by exact Lz1 HB GE144) hb); clear hb ho12) | ((with_reducible refine gate_builtin (b := .append) (xs := #[.tmp 16, .tmp 17]) rfl ?_); at_builtin; refine Kd.R_append_rows (Kd.int .i64) (w0 := w) w.heap.size rfl (.tmp 16) (.tmp 17) 25 3 (.int .i64 0) 8 rfl Try.underlying25 info3 rfl (by decide) (by omega) v149 y148 l1 _ _ _ (fun k_ => some k_ ≠ (v146 : Value).ownBlock) (fun _ => False) rfl rfl ?aO ?aR (fun _ _ h => h) (fun _ h => h.elim) ?aF ?aB ?aS ?aL ?_; (case aR => exact Cz ((Kd.C_below HR1.out HB.out))); (case aB => exact (by exact Lz1 HB GE144)); (case aF => exact (fun k_ hk => Kd.fresh' (Kd.R_lt (Rz HO147)) k_ hk)); (case aO => exact (by (with_reducible repeat (first | apply Kd.R_alloc | apply Kd.R_drewN | apply Kd.R_drew)); exact Kd.R_mono HO150.out (fun _ hk => hk.2))); (case aS => exact (below_size (by exact Lz1 HB GE144))); (case aL => have := LMc6.out; omega); intro v152 w13 ho hb hg hat; rw [← Ny151.out] at ho; replace BK144 := Aside0.mk (blk_grown (g := gb144) (o := .cells #[.int .i64 a0_0, .slice A0_1 l0_1.length c0_1] 31 (0, 0)) (Bz BK144) hg (Kd.R_ne HO150.out BK144.out (by decide))); replace HO147 := Aside0.mk (Kd.R_after (ok := (fun _ => True)) (Rz HO147) hg hat); replace HB := Aside0.mk (hb); have HO153 := Aside0.mk (ho); clear HO150; clear ho hb hg hat))
    (try simp only [Act.put, List.setIfInBounds_toArray, List.set_cons_zero, List.set_cons_succ])
    go_loopg [9] k (fun kq v9 w' => ∃ (x8_1 : List Int) (x9_1 : List Int), Aside0 (spec_l05Reduce.l0 kq l1 a2 x8_1 x9_1 a0_0 l0_1 = some (r1, r2)) ∧ Aside0 (kq ≤ k) ∧ Aside0 (Kd.R (Kd.int .i64) 3 w' w.heap.size (fun k_ => some k_ ≠ (v9 : Value).ownBlock) v146 x8_1) ∧ Aside0 (Kd.R (Kd.int .i64) 3 w' w.heap.size (fun k_ => some k_ ≠ (v146 : Value).ownBlock) v9 x9_1) ∧ Aside0 (w'.heap[gb144]? = some (.cells #[.int .i64 a0_0, (.slice A0_1 l0_1.length c0_1)] 31 (0, 0))) ∧ Aside0 (Below w.heap.size w w'))
    case atStart => exact ⟨(y145), (y151), H', ⟨Nat.le_refl _⟩, ⟨by (with_reducible repeat (first | apply Kd.R_alloc | apply Kd.R_drewN | apply Kd.R_drew)); exact Kd.R_mono HO147.out (fun _ hk => hk.2)⟩, ⟨by exact Rz HO153⟩, ⟨by exact Bz BK144⟩, ⟨by exact Lz1 HB GE144⟩⟩
    case round =>
     clear H'
     try clear c1
     try clear c4
     try clear c4b0
     try clear c4b1
     try clear c5
     try clear c5b0
     try clear c5b1
     try clear c6
     obtain ⟨x8_1, x9_1, HA, HK1, HO_8, HO_9, BK144, HB⟩ := hrel
     cases gk with
     | zero => exact absurd HA.out (by simp [spec_l05Reduce.l0])
     | succ k1 =>
      have H := HA.out
      clear HA
      simp only [spec_l05Reduce.l0] at H
      replace H := Option.bind_eq_some_iff.mp H
      obtain ⟨t154, A140, H⟩ := H
      replace H : (if t154 = true then (spec_l05Reduce.l1 k1 l1 a2 x8_1 x9_1 (x9_1.length : Int) 0 a0_0 l0_1) else (spec_l05Reduce.l2 k1 l1 a2 x8_1 x9_1 a0_0 l0_1)) = some (r1, r2) := H
      have A14 := Aside0.mk A140
      clear A140
      by_cases c15 : t154 = true
      ·subst c15
       have H1 : (spec_l05Reduce.l1 k1 l1 a2 x8_1 x9_1 (x9_1.length : Int) 0 a0_0 l0_1) = some (r1, r2) := by rw [if_pos rfl] at H; exact H
       clear H
       have H := H1
       clear H1
       have H' := Aside0.mk H
       clear H
       obtain ⟨Ao16, co16, eo16⟩ := Kd.R_slice HO_9.out
       subst eo16
       go_wp2_with (first | ((with_reducible refine gate_callee (f := 95) rfl ?_); refine goesM_ (some 21) rfl rfl Try.func95 (by kernel_rfl) rfl #[.slice Ao16 x9_1.length co16, .int .i64 a2] rfl ?_; (with_reducible refine (spec_l05Debt.calls k1 _ _ x9_1 a2 true _ ?side1 ?side2 A14.out).mono ?_); (case side1 => exact Cz ((Kd.R_reads' HO_9.out).2.2)); (case side2 => exact (Kd.R_reads' HO_9.out).2.1); rintro e w' ⟨rfl, ⟨nd, rfl⟩⟩; refine ⟨_, rfl, ?_⟩))
       (try simp only [Act.put, List.setIfInBounds_toArray, List.set_cons_zero, List.set_cons_succ])
       go_loopg [9, 24] k1 (fun kq v9 v24 w' => ∃ (x8_2 : List Int) (x9_2 : List Int) (x24_2 : Int), v24 = .int .i64 x24_2 ∧ Aside0 (spec_l05Reduce.l1 kq l1 a2 x8_2 x9_2 (x9_1.length : Int) x24_2 a0_0 l0_1 = some (r1, r2)) ∧ Aside0 (kq ≤ k1) ∧ Aside0 (Kd.R (Kd.int .i64) 3 w' w.heap.size (fun k_ => some k_ ≠ (v9 : Value).ownBlock) v146 x8_2) ∧ Aside0 (Kd.R (Kd.int .i64) 3 w' w.heap.size (fun k_ => some k_ ≠ (v146 : Value).ownBlock) v9 x9_2) ∧ Aside0 (w'.heap[gb144]? = some (.cells #[.int .i64 a0_0, (.slice A0_1 l0_1.length c0_1)] 31 (0, 0))) ∧ Aside0 (Below w.heap.size w w'))
       case atStart => exact ⟨(x8_1), (x9_1), (0), (by first | rfl | (simp; done) | (simp [*]; done)), H', ⟨Nat.le_refl _⟩, ⟨by exact Rz HO_8⟩, ⟨by exact Rz HO_9⟩, ⟨by exact Bz BK144⟩, ⟨by exact Lz1 HB GE144⟩⟩
       case round =>
        clear H'
        try clear c1
        try clear c4
        try clear c4b0
        try clear c4b1
        try clear c5
        try clear c5b0
        try clear c5b1
        try clear c6
        try clear c15
        obtain ⟨x8_2, x9_2, x24_2, rfl, HA, HK2, HO_8, HO_9, BK144, HB⟩ := hrel
        cases gk with
        | zero => exact absurd HA.out (by simp [spec_l05Reduce.l1])
        | succ k2 =>
         have H := HA.out
         clear HA
         simp only [spec_l05Reduce.l1] at H
         by_cases c17 : x24_2 < (x9_1.length : Int)
         ·rw [if_pos c17] at H
          have c17b0 : decide (x24_2 < (x9_1.length : Int)) = true := decide_eq_true c17
          clear c17
          by_cases c18 : x24_2 = a2
          ·rw [if_pos c18] at H
           have c18b0 : (x24_2 == a2) = true := beq_iff_eq.mpr c18
           have c18b1 : (x24_2 != a2) = false := bne_eq_false_iff_eq.mpr c18
           clear c18
           have H' := Aside0.mk H
           clear H
           go_wp2
           go_roundg k2
           case measure => have := HK1.out; have := HK2.out; omega
           case rel => exact ⟨(x8_2), (x9_2), (wrap64 (x24_2 + 1)), (by first | rfl | (simp; done) | (simp [*]; done)), H', ⟨by have := HK1.out; have := HK2.out; omega⟩, ⟨by exact Rz HO_8⟩, ⟨by exact Rz HO_9⟩, ⟨by exact Bz BK144⟩, ⟨by exact Lz1 HB GE144⟩⟩
          rw [if_neg c18] at H
          have c18b0 : (x24_2 == a2) = false := beq_eq_false_iff_ne.mpr c18
          have c18b1 : (x24_2 != a2) = true := bne_iff_ne.mpr c18
          by_cases c19 : 0 ≤ x24_2
          ·rw [if_pos c19] at H
           have c19b0 : decide (0 ≤ x24_2) = true := decide_eq_true c19
           clear c19
           by_cases c20 : x24_2 < (x9_2.length : Int)
           ·rw [if_pos c20] at H
            have c20b0 : decide (x24_2 < (x9_2.length : Int)) = true := decide_eq_true c20
            clear c20
            by_cases c21 : (rd x9_2 x24_2) < 0
            ·rw [if_pos c21] at H
             have c21b0 : decide ((rd x9_2 x24_2) < 0) = true := decide_eq_true c21
             clear c21
             by_cases c22 : x24_2 < (x8_2.length : Int)
             ·rw [if_pos c22] at H
              have c22b0 : decide (x24_2 < (x8_2.length : Int)) = true := decide_eq_true c22
              clear c22
              obtain ⟨y157, hy157⟩ : ∃ y_ : List Int, y_ = (x8_2.set (x24_2 : Int).toNat (wrap64 ((rd x8_2 x24_2) - 1))) := ⟨_, rfl⟩
              replace H : ((spec_l04Fire.f k2 a0_0 l0_1 l1 y157).bind fun t158 => (spec_l05Reduce.l1 k2 l1 a2 y157 t158 (x9_1.length : Int) (wrap64 (x24_2 + 1)) a0_0 l0_1)) = some (r1, r2) := by first | (rw [hy157]; with_reducible exact H) | (have H2_ := (Option.bind_some _ _).symm.trans H; rw [hy157]; with_reducible exact H2_) | (have H2_ := (Option.bind_some _ _).symm.trans H; with_reducible exact H2_) | with_reducible exact H | (rw [hy157]; exact H) | exact H
              have Ny157 := Aside0.mk hy157
              clear hy157
              replace H := Option.bind_eq_some_iff.mp H
              obtain ⟨t158, A240, H⟩ := H
              replace H : (spec_l05Reduce.l1 k2 l1 a2 y157 t158 (x9_1.length : Int) (wrap64 (x24_2 + 1)) a0_0 l0_1) = some (r1, r2) := H
              have A24 := Aside0.mk A240
              clear A240
              have H' := Aside0.mk H
              clear H
              obtain ⟨Ao25, co25, eo25⟩ := Kd.R_slice HO_9.out
              subst eo25
              have p155 : 0 ≤ (x24_2 : Int) := of_decide_eq_true (by first | (with_reducible assumption) | assumption)
              have q155 : x24_2 < (x9_2.length : Int) := of_decide_eq_true (by first | (with_reducible assumption) | assumption)
              obtain ⟨ad155, e155, hx155_0⟩ := Kd.at_int (Kd.R_reads' HO_9.out).2.2 x24_2 p155 q155
              cases e155
              replace p155 := eq_true p155
              replace q155 := eq_true q155
              obtain ⟨Ao26, co26, eo26⟩ := Kd.R_slice HO_8.out
              subst eo26
              have p156 : 0 ≤ (x24_2 : Int) := of_decide_eq_true (by first | (with_reducible assumption) | assumption)
              have q156 : x24_2 < (x8_2.length : Int) := of_decide_eq_true (by first | (with_reducible assumption) | assumption)
              obtain ⟨ad156, e156, hx156_0⟩ := Kd.at_int (Kd.R_reads' HO_8.out).2.2 x24_2 p156 q156
              cases e156
              replace p156 := eq_true p156
              replace q156 := eq_true q156
              have p23 : 0 ≤ (x24_2 : Int) := of_decide_eq_true (by first | (with_reducible assumption) | assumption)
              have q23 : (x24_2 : Int) < ((x8_2.length : Int) : Int) := of_decide_eq_true (by first | (with_reducible assumption) | assumption)
              obtain ⟨go23, co23, eo23, gb23, gl23, cl23, HG23⟩ := Kd.R_form HO_8.out (by omega)
              (first | cases eo23 | (injection eo23 with ea_ en_ ec_; (first | subst ea_ | (injection ea_ with ea_; subst ea_)); subst ec_; clear en_))
              have GB23 := Aside0.mk gb23
              have GG23 := Aside0.mk HG23
              clear gb23 gl23 HG23
              (first | simp only [add_plain] at hx156_0 | skip)
              obtain ⟨hx23_0, hf23_0⟩ := Kd.R_celln 0 HO_8.out (x24_2 : Int) p23 q23
              replace p23 := eq_true p23
              replace q23 := eq_true q23
              have HP27 := Kd.R_putg HO_8.out (x24_2 : Int) (wrap64 ((rd x8_2 x24_2) - 1))
              go_wp2_with (first | ((with_reducible refine gate_store (t := 3) (p := 42) rfl ?_); refine store_event (t := 3) (p := 42) (v := ?vo_w28) (w1 := (wr.setCell ⟨go23, (x24_2 : Int).toNat, none⟩ (.int .i64 (wrap64 ((rd x8_2 x24_2) - 1))))) ?hg ?ho ?hn ?hr ?_; (case ho => rfl); (case hg => rfl); (case hn => rfl); (case hr => first | (go_simp; done) | (go_simp; rfl)); intro w28 hw; have hg : wr.grownBy w28 (some go23) := (by rw [hw]; exact HP27.2); have hp_ : Kd.R (Kd.int .i64) 3 w28 w.heap.size (fun k_ => some k_ ≠ (.slice (some ad155) x9_2.length co25 : Value).ownBlock) (.slice (some ⟨go23, 0, none⟩) x8_2.length co26) y157 := (by rw [hw, Ny157.out]; exact HP27.1); clear HP27; replace HO_9 := Aside0.mk (Kd.R_after (v := (.slice (some ⟨go23, 0, none⟩) x8_2.length co26)) (v1 := (.slice (some ⟨go23, 0, none⟩) x8_2.length co26)) (ok := (fun _ => True)) (by (with_reducible repeat (first | apply Kd.R_alloc | apply Kd.R_drewN | apply Kd.R_drew)); exact Kd.R_mono HO_9.out (fun _ hk => ⟨trivial, hk⟩)) hg (.inl rfl)); replace BK144 := Aside0.mk (blk_grown (g := gb144) (o := .cells #[.int .i64 a0_0, .slice A0_1 l0_1.length c0_1] 31 (0, 0)) (Bz BK144) hg (Kd.R_ne HO_8.out BK144.out (by decide))); replace HO_8 := Aside0.mk (hp_); replace HB := Aside0.mk ((by rw [hw]; exact below_set (HB.out) GB23.out : Below w.heap.size w w28)); clear hg hw hp_; have hcz29_0 : w28.cell? ⟨gb144, 0, none⟩ = some (.int .i64 a0_0) := (blk_cell BK144.out 0).trans rfl; have hcz29_1 : w28.cell? ⟨gb144, 1, none⟩ = some (.slice A0_1 l0_1.length c0_1) := (blk_cell BK144.out 1).trans rfl; have hfz29_0 := blk_frozen BK144.out 0; have hfz29_1 := blk_frozen BK144.out 1) | ((with_reducible refine gate_callee (f := 96) rfl ?_); refine goesL_ (some 46) rfl rfl Try.func96 (by kernel_rfl) rfl #[.agg #[.int .i64 a0_0, .slice A0_1 l0_1.length c0_1], .slice A1 l1.length c1, .slice (some ⟨go23, 0, none⟩) y157.length co26] rfl (by (try simp only [List.map_toArray, List.map_cons, List.map_nil]); first | done | (rw [show y157.length = x8_2.length from (Kd.R_reads' HO_8.out).1.symm] <;> rfl) | rfl | (simp only [List.length_drop, List.length_take]; rfl)) ?_; (with_reducible refine (spec_l04Fire.calls k2 a0_0 _ _ l0_1 _ _ l1 _ _ y157 t158 _ ?side1 ?side2 ?side3 ?side4 ?side5 ?side6 A24.out).mono ?_); (case side1 => exact Cz ((Kd.C_below HR0_1.out HB.out))); (case side2 => exact HC0_1.out); (case side3 => exact Cz ((Kd.C_below HR1.out HB.out))); (case side4 => exact HC1.out); (case side5 => exact Cz ((Kd.R_reads' HO_8.out).2.2)); (case side6 => rw [show y157.length = x8_2.length from (Kd.R_reads' HO_8.out).1.symm]; exact (Kd.R_reads' HO_8.out).2.1); rintro e w30 ⟨v159, rfl, ho0, hb⟩; refine ⟨_, rfl, ?_⟩; have HO160 := Aside0.mk (Kd.R_lower (Kd.R_new' (Kd.R_new' ho0 (Kd.R_lt (Rz HO_8))) (Kd.R_lt (Rz HO_9))) (below_size (by exact Lz1 HB GE144))); replace HO_8 := Aside0.mk (Kd.R_elder' (Rz HO_8) (Kd.R_base ho0) hb); replace HO_9 := Aside0.mk (Kd.R_elder' (Rz HO_9) (Kd.R_base ho0) hb); replace BK144 := Aside0.mk (blk_below (g := gb144) (o := .cells #[.int .i64 a0_0, .slice A0_1 l0_1.length c0_1] 31 (0, 0)) (Bz BK144) hb); replace HB := Aside0.mk (below_step (by exact Lz1 HB GE144) hb); (try clear hb); (try clear ho0)))
              go_roundg k2
              case measure => have := HK1.out; have := HK2.out; omega
              case rel => exact ⟨(y157), (t158), (wrap64 (x24_2 + 1)), (by first | rfl | (simp; done) | (simp [*]; done)), H', ⟨by have := HK1.out; have := HK2.out; omega⟩, ⟨by (with_reducible repeat (first | apply Kd.R_alloc | apply Kd.R_drewN | apply Kd.R_drew)); exact Kd.R_mono HO_8.out (fun _ hk => hk.2)⟩, ⟨by (with_reducible repeat (first | apply Kd.R_alloc | apply Kd.R_drewN | apply Kd.R_drew)); exact Kd.R_mono HO160.out (fun _ hk => hk.1.2)⟩, ⟨by exact Bz BK144⟩, ⟨by exact Lz1 HB GE144⟩⟩
             rw [if_neg c22] at H
             exact absurd H (by simp)
            rw [if_neg c21] at H
            have c21b0 : decide ((rd x9_2 x24_2) < 0) = false := decide_eq_false c21
            clear c21
            have H' := Aside0.mk H
            clear H
            obtain ⟨Ao31, co31, eo31⟩ := Kd.R_slice HO_9.out
            subst eo31
            have p155 : 0 ≤ (x24_2 : Int) := of_decide_eq_true (by first | (with_reducible assumption) | assumption)
            have q155 : x24_2 < (x9_2.length : Int) := of_decide_eq_true (by first | (with_reducible assumption) | assumption)
            obtain ⟨ad155, e155, hx155_0⟩ := Kd.at_int (Kd.R_reads' HO_9.out).2.2 x24_2 p155 q155
            cases e155
            replace p155 := eq_true p155
            replace q155 := eq_true q155
            go_wp2
            go_roundg k2
            case measure => have := HK1.out; have := HK2.out; omega
            case rel => exact ⟨(x8_2), (x9_2), (wrap64 (x24_2 + 1)), (by first | rfl | (simp; done) | (simp [*]; done)), H', ⟨by have := HK1.out; have := HK2.out; omega⟩, ⟨by exact Rz HO_8⟩, ⟨by exact Rz HO_9⟩, ⟨by exact Bz BK144⟩, ⟨by exact Lz1 HB GE144⟩⟩
           rw [if_neg c20] at H
           exact absurd H (by simp)
          rw [if_neg c19] at H
          exact absurd H (by simp)
         rw [if_neg c17] at H
         have c17b0 : decide (x24_2 < (x9_1.length : Int)) = false := decide_eq_false c17
         clear c17
         have H' := Aside0.mk H
         clear H
         go_wp2
         go_roundg k2
         case measure => have := HK1.out; have := HK2.out; omega
         case rel => exact ⟨(x8_2), (x9_2), H', ⟨by have := HK1.out; have := HK2.out; omega⟩, ⟨by exact Rz HO_8⟩, ⟨by exact Rz HO_9⟩, ⟨by exact Bz BK144⟩, ⟨by exact Lz1 HB GE144⟩⟩
      replace c15 := Bool.eq_false_iff.mpr c15
      subst c15
      have H1 : (spec_l05Reduce.l2 k1 l1 a2 x8_1 x9_1 a0_0 l0_1) = some (r1, r2) := by rw [if_neg (show ¬ (false = true) by decide)] at H; exact H
      clear H
      have H := H1
      clear H1
      have H' := Aside0.mk H
      clear H
      obtain ⟨Ao32, co32, eo32⟩ := Kd.R_slice HO_9.out
      subst eo32
      go_wp2_with (first | ((with_reducible refine gate_callee (f := 95) rfl ?_); refine goesM_ (some 21) rfl rfl Try.func95 (by kernel_rfl) rfl #[.slice Ao32 x9_1.length co32, .int .i64 a2] rfl ?_; (with_reducible refine (spec_l05Debt.calls k1 _ _ x9_1 a2 false _ ?side1 ?side2 A14.out).mono ?_); (case side1 => exact Cz ((Kd.R_reads' HO_9.out).2.2)); (case side2 => exact (Kd.R_reads' HO_9.out).2.1); rintro e w' ⟨rfl, ⟨nd, rfl⟩⟩; refine ⟨_, rfl, ?_⟩))
      (try simp only [Act.put, List.setIfInBounds_toArray, List.set_cons_zero, List.set_cons_succ])
      go_loopg [9] k1 (fun kq v9 w' => ∃ (x8_2 : List Int) (x9_2 : List Int), Aside0 (spec_l05Reduce.l2 kq l1 a2 x8_2 x9_2 a0_0 l0_1 = some (r1, r2)) ∧ Aside0 (kq ≤ k1) ∧ Aside0 (Kd.R (Kd.int .i64) 3 w' w.heap.size (fun k_ => some k_ ≠ (v9 : Value).ownBlock) v146 x8_2) ∧ Aside0 (Kd.R (Kd.int .i64) 3 w' w.heap.size (fun k_ => some k_ ≠ (v146 : Value).ownBlock) v9 x9_2) ∧ Aside0 (w'.heap[gb144]? = some (.cells #[.int .i64 a0_0, (.slice A0_1 l0_1.length c0_1)] 31 (0, 0))) ∧ Aside0 (Below w.heap.size w w'))
      case atStart => exact ⟨(x8_1), (x9_1), H', ⟨Nat.le_refl _⟩, ⟨by exact Rz HO_8⟩, ⟨by exact Rz HO_9⟩, ⟨by exact Bz BK144⟩, ⟨by exact Lz1 HB GE144⟩⟩
      case round =>
       clear H'
       try clear c1
       try clear c4
       try clear c4b0
       try clear c4b1
       try clear c5
       try clear c5b0
       try clear c5b1
       try clear c6
       try clear c15
       try clear c17
       try clear c17b0
       try clear c18
       try clear c18b0
       try clear c18b1
       try clear c19
       try clear c19b0
       try clear c20
       try clear c20b0
       try clear c21
       try clear c21b0
       try clear c22
       try clear c22b0
       try clear p23
       try clear q23
       try clear p155
       try clear p156
       try clear p23
       try clear q155
       try clear q156
       try clear q23
       obtain ⟨x8_2, x9_2, HA, HK2, HO_8, HO_9, BK144, HB⟩ := hrel
       cases gk with
       | zero => exact absurd HA.out (by simp [spec_l05Reduce.l2])
       | succ k2 =>
        have H := HA.out
        clear HA
        simp only [spec_l05Reduce.l2] at H
        replace H := Option.bind_eq_some_iff.mp H
        obtain ⟨t161, A330, H⟩ := H
        replace H : (if (t161.length : Int) = a0_0 then (some (x9_2, x8_2)) else (spec_l05Reduce.l3 k2 l1 a2 x8_2 t161 0 a0_0 l0_1)) = some (r1, r2) := H
        have A33 := Aside0.mk A330
        clear A330
        by_cases c34 : (t161.length : Int) = a0_0
        ·rw [if_pos c34] at H
         have c34b0 : ((t161.length : Int) == a0_0) = true := beq_iff_eq.mpr c34
         have c34b1 : ((t161.length : Int) != a0_0) = false := bne_eq_false_iff_eq.mpr c34
         clear c34
         simp only [Option.some.injEq, Prod.mk.injEq] at H
         obtain ⟨rfl, rfl⟩ := H
         have hcz35_0 : wr.cell? ⟨gb144, 0, none⟩ = some (.int .i64 a0_0) := (blk_cell BK144.out 0).trans rfl
         have hcz35_1 : wr.cell? ⟨gb144, 1, none⟩ = some (.slice A0_1 l0_1.length c0_1) := (blk_cell BK144.out 1).trans rfl
         have hfz35_0 := blk_frozen BK144.out 0
         have hfz35_1 := blk_frozen BK144.out 1
         obtain ⟨Ao36, co36, eo36⟩ := Kd.R_slice HO_9.out
         subst eo36
         go_wp2_with (first | ((with_reducible refine gate_callee (f := 97) rfl ?_); refine goesM_ (some 51) rfl rfl Try.func97 (by kernel_rfl) rfl #[.agg #[.int .i64 a0_0, .slice A0_1 l0_1.length c0_1], .slice Ao36 x9_2.length co36, .int .i64 a2] rfl ?_; (with_reducible refine (spec_l05Burn.calls k2 a0_0 _ _ l0_1 _ _ x9_2 a2 t161 _ ?side1 ?side2 ?side3 ?side4 A33.out).mono ?_); (case side1 => exact Cz ((Kd.C_below HR0_1.out HB.out))); (case side2 => exact HC0_1.out); (case side3 => exact Cz ((Kd.R_reads' HO_9.out).2.2)); (case side4 => exact (Kd.R_reads' HO_9.out).2.1); rintro e w37 ⟨v162, rfl, ho0, hb⟩; refine ⟨_, rfl, ?_⟩; have HO163 := Aside0.mk (Kd.R_lower (Kd.R_new' (Kd.R_new' ho0 (Kd.R_lt (Rz HO_8))) (Kd.R_lt (Rz HO_9))) (below_size (by exact Lz1 HB GE144))); replace HO_8 := Aside0.mk (Kd.R_elder' (Rz HO_8) (Kd.R_base ho0) hb); replace HO_9 := Aside0.mk (Kd.R_elder' (Rz HO_9) (Kd.R_base ho0) hb); replace BK144 := Aside0.mk (blk_below (g := gb144) (o := .cells #[.int .i64 a0_0, .slice A0_1 l0_1.length c0_1] 31 (0, 0)) (Bz BK144) hb); replace HB := Aside0.mk (below_step (by exact Lz1 HB GE144) hb); (try clear hb); (try clear ho0); obtain ⟨Ao38, co38, eo38⟩ := Kd.R_slice HO163.out; subst eo38; have hcz39_0 : w37.cell? ⟨gb144, 0, none⟩ = some (.int .i64 a0_0) := (blk_cell BK144.out 0).trans rfl; have hcz39_1 : w37.cell? ⟨gb144, 1, none⟩ = some (.slice A0_1 l0_1.length c0_1) := (blk_cell BK144.out 1).trans rfl; have hfz39_0 := blk_frozen BK144.out 0; have hfz39_1 := blk_frozen BK144.out 1))
         go_ret2
         exact ⟨_, _, by first | rfl | (simp [errW_none, errW_some] <;> rfl) | (simp [*, errW_none, errW_some] <;> rfl), by (with_reducible repeat (first | apply Kd.R_alloc | apply Kd.R_drewN | apply Kd.R_drew)); exact Kd.R_mono HO_9.out (fun _ hk => hk.1), by (with_reducible repeat (first | apply Kd.R_alloc | apply Kd.R_drewN | apply Kd.R_drew)); exact Kd.R_mono HO_8.out (fun _ hk => hk.1), by exact Lz1 HB GE144⟩
        rw [if_neg c34] at H
        have c34b0 : ((t161.length : Int) == a0_0) = false := beq_eq_false_iff_ne.mpr c34
        have c34b1 : ((t161.length : Int) != a0_0) = true := bne_iff_ne.mpr c34
        have H' := Aside0.mk H
        clear H
        have hcz40_0 : wr.cell? ⟨gb144, 0, none⟩ = some (.int .i64 a0_0) := (blk_cell BK144.out 0).trans rfl
        have hcz40_1 : wr.cell? ⟨gb144, 1, none⟩ = some (.slice A0_1 l0_1.length c0_1) := (blk_cell BK144.out 1).trans rfl
        have hfz40_0 := blk_frozen BK144.out 0
        have hfz40_1 := blk_frozen BK144.out 1
        obtain ⟨Ao41, co41, eo41⟩ := Kd.R_slice HO_9.out
        subst eo41
        go_wp2_with (first | ((with_reducible refine gate_callee (f := 97) rfl ?_); refine goesM_ (some 51) rfl rfl Try.func97 (by kernel_rfl) rfl #[.agg #[.int .i64 a0_0, .slice A0_1 l0_1.length c0_1], .slice Ao41 x9_2.length co41, .int .i64 a2] rfl ?_; (with_reducible refine (spec_l05Burn.calls k2 a0_0 _ _ l0_1 _ _ x9_2 a2 t161 _ ?side1 ?side2 ?side3 ?side4 A33.out).mono ?_); (case side1 => exact Cz ((Kd.C_below HR0_1.out HB.out))); (case side2 => exact HC0_1.out); (case side3 => exact Cz ((Kd.R_reads' HO_9.out).2.2)); (case side4 => exact (Kd.R_reads' HO_9.out).2.1); rintro e w42 ⟨v162, rfl, ho0, hb⟩; refine ⟨_, rfl, ?_⟩; have HO163 := Aside0.mk (Kd.R_lower (Kd.R_new' (Kd.R_new' ho0 (Kd.R_lt (Rz HO_8))) (Kd.R_lt (Rz HO_9))) (below_size (by exact Lz1 HB GE144))); replace HO_8 := Aside0.mk (Kd.R_elder' (Rz HO_8) (Kd.R_base ho0) hb); replace HO_9 := Aside0.mk (Kd.R_elder' (Rz HO_9) (Kd.R_base ho0) hb); replace BK144 := Aside0.mk (blk_below (g := gb144) (o := .cells #[.int .i64 a0_0, .slice A0_1 l0_1.length c0_1] 31 (0, 0)) (Bz BK144) hb); replace HB := Aside0.mk (below_step (by exact Lz1 HB GE144) hb); (try clear hb); (try clear ho0); obtain ⟨Ao43, co43, eo43⟩ := Kd.R_slice HO163.out; subst eo43; have hcz44_0 : w42.cell? ⟨gb144, 0, none⟩ = some (.int .i64 a0_0) := (blk_cell BK144.out 0).trans rfl; have hcz44_1 : w42.cell? ⟨gb144, 1, none⟩ = some (.slice A0_1 l0_1.length c0_1) := (blk_cell BK144.out 1).trans rfl; have hfz44_0 := blk_frozen BK144.out 0; have hfz44_1 := blk_frozen BK144.out 1))
        (try simp only [Act.put, List.setIfInBounds_toArray, List.set_cons_zero, List.set_cons_succ])
        go_loopg [12] k2 (fun kq v12 w' => ∃ (x8_3 : List Int) (x12_3 : Int), v12 = .int .i64 x12_3 ∧ Aside0 (spec_l05Reduce.l3 kq l1 a2 x8_3 t161 x12_3 a0_0 l0_1 = some (r1, r2)) ∧ Aside0 (kq ≤ k2) ∧ Aside0 (Kd.R (Kd.int .i64) 3 w' w.heap.size (fun k_ => some k_ ≠ ((.slice Ao43 t161.length co43) : Value).ownBlock) v146 x8_3) ∧ Aside0 (Kd.R (Kd.int .i64) 3 w' w.heap.size (fun k_ => some k_ ≠ (v146 : Value).ownBlock) (.slice Ao43 t161.length co43) t161) ∧ Aside0 (w'.heap[gb144]? = some (.cells #[.int .i64 a0_0, (.slice A0_1 l0_1.length c0_1)] 31 (0, 0))) ∧ Aside0 (Below w.heap.size w w'))
        case atStart => exact ⟨(x8_2), (0), (by first | rfl | (simp; done) | (simp [*]; done)), H', ⟨Nat.le_refl _⟩, ⟨by (with_reducible repeat (first | apply Kd.R_alloc | apply Kd.R_drewN | apply Kd.R_drew)); exact Kd.R_mono HO_8.out (fun _ hk => hk.2)⟩, ⟨by (with_reducible repeat (first | apply Kd.R_alloc | apply Kd.R_drewN | apply Kd.R_drew)); exact Kd.R_mono HO163.out (fun _ hk => hk.1.2)⟩, ⟨by exact Bz BK144⟩, ⟨by exact Lz1 HB GE144⟩⟩
        case round =>
         clear H'
         try clear c1
         try clear c4
         try clear c4b0
         try clear c4b1
         try clear c5
         try clear c5b0
         try clear c5b1
         try clear c6
         try clear c15
         try clear c17
         try clear c17b0
         try clear c18
         try clear c18b0
         try clear c18b1
         try clear c19
         try clear c19b0
         try clear c20
         try clear c20b0
         try clear c21
         try clear c21b0
         try clear c22
         try clear c22b0
         try clear p23
         try clear q23
         try clear c34
         try clear c34b0
         try clear c34b1
         try clear p155
         try clear p156
         try clear p23
         try clear q155
         try clear q156
         try clear q23
         obtain ⟨x8_3, x12_3, rfl, HA, HK3, HO_8, HO_11, BK144, HB⟩ := hrel
         cases gk with
         | zero => exact absurd HA.out (by simp [spec_l05Reduce.l3])
         | succ k3 =>
          have H := HA.out
          clear HA
          simp only [spec_l05Reduce.l3] at H
          by_cases c45 : x12_3 < a0_0
          ·rw [if_pos c45] at H
           have c45b0 : decide (x12_3 < a0_0) = true := decide_eq_true c45
           clear c45
           replace H := Option.bind_eq_some_iff.mp H
           obtain ⟨t167, A460, H⟩ := H
           replace H : (if t167 = true then (spec_l05Reduce.l3 k3 l1 a2 x8_3 t161 (wrap64 (x12_3 + 1)) a0_0 l0_1) else (if 0 ≤ x12_3 then (if x12_3 < (x8_3.length : Int) then (spec_l05Reduce.l3 k3 l1 a2 (x8_3.set (x12_3 : Int).toNat (wrap64 ((rd x8_3 x12_3) + 1))) t161 (wrap64 (x12_3 + 1)) a0_0 l0_1) else (none)) else (none))) = some (r1, r2) := H
           have A46 := Aside0.mk A460
           clear A460
           by_cases c47 : t167 = true
           ·subst c47
            have H1 : (spec_l05Reduce.l3 k3 l1 a2 x8_3 t161 (wrap64 (x12_3 + 1)) a0_0 l0_1) = some (r1, r2) := by rw [if_pos rfl] at H; exact H
            clear H
            have H := H1
            clear H1
            have H' := Aside0.mk H
            clear H
            have hcz48_0 : wr.cell? ⟨gb144, 0, none⟩ = some (.int .i64 a0_0) := (blk_cell BK144.out 0).trans rfl
            have hcz48_1 : wr.cell? ⟨gb144, 1, none⟩ = some (.slice A0_1 l0_1.length c0_1) := (blk_cell BK144.out 1).trans rfl
            have hfz48_0 := blk_frozen BK144.out 0
            have hfz48_1 := blk_frozen BK144.out 1
            go_wp2_with (first | ((with_reducible refine gate_callee (f := 98) rfl ?_); refine goesM_ (some 67) rfl rfl Try.func98 (by kernel_rfl) rfl #[.slice Ao43 t161.length co43, .int .i64 x12_3] rfl ?_; (with_reducible refine (spec_l02Has.calls k3 _ _ t161 x12_3 true _ ?side1 ?side2 A46.out).mono ?_); (case side1 => exact Cz ((Kd.R_reads' HO_11.out).2.2)); (case side2 => exact (Kd.R_reads' HO_11.out).2.1); rintro e w' ⟨rfl, ⟨nd, rfl⟩⟩; refine ⟨_, rfl, ?_⟩))
            go_roundg k3
            case measure => have := HK1.out; have := HK2.out; have := HK3.out; omega
            case rel => exact ⟨(x8_3), (wrap64 (x12_3 + 1)), (by first | rfl | (simp; done) | (simp [*]; done)), H', ⟨by have := HK1.out; have := HK2.out; have := HK3.out; omega⟩, ⟨by exact Rz HO_8⟩, ⟨by exact Rz HO_11⟩, ⟨by exact Bz BK144⟩, ⟨by exact Lz1 HB GE144⟩⟩
           replace c47 := Bool.eq_false_iff.mpr c47
           subst c47
           have H1 : (if 0 ≤ x12_3 then (if x12_3 < (x8_3.length : Int) then (spec_l05Reduce.l3 k3 l1 a2 (x8_3.set (x12_3 : Int).toNat (wrap64 ((rd x8_3 x12_3) + 1))) t161 (wrap64 (x12_3 + 1)) a0_0 l0_1) else (none)) else (none)) = some (r1, r2) := by rw [if_neg (show ¬ (false = true) by decide)] at H; exact H
           clear H
           have H := H1
           clear H1
           by_cases c49 : 0 ≤ x12_3
           ·rw [if_pos c49] at H
            have c49b0 : decide (0 ≤ x12_3) = true := decide_eq_true c49
            clear c49
            by_cases c50 : x12_3 < (x8_3.length : Int)
            ·rw [if_pos c50] at H
             have c50b0 : decide (x12_3 < (x8_3.length : Int)) = true := decide_eq_true c50
             clear c50
             obtain ⟨y169, hy169⟩ : ∃ y_ : List Int, y_ = (x8_3.set (x12_3 : Int).toNat (wrap64 ((rd x8_3 x12_3) + 1))) := ⟨_, rfl⟩
             replace H : (spec_l05Reduce.l3 k3 l1 a2 y169 t161 (wrap64 (x12_3 + 1)) a0_0 l0_1) = some (r1, r2) := by first | (rw [hy169]; with_reducible exact H) | (have H2_ := (Option.bind_some _ _).symm.trans H; rw [hy169]; with_reducible exact H2_) | (have H2_ := (Option.bind_some _ _).symm.trans H; with_reducible exact H2_) | with_reducible exact H | (rw [hy169]; exact H) | exact H
             have Ny169 := Aside0.mk hy169
             clear hy169
             have H' := Aside0.mk H
             clear H
             have hcz52_0 : wr.cell? ⟨gb144, 0, none⟩ = some (.int .i64 a0_0) := (blk_cell BK144.out 0).trans rfl
             have hcz52_1 : wr.cell? ⟨gb144, 1, none⟩ = some (.slice A0_1 l0_1.length c0_1) := (blk_cell BK144.out 1).trans rfl
             have hfz52_0 := blk_frozen BK144.out 0
             have hfz52_1 := blk_frozen BK144.out 1
             go_wp2_with (first | ((with_reducible refine gate_callee (f := 98) rfl ?_); refine goesM_ (some 67) rfl rfl Try.func98 (by kernel_rfl) rfl #[.slice Ao43 t161.length co43, .int .i64 x12_3] rfl ?_; (with_reducible refine (spec_l02Has.calls k3 _ _ t161 x12_3 false _ ?side1 ?side2 A46.out).mono ?_); (case side1 => exact Cz ((Kd.R_reads' HO_11.out).2.2)); (case side2 => exact (Kd.R_reads' HO_11.out).2.1); rintro e w' ⟨rfl, ⟨nd, rfl⟩⟩; refine ⟨_, rfl, ?_⟩; (try (rw [drewN_self wr]; generalize hq_ : World.drewN wr _ = wr; have n0_ : Aside0 (Kd.R (Kd.int .i64) 3 wr w.heap.size (fun k_ => some k_ ≠ (v146 : Value).ownBlock) (.slice Ao43 t161.length co43) t161) := ⟨by rw [← hq_]; exact (Rz HO_11)⟩; have n1_ : Aside0 (Kd.R (Kd.int .i64) 3 wr w.heap.size (fun k_ => some k_ ≠ (.slice Ao43 t161.length co43 : Value).ownBlock) v146 x8_3) := ⟨by rw [← hq_]; exact (Rz HO_8)⟩; have n2_ : Aside0 (wr.heap[gb144]? = some (.cells #[.int .i64 a0_0, .slice A0_1 l0_1.length c0_1] 31 (0, 0))) := ⟨by rw [← hq_]; exact (Bz BK144)⟩; have n3_ : Aside0 (Below w.heap.size w wr) := ⟨by rw [← hq_]; exact (by exact Lz1 HB GE144)⟩; clear HO_11 HO_8 BK144 HB hq_; have HO_11 := n0_; have HO_8 := n1_; have BK144 := n2_; have HB := n3_; clear n0_ n1_ n2_ n3_)); obtain ⟨Ao53, co53, eo53⟩ := Kd.R_slice HO_8.out; subst eo53; have p168 : 0 ≤ (x12_3 : Int) := of_decide_eq_true (by first | (with_reducible assumption) | assumption); have q168 : x12_3 < (x8_3.length : Int) := of_decide_eq_true (by first | (with_reducible assumption) | assumption); obtain ⟨ad168, e168, hx168_0⟩ := Kd.at_int (Kd.R_reads' HO_8.out).2.2 x12_3 p168 q168; cases e168; replace p168 := eq_true p168; replace q168 := eq_true q168; have p51 : 0 ≤ (x12_3 : Int) := of_decide_eq_true (by first | (with_reducible assumption) | assumption); have q51 : (x12_3 : Int) < ((x8_3.length : Int) : Int) := of_decide_eq_true (by first | (with_reducible assumption) | assumption); obtain ⟨go51, co51, eo51, gb51, gl51, cl51, HG51⟩ := Kd.R_form HO_8.out (by omega); (first | cases eo51 | (injection eo51 with ea_ en_ ec_; (first | subst ea_ | (injection ea_ with ea_; subst ea_)); subst ec_; clear en_)); have GB51 := Aside0.mk gb51; have GG51 := Aside0.mk HG51; clear gb51 gl51 HG51; (first | simp only [add_plain] at hx168_0 | skip); obtain ⟨hx51_0, hf51_0⟩ := Kd.R_celln 0 HO_8.out (x12_3 : Int) p51 q51; replace p51 := eq_true p51; replace q51 := eq_true q51; obtain ⟨hy54_, hz54_⟩ := Kd.R_celln 0 HO_8.out (x12_3 : Int) (of_decide_eq_true (by first | (with_reducible assumption) | assumption)) (of_decide_eq_true (by first | (with_reducible assumption) | assumption)); have HP54 := Kd.R_putg HO_8.out (x12_3 : Int) (wrap64 ((rd x8_3 x12_3) + 1))) | ((with_reducible refine gate_store (t := 3) (p := 74) rfl ?_); refine store_event (t := 3) (p := 74) (v := ?vo_w55) (w1 := (wr.setCell ⟨go51, (x12_3 : Int).toNat, none⟩ (.int .i64 (wrap64 ((rd x8_3 x12_3) + 1))))) ?hg ?ho ?hn ?hr ?_; (case ho => rfl); (case hg => rfl); (case hn => rfl); (case hr => first | (go_simp; done) | (go_simp; rfl)); intro w55 hw; have hg : wr.grownBy w55 (some go51) := (by rw [hw]; exact HP54.2); have hp_ : Kd.R (Kd.int .i64) 3 w55 w.heap.size (fun k_ => some k_ ≠ (.slice Ao43 t161.length co43 : Value).ownBlock) (.slice (some ⟨go51, 0, none⟩) x8_3.length co53) y169 := (by rw [hw, Ny169.out]; exact HP54.1); clear HP54; replace HO_11 := Aside0.mk (Kd.R_after (v := (.slice (some ⟨go51, 0, none⟩) x8_3.length co53)) (v1 := (.slice (some ⟨go51, 0, none⟩) x8_3.length co53)) (ok := (fun _ => True)) (by (with_reducible repeat (first | apply Kd.R_alloc | apply Kd.R_drewN | apply Kd.R_drew)); exact Kd.R_mono HO_11.out (fun _ hk => ⟨trivial, hk⟩)) hg (.inl rfl)); replace BK144 := Aside0.mk (blk_grown (g := gb144) (o := .cells #[.int .i64 a0_0, .slice A0_1 l0_1.length c0_1] 31 (0, 0)) (Bz BK144) hg (Kd.R_ne HO_8.out BK144.out (by decide))); replace HO_8 := Aside0.mk (hp_); replace HB := Aside0.mk ((by rw [hw]; exact below_set (HB.out) GB51.out : Below w.heap.size w w55)); clear hg hw hp_))
             go_roundg k3
             case measure => have := HK1.out; have := HK2.out; have := HK3.out; omega
             case rel => exact ⟨(y169), (wrap64 (x12_3 + 1)), (by first | rfl | (simp; done) | (simp [*]; done)), H', ⟨by have := HK1.out; have := HK2.out; have := HK3.out; omega⟩, ⟨by exact Rz HO_8⟩, ⟨by (with_reducible repeat (first | apply Kd.R_alloc | apply Kd.R_drewN | apply Kd.R_drew)); exact Kd.R_mono HO_11.out (fun _ hk => hk.2)⟩, ⟨by exact Bz BK144⟩, ⟨by exact Lz1 HB GE144⟩⟩
            rw [if_neg c50] at H
            exact absurd H (by simp)
           rw [if_neg c49] at H
           exact absurd H (by simp)
          rw [if_neg c45] at H
          have c45b0 : decide (x12_3 < a0_0) = false := decide_eq_false c45
          clear c45
          replace H := Option.bind_eq_some_iff.mp H
          obtain ⟨t164, A560, H⟩ := H
          replace H : (spec_l05Reduce.l2 k3 l1 a2 x8_3 t164 a0_0 l0_1) = some (r1, r2) := H
          have A56 := Aside0.mk A560
          clear A560
          have H' := Aside0.mk H
          clear H
          have hcz57_0 : wr.cell? ⟨gb144, 0, none⟩ = some (.int .i64 a0_0) := (blk_cell BK144.out 0).trans rfl
          have hcz57_1 : wr.cell? ⟨gb144, 1, none⟩ = some (.slice A0_1 l0_1.length c0_1) := (blk_cell BK144.out 1).trans rfl
          have hfz57_0 := blk_frozen BK144.out 0
          have hfz57_1 := blk_frozen BK144.out 1
          obtain ⟨Ao58, co58, eo58⟩ := Kd.R_slice HO_8.out
          subst eo58
          go_wp2_with (first | ((with_reducible refine gate_callee (f := 96) rfl ?_); refine goesM_ (some 78) rfl rfl Try.func96 (by kernel_rfl) rfl #[.agg #[.int .i64 a0_0, .slice A0_1 l0_1.length c0_1], .slice A1 l1.length c1, .slice Ao58 x8_3.length co58] rfl ?_; (with_reducible refine (spec_l04Fire.calls k3 a0_0 _ _ l0_1 _ _ l1 _ _ x8_3 t164 _ ?side1 ?side2 ?side3 ?side4 ?side5 ?side6 A56.out).mono ?_); (case side1 => exact Cz ((Kd.C_below HR0_1.out HB.out))); (case side2 => exact HC0_1.out); (case side3 => exact Cz ((Kd.C_below HR1.out HB.out))); (case side4 => exact HC1.out); (case side5 => exact Cz ((Kd.R_reads' HO_8.out).2.2)); (case side6 => exact (Kd.R_reads' HO_8.out).2.1); rintro e w59 ⟨v165, rfl, ho0, hb⟩; refine ⟨_, rfl, ?_⟩; have HO166 := Aside0.mk (Kd.R_lower (Kd.R_new' (Kd.R_new' ho0 (Kd.R_lt (Rz HO_8))) (Kd.R_lt (Rz HO_11))) (below_size (by exact Lz1 HB GE144))); replace HO_8 := Aside0.mk (Kd.R_elder' (Rz HO_8) (Kd.R_base ho0) hb); replace HO_11 := Aside0.mk (Kd.R_elder' (Rz HO_11) (Kd.R_base ho0) hb); replace BK144 := Aside0.mk (blk_below (g := gb144) (o := .cells #[.int .i64 a0_0, .slice A0_1 l0_1.length c0_1] 31 (0, 0)) (Bz BK144) hb); replace HB := Aside0.mk (below_step (by exact Lz1 HB GE144) hb); (try clear hb); (try clear ho0)))
          go_roundg k3
          case measure => have := HK1.out; have := HK2.out; have := HK3.out; omega
          case rel => exact ⟨(x8_3), (t164), H', ⟨by have := HK1.out; have := HK2.out; have := HK3.out; omega⟩, ⟨by (with_reducible repeat (first | apply Kd.R_alloc | apply Kd.R_drewN | apply Kd.R_drew)); exact Kd.R_mono HO_8.out (fun _ hk => hk.2)⟩, ⟨by (with_reducible repeat (first | apply Kd.R_alloc | apply Kd.R_drewN | apply Kd.R_drew)); exact Kd.R_mono HO166.out (fun _ hk => hk.1.2)⟩, ⟨by exact Bz BK144⟩, ⟨by exact Lz1 HB GE144⟩⟩
   rw [if_neg c6] at H
   exact absurd H (by simp)
  rw [if_neg c5] at H
  exact absurd H (by simp)
 rw [if_neg c4] at H
 exact absurd H (by simp)
end Go.Proofs.Ytbcfccdoffbncaa.P
end
section
namespace Go.Proofs.Ytbcfccdoffbncaa.P
open Go.RowKit Go.Proofs.YtbcfccdoffbncaaW.PrintWords Go.Proofs.YtbcfccdoffbncaaW.PrintLast Go.Proofs.YtbcfccdoffbncaaW.PrintMore
attribute [local go_sem] max2_int min2_int max_two min_two max_three min_three max_four min_four
set_option linter.unusedVariables false
set_option linter.unusedSimpArgs false
def spec_l01In.f (a0 : Int) (a1 : Int) (a2 : Int) : Option (Bool) := if a0 ≥ a1 then (some (decide (a0 ≤ a2))) else (some false)
set_option maxHeartbeats 8000000 in
set_option maxRecDepth 100000 in
theorem spec_l01In.calls (a0 : Int) (a1 : Int) (a2 : Int) (r : Bool) (w : World) (h : spec_l01In.f a0 a1 a2 = some r) :
  Calls Try.prog 117 #[.int .i64 a0, .int .i64 a1, .int .i64 a2] w fun e w' => e = .returned (.bool r) ∧ Drawn0 w w' := by
 have H : (if a0 ≥ a1 then (some (decide (a0 ≤ a2))) else (some false)) = some r := h
 clear h
 by_cases c4 : a0 ≥ a1
 ·rw [if_pos c4] at H
  have c4b0 : decide (a1 ≤ a0) = true := decide_eq_true c4
  clear c4
  obtain rfl := Option.some.inj H
  go_enter Try.func117, Try.ntmps117
  go_wp2
  go_ret
  exact ⟨by first | rfl | (simp; done) | (simp [*]; done), by repeat (first | exact Drawn0.refl _ | apply Drawn0.step)⟩
 rw [if_neg c4] at H
 have c4b0 : decide (a1 ≤ a0) = false := decide_eq_false c4
 clear c4
 obtain rfl := Option.some.inj H
 go_enter Try.func117, Try.ntmps117
 go_wp2
 go_ret
 exact ⟨by first | rfl | (simp; done) | (simp [*]; done), by repeat (first | exact Drawn0.refl _ | apply Drawn0.step)⟩
end Go.Proofs.Ytbcfccdoffbncaa.P
end
section
namespace Go.Proofs.Ytbcfccdoffbncaa.P
open Go.RowKit Go.Proofs.YtbcfccdoffbncaaW.PrintWords Go.Proofs.YtbcfccdoffbncaaW.PrintLast Go.Proofs.YtbcfccdoffbncaaW.PrintMore
attribute [local go_sem] max2_int min2_int max_two min_two max_three min_three max_four min_four
set_option linter.unusedVariables false
set_option linter.unusedSimpArgs false
mutual
def spec_EdgesOk.j0 : Nat → Bool → Int → List (S67) → Option (Bool)
 | 0, _, _, _ => none
 | k + 1, x14, x171000, x171001 => if x14 = true then (some false) else (spec_EdgesOk.l0 k x171001 (x171001.length : Int) 0 x171000 x171001)
def spec_EdgesOk.l0 : Nat → List (S67) → Int → Int → Int → List (S67) → Option (Bool)
 | 0, _, _, _, _, _ => none
 | k + 1, x16, x17, x18, x171000, x171001 => if x18 < x17 then (if 0 ≤ x18 then (if x18 < (x16.length : Int) then ((spec_l01In.f ((rd_T67 x16 x18).f0) 0 (wrap64 (x171000 - 1))).bind fun t174 => (if t174 = true then ((spec_l01In.f ((rd_T67 x16 x18).f1) (wrap64 (((rd_T67 x16 x18).f0) + 1)) (wrap64 (x171000 - 1))).bind fun t175 => (if t175 = true then (spec_EdgesOk.l0 k x16 x17 (wrap64 (x18 + 1)) x171000 x171001) else (some false))) else (some false))) else (none)) else (none)) else (some true)
end
def spec_EdgesOk.f (k : Nat) (a0_0 : Int) (l0_1 : List (S67)) : Option (Bool) := (spec_l01In.f a0_0 1 6).bind fun t171 => (if t171 = true then (spec_EdgesOk.j0 k (decide ((l0_1.length : Int) > 12)) a0_0 l0_1) else (spec_EdgesOk.j0 k true a0_0 l0_1))
set_option maxHeartbeats 8000000 in
set_option maxRecDepth 100000 in
theorem spec_EdgesOk.calls (k : Nat) (a0_0 : Int) (A0_1 : Option Addr) (c0_1 : Nat) (l0_1 : List (S67)) (r : Bool) (w : World) (hr0_1 : Kd.C k67 w A0_1 l0_1.length l0_1) (hc0_1 : l0_1.length ≤ c0_1) (h : spec_EdgesOk.f k a0_0 l0_1 = some r) :
  Calls Try.prog 132 #[.agg #[.int .i64 a0_0, .slice A0_1 l0_1.length c0_1]] w fun e w' => e = .returned (.bool r) ∧ Below w.heap.size w w' := by
 have hu31 := Try.underlying31
 have hu67 := Try.underlying67
 have HR0_1 := Aside0.mk hr0_1
 have HC0_1 := Aside0.mk hc0_1
 clear hr0_1 hc0_1
 have HB := Aside0.mk (Below.refl w.heap.size w)
 have H : ((spec_l01In.f a0_0 1 6).bind fun t171 => (if t171 = true then (spec_EdgesOk.j0 k (decide ((l0_1.length : Int) > 12)) a0_0 l0_1) else (spec_EdgesOk.j0 k true a0_0 l0_1))) = some r := h
 clear h
 have HC2 := Aside0.mk H
 clear H
 go_enter Try.func132, Try.ntmps132
 go_upto_region 1 with (first | ((with_reducible refine gate_dst (N := 1) rfl ?_); (try (refine gate_guard (by rfl) ?_; dsimp only)); refine box_event ?hg (N := 1) ?hd (cs := #[.int .i64 a0_0, .slice A0_1 l0_1.length c0_1]) (t := 31) ?hr ?_; (case hd => rfl); (case hg => rfl); (case hr => first | (go_simp; done) | (go_simp; rfl)); intro gb170 hg w3 hbox hb; have BK170 := Aside0.mk (hbox); have GW170 := Aside0.mk ((by rw [hg]; exact (below_size (Lz HB)) : w.heap.size ≤ gb170)); have GE170 := Aside0.mk ((by rw [hg]; exact (below_size (Lz HB)) : w.heap.size ≤ gb170)); replace HB := Aside0.mk (below_step (Lz HB) hb); clear hb hbox hg))
 (try simp only [Act.put, List.setIfInBounds_toArray, List.set_cons_zero, List.set_cons_succ])
 go_cut [14] (fun v14 wc => ∃ (kq : Nat) (x14_1 : Bool), v14 = .bool x14_1 ∧ Aside0 (spec_EdgesOk.j0 kq x14_1 a0_0 l0_1 = some r) ∧ Aside0 (kq ≤ k) ∧ Aside0 (wc.heap[gb170]? = some (.cells #[.int .i64 a0_0, (.slice A0_1 l0_1.length c0_1)] 31 (0, 0))) ∧ Aside0 (Below w.heap.size w wc))
 case first =>
  have H := HC2.out
  clear HC2
  replace H := Option.bind_eq_some_iff.mp H
  obtain ⟨t171, A40, H⟩ := H
  replace H : (if t171 = true then (spec_EdgesOk.j0 k (decide ((l0_1.length : Int) > 12)) a0_0 l0_1) else (spec_EdgesOk.j0 k true a0_0 l0_1)) = some r := H
  have A4 := Aside0.mk A40
  clear A40
  by_cases c5 : t171 = true
  ·subst c5
   have H1 : (spec_EdgesOk.j0 k (decide ((l0_1.length : Int) > 12)) a0_0 l0_1) = some r := by rw [if_pos rfl] at H; exact H
   clear H
   have H := H1
   clear H1
   have H' := Aside0.mk H
   clear H
   have hcz6_0 : w3.cell? ⟨gb170, 0, none⟩ = some (.int .i64 a0_0) := (blk_cell BK170.out 0).trans rfl
   have hcz6_1 : w3.cell? ⟨gb170, 1, none⟩ = some (.slice A0_1 l0_1.length c0_1) := (blk_cell BK170.out 1).trans rfl
   have hfz6_0 := blk_frozen BK170.out 0
   have hfz6_1 := blk_frozen BK170.out 1
   go_wp2_with (first | ((with_reducible refine gate_callee (f := 117) rfl ?_); refine goesM_ (some 7) rfl rfl Try.func117 (by kernel_rfl) rfl #[.int .i64 a0_0, .int .i64 1, .int .i64 6] rfl ?_; (with_reducible refine (spec_l01In.calls a0_0 1 6 true _ A4.out).mono ?_); rintro e w' ⟨rfl, ⟨nd, rfl⟩⟩; refine ⟨_, rfl, ?_⟩))
   go_meet
   case rel => exact ⟨_, (decide ((l0_1.length : Int) > 12)), (by first | rfl | (simp; done) | (simp [*]; done)), H', ⟨by first | omega | exact Nat.le_refl _⟩, ⟨by exact Bz BK170⟩, ⟨by exact Lz1 HB GE170⟩⟩
  replace c5 := Bool.eq_false_iff.mpr c5
  subst c5
  have H1 : (spec_EdgesOk.j0 k true a0_0 l0_1) = some r := by rw [if_neg (show ¬ (false = true) by decide)] at H; exact H
  clear H
  have H := H1
  clear H1
  have H' := Aside0.mk H
  clear H
  have hcz7_0 : w3.cell? ⟨gb170, 0, none⟩ = some (.int .i64 a0_0) := (blk_cell BK170.out 0).trans rfl
  have hcz7_1 : w3.cell? ⟨gb170, 1, none⟩ = some (.slice A0_1 l0_1.length c0_1) := (blk_cell BK170.out 1).trans rfl
  have hfz7_0 := blk_frozen BK170.out 0
  have hfz7_1 := blk_frozen BK170.out 1
  go_wp2_with (first | ((with_reducible refine gate_callee (f := 117) rfl ?_); refine goesM_ (some 7) rfl rfl Try.func117 (by kernel_rfl) rfl #[.int .i64 a0_0, .int .i64 1, .int .i64 6] rfl ?_; (with_reducible refine (spec_l01In.calls a0_0 1 6 false _ A4.out).mono ?_); rintro e w' ⟨rfl, ⟨nd, rfl⟩⟩; refine ⟨_, rfl, ?_⟩))
  go_meet
  case rel => exact ⟨_, (true), (by first | rfl | (simp; done) | (simp [*]; done)), H', ⟨by first | omega | exact Nat.le_refl _⟩, ⟨by exact Bz BK170⟩, ⟨by exact Lz1 HB GE170⟩⟩
 case rest =>
  clear HC2
  try clear c5
  obtain ⟨kq, x14_1, rfl, HA, HJ1, BK170, HB⟩ := hcut
  cases kq with
  | zero => exact absurd HA.out (by simp [spec_EdgesOk.j0])
  | succ kj1 =>
   have H := HA.out
   clear HA
   simp only [spec_EdgesOk.j0] at H
   by_cases c8 : x14_1 = true
   ·subst c8
    have H1 : (some false) = some r := by rw [if_pos rfl] at H; exact H
    clear H
    have H := H1
    clear H1
    obtain rfl := Option.some.inj H
    go_wp2
    go_ret
    exact ⟨by first | rfl | (simp [errW_none, errW_some] <;> rfl) | (simp [*, errW_none, errW_some] <;> rfl), by exact Lz1 HB GE170⟩
   replace c8 := Bool.eq_false_iff.mpr c8
   subst c8
   have H1 : (spec_EdgesOk.l0 kj1 l0_1 (l0_1.length : Int) 0 a0_0 l0_1) = some r := by rw [if_neg (show ¬ (false = true) by decide)] at H; exact H
   clear H
   have H := H1
   clear H1
   have H' := Aside0.mk H
   clear H
   have hcz9_0 : wc.cell? ⟨gb170, 0, none⟩ = some (.int .i64 a0_0) := (blk_cell BK170.out 0).trans rfl
   have hcz9_1 : wc.cell? ⟨gb170, 1, none⟩ = some (.slice A0_1 l0_1.length c0_1) := (blk_cell BK170.out 1).trans rfl
   have hfz9_0 := blk_frozen BK170.out 0
   have hfz9_1 := blk_frozen BK170.out 1
   go_wp2
   go_loopg [18] kj1 (fun kq v18 w' => ∃ (x18_2 : Int), v18 = .int .i64 x18_2 ∧ Aside0 (spec_EdgesOk.l0 kq l0_1 (l0_1.length : Int) x18_2 a0_0 l0_1 = some r) ∧ Aside0 (kq ≤ kj1) ∧ Aside0 (w'.heap[gb170]? = some (.cells #[.int .i64 a0_0, (.slice A0_1 l0_1.length c0_1)] 31 (0, 0))) ∧ Aside0 (Below w.heap.size w w'))
   case atStart => exact ⟨(0), (by first | rfl | (simp; done) | (simp [*]; done)), H', ⟨Nat.le_refl _⟩, ⟨by exact Bz BK170⟩, ⟨by exact Lz1 HB GE170⟩⟩
   case round =>
    clear H'
    try clear c5
    try clear c8
    obtain ⟨x18_2, rfl, HA, HK2, BK170, HB⟩ := hrel
    cases gk with
    | zero => exact absurd HA.out (by simp [spec_EdgesOk.l0])
    | succ k2 =>
     have H := HA.out
     clear HA
     simp only [spec_EdgesOk.l0] at H
     by_cases c10 : x18_2 < (l0_1.length : Int)
     ·rw [if_pos c10] at H
      have c10b0 : decide (x18_2 < (l0_1.length : Int)) = true := decide_eq_true c10
      clear c10
      by_cases c11 : 0 ≤ x18_2
      ·rw [if_pos c11] at H
       have c11b0 : decide (0 ≤ x18_2) = true := decide_eq_true c11
       clear c11
       by_cases c12 : x18_2 < (l0_1.length : Int)
       ·rw [if_pos c12] at H
        have c12b0 : decide (x18_2 < (l0_1.length : Int)) = true := decide_eq_true c12
        clear c12
        replace H := Option.bind_eq_some_iff.mp H
        obtain ⟨t174, A130, H⟩ := H
        replace H : (if t174 = true then ((spec_l01In.f ((rd_T67 l0_1 x18_2).f1) (wrap64 (((rd_T67 l0_1 x18_2).f0) + 1)) (wrap64 (a0_0 - 1))).bind fun t175 => (if t175 = true then (spec_EdgesOk.l0 k2 l0_1 (l0_1.length : Int) (wrap64 (x18_2 + 1)) a0_0 l0_1) else (some false))) else (some false)) = some r := H
        have A13 := Aside0.mk A130
        clear A130
        by_cases c14 : t174 = true
        ·subst c14
         have H1 : ((spec_l01In.f ((rd_T67 l0_1 x18_2).f1) (wrap64 (((rd_T67 l0_1 x18_2).f0) + 1)) (wrap64 (a0_0 - 1))).bind fun t175 => (if t175 = true then (spec_EdgesOk.l0 k2 l0_1 (l0_1.length : Int) (wrap64 (x18_2 + 1)) a0_0 l0_1) else (some false))) = some r := by rw [if_pos rfl] at H; exact H
         clear H
         have H := H1
         clear H1
         replace H := Option.bind_eq_some_iff.mp H
         obtain ⟨t175, A150, H⟩ := H
         replace H : (if t175 = true then (spec_EdgesOk.l0 k2 l0_1 (l0_1.length : Int) (wrap64 (x18_2 + 1)) a0_0 l0_1) else (some false)) = some r := H
         have A15 := Aside0.mk A150
         clear A150
         by_cases c16 : t175 = true
         ·subst c16
          have H1 : (spec_EdgesOk.l0 k2 l0_1 (l0_1.length : Int) (wrap64 (x18_2 + 1)) a0_0 l0_1) = some r := by rw [if_pos rfl] at H; exact H
          clear H
          have H := H1
          clear H1
          have H' := Aside0.mk H
          clear H
          have p172 : 0 ≤ (x18_2 : Int) := of_decide_eq_true (by first | (with_reducible assumption) | assumption)
          have q172 : x18_2 < (l0_1.length : Int) := of_decide_eq_true (by first | (with_reducible assumption) | assumption)
          obtain ⟨ad172, e172, hx172_0, hx172_1⟩ := at_T67 HR0_1.out x18_2 p172 q172
          cases e172
          replace hx172_0 := (HB.out.cell (World.block_lt_of_cell? w _ hx172_0)).trans hx172_0
          replace hx172_1 := (HB.out.cell (World.block_lt_of_cell? w _ hx172_1)).trans hx172_1
          replace p172 := eq_true p172
          replace q172 := eq_true q172
          go_wp2_with (first | ((with_reducible refine gate_dst (N := 4) rfl ?_); (try (refine gate_guard (by rfl) ?_; dsimp only)); refine box_event ?hg (N := 4) ?hd (cs := #[.int .i64 0, .int .i64 0]) (t := 67) ?hr ?_; (case hd => rfl); (case hg => rfl); (case hr => first | (go_simp; done) | (go_simp; rfl)); intro gb173 hg w17 hbox hb; have BK173 := Aside0.mk (hbox); have GW173 := Aside0.mk ((by rw [hg]; exact (below_size (by exact Lz1 HB GE170)) : w.heap.size ≤ gb173)); have GE173 := Aside0.mk ((by rw [hg]; exact (below_size (by exact Lz1 HB GE170)) : w.heap.size ≤ gb173)); replace HB := Aside0.mk (below_step (by exact Lz1 HB GE170) hb); have NB170_173 := Aside0.mk ((by rw [hg]; exact Nat.ne_of_lt (blk_lt (g := gb170) (o := .cells #[.int .i64 a0_0, .slice (some ad172) l0_1.length c0_1] 31 (0, 0)) (Bz BK170)) : gb170 ≠ gb173)); have NB173_170 := Aside0.mk ((by rw [hg]; exact Nat.ne_of_gt (blk_lt (g := gb170) (o := .cells #[.int .i64 a0_0, .slice (some ad172) l0_1.length c0_1] 31 (0, 0)) (Bz BK170)) : gb173 ≠ gb170)); replace BK170 := Aside0.mk (blk_below (g := gb170) (o := .cells #[.int .i64 a0_0, .slice (some ad172) l0_1.length c0_1] 31 (0, 0)) (Bz BK170) hb); clear hb hbox hg; have hnb18 := NB173_170.out; have hnc18 := NB170_173.out; have hcz19_0 : w17.cell? ⟨gb173, 0, none⟩ = some (.int .i64 0) := (blk_cell BK173.out 0).trans rfl; have hcz19_1 : w17.cell? ⟨gb173, 1, none⟩ = some (.int .i64 0) := (blk_cell BK173.out 1).trans rfl; have hfz19_0 := blk_frozen BK173.out 0; have hfz19_1 := blk_frozen BK173.out 1; have hcz20_0 : w17.cell? ⟨gb170, 0, none⟩ = some (.int .i64 a0_0) := (blk_cell BK170.out 0).trans rfl; have hcz20_1 : w17.cell? ⟨gb170, 1, none⟩ = some (.slice (some ad172) l0_1.length c0_1) := (blk_cell BK170.out 1).trans rfl; have hfz20_0 := blk_frozen BK170.out 0; have hfz20_1 := blk_frozen BK170.out 1) | ((with_reducible refine gate_callee (f := 117) rfl ?_); refine goesM_ (some 27) rfl rfl Try.func117 (by kernel_rfl) rfl #[.int .i64 ((rd_T67 l0_1 x18_2).f0), .int .i64 0, .int .i64 (wrap64 (a0_0 - 1))] rfl ?_; (with_reducible refine (spec_l01In.calls ((rd_T67 l0_1 x18_2).f0) 0 (wrap64 (a0_0 - 1)) true _ A13.out).mono ?_); rintro e w' ⟨rfl, ⟨nd, rfl⟩⟩; refine ⟨_, rfl, ?_⟩) | (go_at_call 117; (with_reducible refine (spec_l01In.calls ((rd_T67 l0_1 x18_2).f1) (wrap64 (((rd_T67 l0_1 x18_2).f0) + 1)) (wrap64 (a0_0 - 1)) true _ A15.out).mono ?_); rintro e w' ⟨rfl, ⟨nd, rfl⟩⟩))
          go_roundg k2
          case measure => have := HJ1.out; have := HK2.out; omega
          case rel => exact ⟨(wrap64 (x18_2 + 1)), (by first | rfl | (simp; done) | (simp [*]; done)), H', ⟨by have := HJ1.out; have := HK2.out; omega⟩, ⟨by (with_reducible repeat (first | refine blk_drewN ?_ _ | refine blk_drew ?_ | refine blk_alloc ?_ _)); refine blk_far ?_ NB170_173.out _; (with_reducible repeat (first | refine blk_drewN ?_ _ | refine blk_drew ?_ | refine blk_alloc ?_ _)); refine blk_far ?_ NB170_173.out _; exact Bz BK170⟩, ⟨by exact Lz2 HB GE170 GE173⟩⟩
         replace c16 := Bool.eq_false_iff.mpr c16
         subst c16
         have H1 : (some false) = some r := by rw [if_neg (show ¬ (false = true) by decide)] at H; exact H
         clear H
         have H := H1
         clear H1
         obtain rfl := Option.some.inj H
         have p172 : 0 ≤ (x18_2 : Int) := of_decide_eq_true (by first | (with_reducible assumption) | assumption)
         have q172 : x18_2 < (l0_1.length : Int) := of_decide_eq_true (by first | (with_reducible assumption) | assumption)
         obtain ⟨ad172, e172, hx172_0, hx172_1⟩ := at_T67 HR0_1.out x18_2 p172 q172
         cases e172
         replace hx172_0 := (HB.out.cell (World.block_lt_of_cell? w _ hx172_0)).trans hx172_0
         replace hx172_1 := (HB.out.cell (World.block_lt_of_cell? w _ hx172_1)).trans hx172_1
         replace p172 := eq_true p172
         replace q172 := eq_true q172
         go_wp2_with (first | ((with_reducible refine gate_dst (N := 4) rfl ?_); (try (refine gate_guard (by rfl) ?_; dsimp only)); refine box_event ?hg (N := 4) ?hd (cs := #[.int .i64 0, .int .i64 0]) (t := 67) ?hr ?_; (case hd => rfl); (case hg => rfl); (case hr => first | (go_simp; done) | (go_simp; rfl)); intro gb173 hg w21 hbox hb; have BK173 := Aside0.mk (hbox); have GW173 := Aside0.mk ((by rw [hg]; exact (below_size (by exact Lz1 HB GE170)) : w.heap.size ≤ gb173)); have GE173 := Aside0.mk ((by rw [hg]; exact (below_size (by exact Lz1 HB GE170)) : w.heap.size ≤ gb173)); replace HB := Aside0.mk (below_step (by exact Lz1 HB GE170) hb); have NB170_173 := Aside0.mk ((by rw [hg]; exact Nat.ne_of_lt (blk_lt (g := gb170) (o := .cells #[.int .i64 a0_0, .slice (some ad172) l0_1.length c0_1] 31 (0, 0)) (Bz BK170)) : gb170 ≠ gb173)); have NB173_170 := Aside0.mk ((by rw [hg]; exact Nat.ne_of_gt (blk_lt (g := gb170) (o := .cells #[.int .i64 a0_0, .slice (some ad172) l0_1.length c0_1] 31 (0, 0)) (Bz BK170)) : gb173 ≠ gb170)); replace BK170 := Aside0.mk (blk_below (g := gb170) (o := .cells #[.int .i64 a0_0, .slice (some ad172) l0_1.length c0_1] 31 (0, 0)) (Bz BK170) hb); clear hb hbox hg; have hnb22 := NB173_170.out; have hnc22 := NB170_173.out; have hcz23_0 : w21.cell? ⟨gb173, 0, none⟩ = some (.int .i64 0) := (blk_cell BK173.out 0).trans rfl; have hcz23_1 : w21.cell? ⟨gb173, 1, none⟩ = some (.int .i64 0) := (blk_cell BK173.out 1).trans rfl; have hfz23_0 := blk_frozen BK173.out 0; have hfz23_1 := blk_frozen BK173.out 1; have hcz24_0 : w21.cell? ⟨gb170, 0, none⟩ = some (.int .i64 a0_0) := (blk_cell BK170.out 0).trans rfl; have hcz24_1 : w21.cell? ⟨gb170, 1, none⟩ = some (.slice (some ad172) l0_1.length c0_1) := (blk_cell BK170.out 1).trans rfl; have hfz24_0 := blk_frozen BK170.out 0; have hfz24_1 := blk_frozen BK170.out 1) | ((with_reducible refine gate_callee (f := 117) rfl ?_); refine goesM_ (some 27) rfl rfl Try.func117 (by kernel_rfl) rfl #[.int .i64 ((rd_T67 l0_1 x18_2).f0), .int .i64 0, .int .i64 (wrap64 (a0_0 - 1))] rfl ?_; (with_reducible refine (spec_l01In.calls ((rd_T67 l0_1 x18_2).f0) 0 (wrap64 (a0_0 - 1)) true _ A13.out).mono ?_); rintro e w' ⟨rfl, ⟨nd, rfl⟩⟩; refine ⟨_, rfl, ?_⟩) | (go_at_call 117; (with_reducible refine (spec_l01In.calls ((rd_T67 l0_1 x18_2).f1) (wrap64 (((rd_T67 l0_1 x18_2).f0) + 1)) (wrap64 (a0_0 - 1)) false _ A15.out).mono ?_); rintro e w' ⟨rfl, ⟨nd, rfl⟩⟩))
         go_ret
         exact ⟨by first | rfl | (simp [errW_none, errW_some] <;> rfl) | (simp [*, errW_none, errW_some] <;> rfl), by exact Lz2 HB GE170 GE173⟩
        replace c14 := Bool.eq_false_iff.mpr c14
        subst c14
        have H1 : (some false) = some r := by rw [if_neg (show ¬ (false = true) by decide)] at H; exact H
        clear H
        have H := H1
        clear H1
        obtain rfl := Option.some.inj H
        have p172 : 0 ≤ (x18_2 : Int) := of_decide_eq_true (by first | (with_reducible assumption) | assumption)
        have q172 : x18_2 < (l0_1.length : Int) := of_decide_eq_true (by first | (with_reducible assumption) | assumption)
        obtain ⟨ad172, e172, hx172_0, hx172_1⟩ := at_T67 HR0_1.out x18_2 p172 q172
        cases e172
        replace hx172_0 := (HB.out.cell (World.block_lt_of_cell? w _ hx172_0)).trans hx172_0
        replace hx172_1 := (HB.out.cell (World.block_lt_of_cell? w _ hx172_1)).trans hx172_1
        replace p172 := eq_true p172
        replace q172 := eq_true q172
        go_wp2_with (first | ((with_reducible refine gate_dst (N := 4) rfl ?_); (try (refine gate_guard (by rfl) ?_; dsimp only)); refine box_event ?hg (N := 4) ?hd (cs := #[.int .i64 0, .int .i64 0]) (t := 67) ?hr ?_; (case hd => rfl); (case hg => rfl); (case hr => first | (go_simp; done) | (go_simp; rfl)); intro gb173 hg w25 hbox hb; have BK173 := Aside0.mk (hbox); have GW173 := Aside0.mk ((by rw [hg]; exact (below_size (by exact Lz1 HB GE170)) : w.heap.size ≤ gb173)); have GE173 := Aside0.mk ((by rw [hg]; exact (below_size (by exact Lz1 HB GE170)) : w.heap.size ≤ gb173)); replace HB := Aside0.mk (below_step (by exact Lz1 HB GE170) hb); have NB170_173 := Aside0.mk ((by rw [hg]; exact Nat.ne_of_lt (blk_lt (g := gb170) (o := .cells #[.int .i64 a0_0, .slice (some ad172) l0_1.length c0_1] 31 (0, 0)) (Bz BK170)) : gb170 ≠ gb173)); have NB173_170 := Aside0.mk ((by rw [hg]; exact Nat.ne_of_gt (blk_lt (g := gb170) (o := .cells #[.int .i64 a0_0, .slice (some ad172) l0_1.length c0_1] 31 (0, 0)) (Bz BK170)) : gb173 ≠ gb170)); replace BK170 := Aside0.mk (blk_below (g := gb170) (o := .cells #[.int .i64 a0_0, .slice (some ad172) l0_1.length c0_1] 31 (0, 0)) (Bz BK170) hb); clear hb hbox hg; have hnb26 := NB173_170.out; have hnc26 := NB170_173.out; have hcz27_0 : w25.cell? ⟨gb173, 0, none⟩ = some (.int .i64 0) := (blk_cell BK173.out 0).trans rfl; have hcz27_1 : w25.cell? ⟨gb173, 1, none⟩ = some (.int .i64 0) := (blk_cell BK173.out 1).trans rfl; have hfz27_0 := blk_frozen BK173.out 0; have hfz27_1 := blk_frozen BK173.out 1; have hcz28_0 : w25.cell? ⟨gb170, 0, none⟩ = some (.int .i64 a0_0) := (blk_cell BK170.out 0).trans rfl; have hcz28_1 : w25.cell? ⟨gb170, 1, none⟩ = some (.slice (some ad172) l0_1.length c0_1) := (blk_cell BK170.out 1).trans rfl; have hfz28_0 := blk_frozen BK170.out 0; have hfz28_1 := blk_frozen BK170.out 1) | ((with_reducible refine gate_callee (f := 117) rfl ?_); refine goesM_ (some 27) rfl rfl Try.func117 (by kernel_rfl) rfl #[.int .i64 ((rd_T67 l0_1 x18_2).f0), .int .i64 0, .int .i64 (wrap64 (a0_0 - 1))] rfl ?_; (with_reducible refine (spec_l01In.calls ((rd_T67 l0_1 x18_2).f0) 0 (wrap64 (a0_0 - 1)) false _ A13.out).mono ?_); rintro e w' ⟨rfl, ⟨nd, rfl⟩⟩; refine ⟨_, rfl, ?_⟩))
        go_ret
        exact ⟨by first | rfl | (simp [errW_none, errW_some] <;> rfl) | (simp [*, errW_none, errW_some] <;> rfl), by exact Lz2 HB GE170 GE173⟩
       rw [if_neg c12] at H
       exact absurd H (by simp)
      rw [if_neg c11] at H
      exact absurd H (by simp)
     rw [if_neg c10] at H
     have c10b0 : decide (x18_2 < (l0_1.length : Int)) = false := decide_eq_false c10
     clear c10
     obtain rfl := Option.some.inj H
     go_wp2
     go_ret
     exact ⟨by first | rfl | (simp [errW_none, errW_some] <;> rfl) | (simp [*, errW_none, errW_some] <;> rfl), by exact Lz1 HB GE170⟩
end Go.Proofs.Ytbcfccdoffbncaa.P
end
