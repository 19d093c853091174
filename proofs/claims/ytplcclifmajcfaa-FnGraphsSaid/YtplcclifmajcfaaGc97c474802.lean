/- Functions of the program as plain Lean functions and that the machine's calls answer as they do, the words of the print that these use, lemmas and plain proofs of laws. Put together by a program of this work that leaves out what nothing uses; Lean checks it. -/
import Derived.Test.YtplcclifmajcfaaG0ee52d773a
import Derived.Test.YtplcclifmajcfaaGace029dd32
import Derived.Test.YtplcclifmajcfaaG058d468385
import Derived.Test.YtplcclifmajcfaaGec60a88a63
import Derived.Test.YtplcclifmajcfaaGed361a54fe
import Derived.Test.YtplcclifmajcfaaG8246008c45
section
namespace Go.Proofs.Ytplcclifmajcfaa.P
open Go.RowKit Go.Proofs.YtplcclifmajcfaaW.PrintWords Go.Proofs.YtplcclifmajcfaaW.PrintLast Go.Proofs.YtplcclifmajcfaaW.PrintMore
attribute [local go_sem] max2_int min2_int max_two min_two max_three min_three max_four min_four
set_option linter.unusedVariables false
set_option linter.unusedSimpArgs false
mutual
def laws_FnGraphs.j0 : Nat → List Int → Option (Bool)
 | 0, _ => none
 | k + 1, x0 => (spec_MakeGraph.f k x0).bind fun bt663 => (laws_FnGraphs.l0 k 0 0 bt663.1 bt663.2)
def laws_FnGraphs.l0 : Nat → Int → Int → Int → List (S57) → Option (Bool)
 | 0, _, _, _, _ => none
 | k + 1, x4, x5, x668000, x668001 => if x5 < x668000 then (laws_FnGraphs.j2 k x4 x5 x668000 x668001) else ((impl_DistancesFrom.f k x668000 x668001 0).bind fun t670 => ((impl_AddEdge.f k x668000 x668001 (wrap64 (x668000 - 1)) 0).bind fun bt673 => ((impl_GraphOk.f k x668000 x668001).bind fun t679 => (if t679 = true then (if x4 = (wrap64 (2 * (x668001.length : Int))) then (if (t670.length : Int) = x668000 then (if bt673.2.2 = true then ((impl_GenusOf.f k bt673.1 bt673.2.1).bind fun t680 => ((impl_GenusOf.f k x668000 x668001).bind fun t681 => (laws_FnGraphs.j4 k (t680 != (wrap64 (t681 + 1))) x668000 x668001 bt673.1 bt673.2.1))) else (laws_FnGraphs.j4 k true x668000 x668001 bt673.1 bt673.2.1)) else (laws_FnGraphs.j4 k true x668000 x668001 bt673.1 bt673.2.1)) else (laws_FnGraphs.j4 k true x668000 x668001 bt673.1 bt673.2.1)) else (laws_FnGraphs.j4 k true x668000 x668001 bt673.1 bt673.2.1)))))
def laws_FnGraphs.j2 : Nat → Int → Int → Int → List (S57) → Option (Bool)
 | 0, _, _, _, _ => none
 | k + 1, x4, x5, x668000, x668001 => laws_FnGraphs.l1 k x4 x5 0 0 x668000 x668001
def laws_FnGraphs.l1 : Nat → Int → Int → Int → Int → Int → List (S57) → Option (Bool)
 | 0, _, _, _, _, _, _ => none
 | k + 1, x4, x5, x6, x7, x668000, x668001 => if x7 < x668000 then ((impl_Multiplicity.f k x668000 x668001 x5 x7).bind fun t668 => (laws_FnGraphs.l1 k x4 x5 (wrap64 (x6 + t668)) (wrap64 (x7 + 1)) x668000 x668001)) else ((impl_Valence.f k x668000 x668001 x5).bind fun t669 => (if x6 = t669 then (laws_FnGraphs.l0 k (wrap64 (x4 + x6)) (wrap64 (x5 + 1)) x668000 x668001) else (some false)))
def laws_FnGraphs.j4 : Nat → Bool → Int → List (S57) → Int → List (S57) → Option (Bool)
 | 0, _, _, _, _, _ => none
 | k + 1, x85, x668000, x668001, x679000, x679001 => if x85 = true then (some false) else (laws_FnGraphs.j5 k x668000 x668001 x679000 x679001)
def laws_FnGraphs.j5 : Nat → Int → List (S57) → Int → List (S57) → Option (Bool)
 | 0, _, _, _, _ => none
 | k + 1, x668000, x668001, x679000, x679001 => laws_FnGraphs.l2 k x679001 (x679001.length : Int) 0 x668000 x668001 x679000 x679001
def laws_FnGraphs.l2 : Nat → List (S57) → Int → Int → Int → List (S57) → Int → List (S57) → Option (Bool)
 | 0, _, _, _, _, _, _, _ => none
 | k + 1, x87, x88, x89, x668000, x668001, x679000, x679001 => if x89 < x88 then (laws_FnGraphs.j7 k x87 x88 x89 x668000 x668001 x679000 x679001) else (some false)
def laws_FnGraphs.j7 : Nat → List (S57) → Int → Int → Int → List (S57) → Int → List (S57) → Option (Bool)
 | 0, _, _, _, _, _, _, _ => none
 | k + 1, x87, x88, x89, x668000, x668001, x679000, x679001 => if 0 ≤ x89 then (if x89 < (x87.length : Int) then (if ((rd_T57 x87 x89).f0) = 0 then (laws_FnGraphs.j8 k x89 x87 x88 x89 (((rd_T57 x87 x89).f1) == (wrap64 (x668000 - 1))) x668000 x668001 x679000 x679001) else (laws_FnGraphs.j8 k x89 x87 x88 x89 false x668000 x668001 x679000 x679001)) else (none)) else (none)
def laws_FnGraphs.j8 : Nat → Int → List (S57) → Int → Int → Bool → Int → List (S57) → Int → List (S57) → Option (Bool)
 | 0, _, _, _, _, _, _, _, _, _ => none
 | k + 1, x11, x87, x88, x89, x104, x668000, x668001, x679000, x679001 => if x104 = true then ((impl_DropEdge.f k x679000 x679001 x11).bind fun bt684 => (if bt684.2.2 = true then ((impl_SameGraph.f k bt684.1 bt684.2.1 x668000 x668001).bind fun t690 => (some t690)) else (some false))) else (laws_FnGraphs.l2 k x87 x88 (wrap64 (x89 + 1)) x668000 x668001 x679000 x679001)
end
def laws_FnGraphs.f (k : Nat) (l0 : List Int) : Option (Bool) := if (l0.length : Int) > 1048576 then (some true) else (laws_FnGraphs.j0 k l0)
def laws_FnGraphs.T18 : Bool × List (List Nat × List Nat) := (true, [([], []), ([0], [0]), ([1], [1]), ([2, 1], [2]), ([3], [3]), ([3], [3]), ([5, 3], [3, 5]), ([6, 3], [3, 6]), ([7, 3], [3, 7]), ([4, 8, 3], [3, 4, 8]), ([3, 9], [3, 9]), ([10, 3], [10]), ([11], [11]), ([12, 11], [11, 12]), ([11], [11]), ([14, 11], [11, 14]), ([13, 15, 11], [11, 13, 15]), ([11, 16], [11, 16]), ([17, 11], [17]), ([18], [18]), ([19, 18], [18, 19]), ([18, 20], [18, 20]), ([21, 18], [21]), ([22], [22]), ([23, 22, 22], [22, 23]), ([22], [22]), ([25, 24, 22], [22, 25]), ([26, 22], [22, 26]), ([24, 27, 22], [22, 24, 27]), ([22, 28], [22, 28])])
def laws_FnGraphs.B18 : List Nat := [0, 1, 3, 7, 15, 15, 47, 111, 239, 511, 1023, 2047, 4095, 8191, 4095, 20479, 65535, 131071, 262143, 524287, 1048575, 2097151, 4194303, 8388607, 16777215, 8388607, 67108863, 134217727, 268435455, 536870911]
theorem laws_FnGraphs.tab18 : rtab .any (opsOf Try.f10 18) = laws_FnGraphs.T18 := by kernel_rfl
theorem laws_FnGraphs.bits18 : waitsOk laws_FnGraphs.T18.2 laws_FnGraphs.B18 = true := by kernel_rfl
set_option maxHeartbeats 8000000 in
set_option maxRecDepth 100000 in
theorem laws_FnGraphs.calls (k : Nat) (A0 : Option Addr) (c0 : Nat) (l0 : List Int) (r : Bool) (w : World) (hr0 : Kd.C (Kd.int .u8) w A0 l0.length l0) (hc0 : l0.length ≤ c0) (h : laws_FnGraphs.f k l0 = some r) (hR_ : r = true := by rfl) :
  Calls Try.prog 10 #[.slice A0 l0.length c0] w fun e w' => e = .returned (.bool r) ∧ Below w.heap.size w w' := by
 have HR_ := Aside0.mk hR_
 clear hR_
 have hu30 := Try.underlying30
 have hu57 := Try.underlying57
 have HR0 := Aside0.mk hr0
 have HC0 := Aside0.mk hc0
 clear hr0 hc0
 have HB := Aside0.mk (Below.refl w.heap.size w)
 have H : (if (l0.length : Int) > 1048576 then (some true) else (laws_FnGraphs.j0 k l0)) = some r := h
 clear h
 have HC2 := Aside0.mk H
 clear H
 go_enter Try.func10, Try.ntmps10
 go_upto_if 17 with (fail)
 go_cut [] (fun wc => ∃ (kq : Nat), Aside0 (laws_FnGraphs.j0 kq l0 = some r) ∧ Aside0 (kq ≤ k) ∧ Aside0 (Below w.heap.size w wc))
 case first =>
  have H := HC2.out
  clear HC2
  by_cases c3 : (l0.length : Int) > 1048576
  ·rw [if_pos c3] at H
   have c3b0 : decide (1048576 < (l0.length : Int)) = true := decide_eq_true c3
   have c3b1 : decide (1048576 < l0.length) = true := decide_eq_true (by omega)
   clear c3
   (first | rw [c3b0] | (simp only [i64_w, i32_w]; rw [c3b0]) | skip)
   obtain rfl := Option.some.inj H
   go_wp2
   go_ret
   exact ⟨by first | rfl | (simp [errW_none, errW_some] <;> rfl) | (simp [*, errW_none, errW_some] <;> rfl), by exact Lz HB⟩
  rw [if_neg c3] at H
  have c3b0 : decide (1048576 < (l0.length : Int)) = false := decide_eq_false c3
  have c3b1 : decide (1048576 < l0.length) = false := decide_eq_false (by omega)
  clear c3
  (first | rw [c3b0] | (simp only [i64_w, i32_w]; rw [c3b0]) | skip)
  have H' := Aside0.mk H
  clear H
  go_wp2
  go_meet
  case rel => exact ⟨_, H', ⟨by first | omega | exact Nat.le_refl _⟩, ⟨by exact Lz HB⟩⟩
 case rest =>
  clear HC2
  try clear c3
  try clear c3b0
  try clear c3b1
  obtain ⟨kq, HA, HJ1, HB⟩ := hcut
  cases kq with
  | zero => exact absurd HA.out (by simp [laws_FnGraphs.j0])
  | succ kj1 =>
   have H := HA.out
   clear HA
   simp only [laws_FnGraphs.j0] at H
   replace H := Option.bind_eq_some_iff.mp H
   obtain ⟨⟨t663, t664⟩, A40, H⟩ := H
   replace H : (laws_FnGraphs.l0 kj1 0 0 t663 t664) = some r := H
   have A4 := Aside0.mk A40
   clear A40
   have H' := Aside0.mk H
   clear H
   go_wp2_with (first | ((with_reducible refine gate_callee (f := 36) rfl ?_); refine goesM_ (some 19) rfl rfl Try.func36 (by kernel_rfl) rfl #[.slice A0 l0.length c0] rfl ?_; (with_reducible refine (spec_MakeGraph.calls kj1 _ _ l0 t663 t664 _ ?side1 ?side2 A4.out).mono ?_); (case side1 => exact Cz ((Kd.C_below HR0.out HB.out))); (case side2 => exact HC0.out); rintro e w5 ⟨v665, rfl, ho0, hb⟩; refine ⟨_, rfl, ?_⟩; have HO666 := Aside0.mk (Kd.R_lower ho0 (below_size (Lz HB))); replace HB := Aside0.mk (below_step (Lz HB) hb); (try clear hb); (try clear ho0)) | ((with_reducible refine gate_dst (N := 3) rfl ?_); (try (refine gate_guard (by rfl) ?_; dsimp only)); refine box_event ?hg (N := 3) ?hd (cs := #[.int .i64 0, .slice none 0 0]) (t := 30) ?hr ?_; (case hd => rfl); (case hg => rfl); (case hr => first | (go_simp; done) | (go_simp; rfl)); intro gb667 hg w6 hbox hb; replace HO666 := Aside0.mk (Kd.R_below (Rz HO666) hb); have BK667 := Aside0.mk (hbox); have GW667 := Aside0.mk ((by rw [hg]; exact (below_size (Lz HB)) : w.heap.size ≤ gb667)); have GE667 := Aside0.mk ((by rw [hg]; exact (below_size (Lz HB)) : w.heap.size ≤ gb667)); replace HB := Aside0.mk (below_step (Lz HB) hb); clear hb hbox hg; have hcz7_0 : w6.cell? ⟨gb667, 0, none⟩ = some (.int .i64 0) := (blk_cell BK667.out 0).trans rfl; have hcz7_1 : w6.cell? ⟨gb667, 1, none⟩ = some (.slice none 0 0) := (blk_cell BK667.out 1).trans rfl; have hfz7_0 := blk_frozen BK667.out 0; have hfz7_1 := blk_frozen BK667.out 1; obtain ⟨Ao8, co8, eo8⟩ := Kd.R_slice HO666.out; subst eo8))
   go_loopg [4, 5] kj1 (fun kq v4 v5 w' => ∃ (x4_2 : Int) (x5_2 : Int), v4 = .int .i64 x4_2 ∧ v5 = .int .i64 x5_2 ∧ Aside0 (laws_FnGraphs.l0 kq x4_2 x5_2 t663 t664 = some r) ∧ Aside0 (kq ≤ kj1) ∧ Aside0 (Kd.R k57 57 w' w.heap.size (fun _ => True) (.slice Ao8 t664.length co8) t664) ∧ Aside0 (w'.heap[gb667]? = some (.cells #[.int .i64 t663, (.slice Ao8 t664.length co8)] 30 (0, 0))) ∧ Aside0 (Below w.heap.size w w'))
   case atStart => exact ⟨(0), (0), eqA, eqA, H', ⟨Nat.le_refl _⟩, ⟨by (with_reducible repeat (first | apply Kd.R_alloc | apply Kd.R_drewN | apply Kd.R_drew)); exact Kd.R_mono (Kd.R_far (p := ⟨gb667, 1, none⟩) (Kd.R_far (p := ⟨gb667, 0, none⟩) (Kd.R_types HO666.out BK667.out (by decide)) (fun _ hk => hk.2) (.int .i64 t663)) (fun _ hk => hk.2) (.slice Ao8 t664.length co8)) (fun _ hk => trivial)⟩, ⟨by (with_reducible repeat (first | refine blk_drewN ?_ _ | refine blk_drew ?_ | refine blk_alloc ?_ _)); refine blk_put (cs := #[.int .i64 t663, .slice none 0 0]) ?_ 1 _ rfl; (with_reducible repeat (first | refine blk_drewN ?_ _ | refine blk_drew ?_ | refine blk_alloc ?_ _)); refine blk_put (cs := #[.int .i64 0, .slice none 0 0]) ?_ 0 _ rfl; exact Bz BK667⟩, ⟨by exact Lz1 HB GE667⟩⟩
   case round =>
    clear H'
    try clear c3
    try clear c3b0
    try clear c3b1
    obtain ⟨x4_2, x5_2, rfl, rfl, HA, HK2, HO_668001, BK667, HB⟩ := hrel
    cases gk with
    | zero => exact absurd HA.out (by simp [laws_FnGraphs.l0])
    | succ k2 =>
     have H := HA.out
     clear HA
     simp only [laws_FnGraphs.l0] at H
     have HC9 := Aside0.mk H
     clear H
     have hcz10_0 : wr.cell? ⟨gb667, 0, none⟩ = some (.int .i64 t663) := (blk_cell BK667.out 0).trans rfl
     have hcz10_1 : wr.cell? ⟨gb667, 1, none⟩ = some (.slice Ao8 t664.length co8) := (blk_cell BK667.out 1).trans rfl
     have hfz10_0 := blk_frozen BK667.out 0
     have hfz10_1 := blk_frozen BK667.out 1
     go_upto_if 23 with (fail)
     go_cut [] (fun wc => ∃ (kq : Nat), Aside0 (laws_FnGraphs.j2 kq x4_2 x5_2 t663 t664 = some r) ∧ Aside0 (kq ≤ k2) ∧ Aside0 (Kd.R k57 57 wc w.heap.size (fun _ => True) (.slice Ao8 t664.length co8) t664) ∧ Aside0 (wc.heap[gb667]? = some (.cells #[.int .i64 t663, (.slice Ao8 t664.length co8)] 30 (0, 0))) ∧ Aside0 (Below w.heap.size w wc))
     case first =>
      have H := HC9.out
      clear HC9
      by_cases c11 : x5_2 < t663
      ·rw [if_pos c11] at H
       have c11b0 : decide (x5_2 < t663) = true := decide_eq_true c11
       clear c11
       (first | rw [c11b0] | (simp only [i64_w, i32_w]; rw [c11b0]) | skip)
       have H' := Aside0.mk H
       clear H
       go_wp2
       go_meet
       case rel => exact ⟨_, H', ⟨by have := HJ1.out; have := HK2.out; first | omega | exact Nat.le_refl _⟩, ⟨by exact Rz HO_668001⟩, ⟨by exact Bz BK667⟩, ⟨by exact Lz1 HB GE667⟩⟩
      rw [if_neg c11] at H
      have c11b0 : decide (x5_2 < t663) = false := decide_eq_false c11
      clear c11
      (first | rw [c11b0] | (simp only [i64_w, i32_w]; rw [c11b0]) | skip)
      replace H := Option.bind_eq_some_iff.mp H
      obtain ⟨t670, A120, H⟩ := H
      replace H : ((impl_AddEdge.f k2 t663 t664 (wrap64 (t663 - 1)) 0).bind fun bt673 => ((impl_GraphOk.f k2 t663 t664).bind fun t679 => (if t679 = true then (if x4_2 = (wrap64 (2 * (t664.length : Int))) then (if (t670.length : Int) = t663 then (if bt673.2.2 = true then ((impl_GenusOf.f k2 bt673.1 bt673.2.1).bind fun t680 => ((impl_GenusOf.f k2 t663 t664).bind fun t681 => (laws_FnGraphs.j4 k2 (t680 != (wrap64 (t681 + 1))) t663 t664 bt673.1 bt673.2.1))) else (laws_FnGraphs.j4 k2 true t663 t664 bt673.1 bt673.2.1)) else (laws_FnGraphs.j4 k2 true t663 t664 bt673.1 bt673.2.1)) else (laws_FnGraphs.j4 k2 true t663 t664 bt673.1 bt673.2.1)) else (laws_FnGraphs.j4 k2 true t663 t664 bt673.1 bt673.2.1)))) = some r := H
      have A12 := Aside0.mk A120
      clear A120
      replace H := Option.bind_eq_some_iff.mp H
      obtain ⟨⟨t673, t674, t677⟩, A130, H⟩ := H
      replace H : ((impl_GraphOk.f k2 t663 t664).bind fun t679 => (if t679 = true then (if x4_2 = (wrap64 (2 * (t664.length : Int))) then (if (t670.length : Int) = t663 then (if t677 = true then ((impl_GenusOf.f k2 t673 t674).bind fun t680 => ((impl_GenusOf.f k2 t663 t664).bind fun t681 => (laws_FnGraphs.j4 k2 (t680 != (wrap64 (t681 + 1))) t663 t664 t673 t674))) else (laws_FnGraphs.j4 k2 true t663 t664 t673 t674)) else (laws_FnGraphs.j4 k2 true t663 t664 t673 t674)) else (laws_FnGraphs.j4 k2 true t663 t664 t673 t674)) else (laws_FnGraphs.j4 k2 true t663 t664 t673 t674))) = some r := H
      have A13 := Aside0.mk A130
      clear A130
      have HC14 := Aside0.mk H
      clear H
      have hcz15_0 : wr.cell? ⟨gb667, 0, none⟩ = some (.int .i64 t663) := (blk_cell BK667.out 0).trans rfl
      have hcz15_1 : wr.cell? ⟨gb667, 1, none⟩ = some (.slice Ao8 t664.length co8) := (blk_cell BK667.out 1).trans rfl
      have hfz15_0 := blk_frozen BK667.out 0
      have hfz15_1 := blk_frozen BK667.out 1
      go_upto_region 18 with (first | ((with_reducible refine gate_callee (f := 42) rfl ?_); refine goesM_ (some 47) rfl rfl Try.func42 (by kernel_rfl) rfl #[.agg #[.int .i64 t663, .slice Ao8 t664.length co8], .int .i64 0] rfl ?_; (with_reducible refine (impl_DistancesFrom.calls k2 t663 _ _ t664 0 t670 _ ?side1 ?side2 A12.out).mono ?_); (case side1 => exact Cz ((Kd.R_reads' HO_668001.out).2.2)); (case side2 => exact (Kd.R_reads' HO_668001.out).2.1); rintro e w16 ⟨v671, rfl, ho0, hb⟩; refine ⟨_, rfl, ?_⟩; replace HO_668001 := Aside0.mk (Kd.R_below (Rz HO_668001) hb); have HO672 := Aside0.mk (Kd.R_lower ho0 (below_size (by exact Lz1 HB GE667))); replace BK667 := Aside0.mk (blk_below (g := gb667) (o := .cells #[.int .i64 t663, .slice Ao8 t664.length co8] 30 (0, 0)) (Bz BK667) hb); replace HB := Aside0.mk (below_step (by exact Lz1 HB GE667) hb); (try clear hb); (try clear ho0); have hcz17_0 : w16.cell? ⟨gb667, 0, none⟩ = some (.int .i64 t663) := (blk_cell BK667.out 0).trans rfl; have hcz17_1 : w16.cell? ⟨gb667, 1, none⟩ = some (.slice Ao8 t664.length co8) := (blk_cell BK667.out 1).trans rfl; have hfz17_0 := blk_frozen BK667.out 0; have hfz17_1 := blk_frozen BK667.out 1) | ((with_reducible refine gate_callee (f := 43) rfl ?_); refine goesM_ (some 53) rfl rfl Try.func43 (by kernel_rfl) rfl #[.agg #[.int .i64 t663, .slice Ao8 t664.length co8], .int .i64 (wrap64 (t663 - 1)), .int .i64 0] rfl ?_; (with_reducible refine (impl_AddEdge.calls k2 t663 _ _ t664 (wrap64 (t663 - 1)) 0 t673 t674 t677 _ ?side1 ?side2 A13.out).mono ?_); (case side1 => exact Cz ((Kd.R_reads' HO_668001.out).2.2)); (case side2 => exact (Kd.R_reads' HO_668001.out).2.1); rintro e w18 ⟨v675, rfl, ho0, hb⟩; refine ⟨_, rfl, ?_⟩; replace HO672 := Aside0.mk (Kd.R_below (Rz HO672) hb); have HO676 := Aside0.mk (Kd.R_lower (Kd.R_new' ho0 (Kd.R_lt (Rz HO_668001))) (below_size (by exact Lz1 HB GE667))); replace HO_668001 := Aside0.mk (Kd.R_elder' (Rz HO_668001) (Kd.R_base ho0) hb); replace BK667 := Aside0.mk (blk_below (g := gb667) (o := .cells #[.int .i64 t663, .slice Ao8 t664.length co8] 30 (0, 0)) (Bz BK667) hb); replace HB := Aside0.mk (below_step (by exact Lz1 HB GE667) hb); (try clear hb); (try clear ho0)) | ((with_reducible refine gate_dst (N := 9) rfl ?_); (try (refine gate_guard (by rfl) ?_; dsimp only)); refine box_event ?hg (N := 9) ?hd (cs := #[.int .i64 0, .slice none 0 0]) (t := 30) ?hr ?_; (case hd => rfl); (case hg => rfl); (case hr => first | (go_simp; done) | (go_simp; rfl)); intro gb678 hg w19 hbox hb; replace HO_668001 := Aside0.mk (Kd.R_below (Rz HO_668001) hb); replace HO672 := Aside0.mk (Kd.R_below (Rz HO672) hb); replace HO676 := Aside0.mk (Kd.R_below (Rz HO676) hb); have BK678 := Aside0.mk (hbox); have GW678 := Aside0.mk ((by rw [hg]; exact (below_size (by exact Lz1 HB GE667)) : w.heap.size ≤ gb678)); have GE678 := Aside0.mk ((by rw [hg]; exact (below_size (by exact Lz1 HB GE667)) : w.heap.size ≤ gb678)); replace HB := Aside0.mk (below_step (by exact Lz1 HB GE667) hb); have NB667_678 := Aside0.mk ((by rw [hg]; exact Nat.ne_of_lt (blk_lt (g := gb667) (o := .cells #[.int .i64 t663, .slice Ao8 t664.length co8] 30 (0, 0)) (Bz BK667)) : gb667 ≠ gb678)); have NB678_667 := Aside0.mk ((by rw [hg]; exact Nat.ne_of_gt (blk_lt (g := gb667) (o := .cells #[.int .i64 t663, .slice Ao8 t664.length co8] 30 (0, 0)) (Bz BK667)) : gb678 ≠ gb667)); replace BK667 := Aside0.mk (blk_below (g := gb667) (o := .cells #[.int .i64 t663, .slice Ao8 t664.length co8] 30 (0, 0)) (Bz BK667) hb); clear hb hbox hg; have hnb20 := NB678_667.out; have hnc20 := NB667_678.out; have hcz21_0 : w19.cell? ⟨gb678, 0, none⟩ = some (.int .i64 0) := (blk_cell BK678.out 0).trans rfl; have hcz21_1 : w19.cell? ⟨gb678, 1, none⟩ = some (.slice none 0 0) := (blk_cell BK678.out 1).trans rfl; have hfz21_0 := blk_frozen BK678.out 0; have hfz21_1 := blk_frozen BK678.out 1; obtain ⟨Ao22, co22, eo22⟩ := Kd.R_slice HO676.out; subst eo22))
      (try simp only [Act.put, List.setIfInBounds_toArray, List.set_cons_zero, List.set_cons_succ])
      go_cut [85] (fun v85 wc => ∃ (kq : Nat) (x85_13 : Bool), v85 = .bool x85_13 ∧ Aside0 (laws_FnGraphs.j4 kq x85_13 t663 t664 t673 t674 = some r) ∧ Aside0 (kq ≤ k2) ∧ Aside0 (Kd.R k57 57 wc w.heap.size (fun k_ => some k_ ≠ ((.slice Ao22 t674.length co22) : Value).ownBlock) (.slice Ao8 t664.length co8) t664) ∧ Aside0 (Kd.R k57 57 wc w.heap.size (fun k_ => some k_ ≠ ((.slice Ao8 t664.length co8) : Value).ownBlock) (.slice Ao22 t674.length co22) t674) ∧ Aside0 (wc.heap[gb667]? = some (.cells #[.int .i64 t663, (.slice Ao8 t664.length co8)] 30 (0, 0))) ∧ Aside0 (wc.heap[gb678]? = some (.cells #[.int .i64 t673, (.slice Ao22 t674.length co22)] 30 (0, 0))) ∧ Aside0 (Below w.heap.size w wc))
      case first =>
       have H := HC14.out
       clear HC14
       replace H := Option.bind_eq_some_iff.mp H
       obtain ⟨t679, A230, H⟩ := H
       replace H : (if t679 = true then (if x4_2 = (wrap64 (2 * (t664.length : Int))) then (if (t670.length : Int) = t663 then (if t677 = true then ((impl_GenusOf.f k2 t673 t674).bind fun t680 => ((impl_GenusOf.f k2 t663 t664).bind fun t681 => (laws_FnGraphs.j4 k2 (t680 != (wrap64 (t681 + 1))) t663 t664 t673 t674))) else (laws_FnGraphs.j4 k2 true t663 t664 t673 t674)) else (laws_FnGraphs.j4 k2 true t663 t664 t673 t674)) else (laws_FnGraphs.j4 k2 true t663 t664 t673 t674)) else (laws_FnGraphs.j4 k2 true t663 t664 t673 t674)) = some r := H
       have A23 := Aside0.mk A230
       clear A230
       by_cases c24 : t679 = true
       ·subst c24
        have H1 : (if x4_2 = (wrap64 (2 * (t664.length : Int))) then (if (t670.length : Int) = t663 then (if t677 = true then ((impl_GenusOf.f k2 t673 t674).bind fun t680 => ((impl_GenusOf.f k2 t663 t664).bind fun t681 => (laws_FnGraphs.j4 k2 (t680 != (wrap64 (t681 + 1))) t663 t664 t673 t674))) else (laws_FnGraphs.j4 k2 true t663 t664 t673 t674)) else (laws_FnGraphs.j4 k2 true t663 t664 t673 t674)) else (laws_FnGraphs.j4 k2 true t663 t664 t673 t674)) = some r := by rw [if_pos rfl] at H; exact H
        clear H
        have H := H1
        clear H1
        by_cases c25 : x4_2 = (wrap64 (2 * (t664.length : Int)))
        ·rw [if_pos c25] at H
         have c25b0 : (x4_2 == (wrap64 (2 * (t664.length : Int)))) = true := beq_iff_eq.mpr c25
         have c25b1 : (x4_2 != (wrap64 (2 * (t664.length : Int)))) = false := bne_eq_false_iff_eq.mpr c25
         clear c25
         (first | rw [c25b0] | (simp only [i64_w, i32_w]; rw [c25b0]) | skip)
         by_cases c26 : (t670.length : Int) = t663
         ·rw [if_pos c26] at H
          have c26b0 : ((t670.length : Int) == t663) = true := beq_iff_eq.mpr c26
          have c26b1 : ((t670.length : Int) != t663) = false := bne_eq_false_iff_eq.mpr c26
          clear c26
          by_cases c27 : t677 = true
          ·subst c27
           have H1 : ((impl_GenusOf.f k2 t673 t674).bind fun t680 => ((impl_GenusOf.f k2 t663 t664).bind fun t681 => (laws_FnGraphs.j4 k2 (t680 != (wrap64 (t681 + 1))) t663 t664 t673 t674))) = some r := by rw [if_pos rfl] at H; exact H
           clear H
           have H := H1
           clear H1
           replace H := Option.bind_eq_some_iff.mp H
           obtain ⟨t680, A280, H⟩ := H
           replace H : ((impl_GenusOf.f k2 t663 t664).bind fun t681 => (laws_FnGraphs.j4 k2 (t680 != (wrap64 (t681 + 1))) t663 t664 t673 t674)) = some r := H
           have A28 := Aside0.mk A280
           clear A280
           replace H := Option.bind_eq_some_iff.mp H
           obtain ⟨t681, A290, H⟩ := H
           replace H : (laws_FnGraphs.j4 k2 (t680 != (wrap64 (t681 + 1))) t663 t664 t673 t674) = some r := H
           have A29 := Aside0.mk A290
           clear A290
           have H' := Aside0.mk H
           clear H
           try go_wp2
           have n0_ : Aside0 (Kd.R k57 57 ((w19.setCell ⟨gb678, 0, none⟩ (.int .i64 t673)).setCell ⟨gb678, 1, none⟩ (.slice Ao22 t674.length co22)) w.heap.size (fun k_ => some k_ ≠ (.slice Ao22 t674.length co22 : Value).ownBlock) (.slice Ao8 t664.length co8) t664) := ⟨by (with_reducible repeat (first | apply Kd.R_alloc | apply Kd.R_drewN | apply Kd.R_drew)); exact Kd.R_mono (Kd.R_far (p := ⟨gb678, 1, none⟩) (Kd.R_far (p := ⟨gb678, 0, none⟩) (Kd.R_types HO_668001.out BK678.out (by decide)) (fun _ hk => hk.2) (.int .i64 t673)) (fun _ hk => hk.2) (.slice Ao22 t674.length co22)) (fun _ hk => hk.1.2)⟩
           have n1_ : Aside0 (Kd.R (Kd.int .i64) 3 ((w19.setCell ⟨gb678, 0, none⟩ (.int .i64 t673)).setCell ⟨gb678, 1, none⟩ (.slice Ao22 t674.length co22)) w.heap.size (fun _ => True) v671 t670) := ⟨by (with_reducible repeat (first | apply Kd.R_alloc | apply Kd.R_drewN | apply Kd.R_drew)); exact Kd.R_mono (Kd.R_far (p := ⟨gb678, 1, none⟩) (Kd.R_far (p := ⟨gb678, 0, none⟩) (Kd.R_types HO672.out BK678.out (by decide)) (fun _ hk => hk.2) (.int .i64 t673)) (fun _ hk => hk.2) (.slice Ao22 t674.length co22)) (fun _ hk => trivial)⟩
           have n2_ : Aside0 (Kd.R k57 57 ((w19.setCell ⟨gb678, 0, none⟩ (.int .i64 t673)).setCell ⟨gb678, 1, none⟩ (.slice Ao22 t674.length co22)) w.heap.size (fun k_ => some k_ ≠ (.slice Ao8 t664.length co8 : Value).ownBlock) (.slice Ao22 t674.length co22) t674) := ⟨by (with_reducible repeat (first | apply Kd.R_alloc | apply Kd.R_drewN | apply Kd.R_drew)); exact Kd.R_mono (Kd.R_far (p := ⟨gb678, 1, none⟩) (Kd.R_far (p := ⟨gb678, 0, none⟩) (Kd.R_types HO676.out BK678.out (by decide)) (fun _ hk => hk.2) (.int .i64 t673)) (fun _ hk => hk.2) (.slice Ao22 t674.length co22)) (fun _ hk => hk.1.2)⟩
           have n3_ : Aside0 (((w19.setCell ⟨gb678, 0, none⟩ (.int .i64 t673)).setCell ⟨gb678, 1, none⟩ (.slice Ao22 t674.length co22)).heap[gb667]? = some (.cells #[.int .i64 t663, .slice Ao8 t664.length co8] 30 (0, 0))) := ⟨by (with_reducible repeat (first | refine blk_drewN ?_ _ | refine blk_drew ?_ | refine blk_alloc ?_ _)); refine blk_far ?_ NB667_678.out _; (with_reducible repeat (first | refine blk_drewN ?_ _ | refine blk_drew ?_ | refine blk_alloc ?_ _)); refine blk_far ?_ NB667_678.out _; exact Bz BK667⟩
           have n4_ : Aside0 (((w19.setCell ⟨gb678, 0, none⟩ (.int .i64 t673)).setCell ⟨gb678, 1, none⟩ (.slice Ao22 t674.length co22)).heap[gb678]? = some (.cells #[.int .i64 t673, .slice Ao22 t674.length co22] 30 (0, 0))) := ⟨by (with_reducible repeat (first | refine blk_drewN ?_ _ | refine blk_drew ?_ | refine blk_alloc ?_ _)); refine blk_put (cs := #[.int .i64 t673, .slice none 0 0]) ?_ 1 _ rfl; (with_reducible repeat (first | refine blk_drewN ?_ _ | refine blk_drew ?_ | refine blk_alloc ?_ _)); refine blk_put (cs := #[.int .i64 0, .slice none 0 0]) ?_ 0 _ rfl; exact Bz BK678⟩
           have n5_ : Aside0 (Below w.heap.size w ((w19.setCell ⟨gb678, 0, none⟩ (.int .i64 t673)).setCell ⟨gb678, 1, none⟩ (.slice Ao22 t674.length co22))) := ⟨by exact Lz2 HB GE667 GE678⟩
           (try clear HO_668001)
           (try clear HO672)
           (try clear HO676)
           (try clear BK667)
           (try clear BK678)
           (try clear HB)
           generalize ((w19.setCell ⟨gb678, 0, none⟩ (.int .i64 t673)).setCell ⟨gb678, 1, none⟩ (.slice Ao22 t674.length co22)) = w30 at n0_ n1_ n2_ n3_ n4_ n5_ ⊢
           have HO_668001 := n0_
           have HO672 := n1_
           have HO676 := n2_
           have BK667 := n3_
           have BK678 := n4_
           have HB := n5_
           clear n0_ n1_ n2_ n3_ n4_ n5_
           replace HO_668001 := Aside0.mk (Kd.R_drew HO_668001.out)
           replace HO672 := Aside0.mk (Kd.R_drew HO672.out)
           replace HO676 := Aside0.mk (Kd.R_drew HO676.out)
           replace BK667 := Aside0.mk (blk_drew BK667.out)
           replace BK678 := Aside0.mk (blk_drew BK678.out)
           replace HB := Aside0.mk (below_drew1 HB.out)
           refine start_ (n := 30) (S := fun w' => w'.cell? ⟨gb667, 0, none⟩ = some (.int .i64 t663) ∧ w'.cell? ⟨gb667, 1, none⟩ = some (.slice Ao8 t664.length co8) ∧ w'.cell? ⟨gb678, 0, none⟩ = some (.int .i64 t673) ∧ w'.cell? ⟨gb678, 1, none⟩ = some (.slice Ao22 t674.length co22)) (ds := []) #[false, false, false, false, false, false, false, false, false, false, false, false, false, false, false, false, false, false, false, false, false, false, false, false, false, false, false, false, false, false] (by kernel_rfl) rfl rfl ⟨(blk_cell BK667.out 0).trans rfl, (blk_cell BK667.out 1).trans rfl, (blk_cell BK678.out 0).trans rfl, (blk_cell BK678.out 1).trans rfl⟩ (fun hHeld => ?_); refine with_tabW laws_FnGraphs.tab18 laws_FnGraphs.bits18 (fun HT_ HW_ => ?_)
           generalize w30.drew = w31 at HO_668001 HO672 HO676 BK667 BK678 HB hHeld ⊢
           refine takeT_ 0 56 HT_ HW_ hHeld rfl (by rintro w' ⟨s0, s1, s2, s3⟩; go_simp; with_reducible rfl) ?_
           refine one_ (i := 1) (N := some 57) #[true, true, false, false, false, false, false, false, false, false, false, false, false, false, false, false, false, false, false, false, false, false, false, false, false, false, false, false, false, false] rfl rfl (one_of HT_.out (by kernel_rfl)) (by decide) (fun K hK => ?_)
           refine goes_ Try.func38 (by kernel_rfl) rfl #[.agg #[.int .i64 t663, .slice Ao8 t664.length co8]] (by rfl) rfl rfl (by (try simp only [List.map_toArray, List.map_cons, List.map_nil]); first | done | rfl | (simp only [List.length_drop, List.length_take]; rfl)) ?_
           with_reducible refine (impl_GraphOk.calls k2 t663 _ _ t664 true _ ?side1 ?side2 A23.out).mono ?_
           (case side1 => exact Cz ((Kd.R_reads' HO_668001.out).2.2))
           (case side2 => exact (Kd.R_reads' HO_668001.out).2.1)
           rintro e w32 ⟨rfl, hb⟩
           refine ⟨_, rfl, ?_⟩
           replace HO_668001 := Aside0.mk (Kd.R_below (Rz HO_668001) hb)
           replace HO672 := Aside0.mk (Kd.R_below (Rz HO672) hb)
           replace HO676 := Aside0.mk (Kd.R_below (Rz HO676) hb)
           replace BK667 := Aside0.mk (blk_below (g := gb667) (o := .cells #[.int .i64 t663, .slice Ao8 t664.length co8] 30 (0, 0)) (Bz BK667) hb)
           replace BK678 := Aside0.mk (blk_below (g := gb678) (o := .cells #[.int .i64 t673, .slice Ao22 t674.length co22] 30 (0, 0)) (Bz BK678) hb)
           replace HB := Aside0.mk (below_step (by exact Lz2 HB GE667 GE678) hb)
           (try clear hb)
           (try clear hb2)
           (try clear hk)
           (try clear hi)
           obtain ⟨Ao33, co33, eo33⟩ := Kd.R_slice HO672.out
           (first | subst eo33 | (injection eo33 with f1_ f2_ f3_; have f4_ := f1_.symm; have f5_ := f3_.symm; clear f1_ f2_ f3_; subst f4_; subst f5_))
           refine hK.out _ _ ⟨(blk_cell BK667.out 0).trans rfl, (blk_cell BK667.out 1).trans rfl, (blk_cell BK678.out 0).trans rfl, (blk_cell BK678.out 1).trans rfl⟩ (fun hHeld => ?_)
           clear hK K
           refine norm_ (a' := ?_) ?_ ?_
           rotate_left
           ·show Act.put _ (some 57) _ = _
            simp only [Act.put, List.setIfInBounds_toArray, List.set_cons_zero, List.set_cons_succ, i64_w, i32_w]
            rfl
           refine pureT_ 2 58 HT_ ?_
           refine pureT_ 3 59 HT_ ?_
           refine pureT_ 4 60 HT_ ?_
           refine pureT_ 5 61 HT_ ?_
           refine takeT_ 6 62 HT_ HW_ hHeld rfl (by rintro w' ⟨s0, s1, s2, s3⟩; go_simp; with_reducible rfl) ?_
           refine pureT_ 7 63 HT_ ?_
           refine pureT_ 8 64 HT_ ?_
           refine pureT_ 9 65 HT_ ?_
           refine pureT_ 10 66 HT_ ?_
           refine pureT_ 11 67 HT_ ?_
           refine pureT_ 12 68 HT_ ?_
           refine pureT_ 13 69 HT_ ?_
           refine pureT_ 14 70 HT_ ?_
           refine takeT_ 15 71 HT_ HW_ hHeld rfl (by rintro w' ⟨s0, s1, s2, s3⟩; go_simp; with_reducible rfl) ?_
           refine pureT_ 16 72 HT_ ?_
           refine pureT_ 17 73 HT_ ?_
           refine pureT_ 18 74 HT_ ?_
           refine pureT_ 19 75 HT_ ?_
           refine pureT_ 20 76 HT_ ?_
           refine pureT_ 21 77 HT_ ?_
           refine pureT_ 22 78 HT_ ?_
           refine takeT_ 23 79 HT_ HW_ hHeld rfl (by rintro w' ⟨s0, s1, s2, s3⟩; go_simp; with_reducible rfl) ?_
           refine takeT_ 25 81 HT_ HW_ hHeld rfl (by rintro w' ⟨s0, s1, s2, s3⟩; go_simp; with_reducible rfl) ?_
           refine one_ (i := 24) (N := some 80) #[true, true, true, true, true, true, true, true, true, true, true, true, true, true, true, true, true, true, true, true, true, true, true, true, true, true, false, false, false, false] rfl rfl (one_of HT_.out (by kernel_rfl)) (by decide) (fun K hK => ?_)
           refine goes_ Try.func44 (by kernel_rfl) rfl #[.agg #[.int .i64 t673, .slice Ao22 t674.length co22]] (by rfl) rfl rfl (by (try simp only [List.map_toArray, List.map_cons, List.map_nil]); first | done | rfl | (simp only [List.length_drop, List.length_take]; rfl)) ?_
           with_reducible refine (impl_GenusOf.calls k2 t673 _ _ t674 t680 _ ?side1 ?side2 A28.out).mono ?_
           (case side1 => exact Cz ((Kd.R_reads' HO676.out).2.2))
           (case side2 => exact (Kd.R_reads' HO676.out).2.1)
           rintro e w34 ⟨rfl, hb⟩
           refine ⟨_, rfl, ?_⟩
           replace HO_668001 := Aside0.mk (Kd.R_below (Rz HO_668001) hb)
           replace HO672 := Aside0.mk (Kd.R_below (Rz HO672) hb)
           replace HO676 := Aside0.mk (Kd.R_below (Rz HO676) hb)
           replace BK667 := Aside0.mk (blk_below (g := gb667) (o := .cells #[.int .i64 t663, .slice Ao8 t664.length co8] 30 (0, 0)) (Bz BK667) hb)
           replace BK678 := Aside0.mk (blk_below (g := gb678) (o := .cells #[.int .i64 t673, .slice Ao22 t674.length co22] 30 (0, 0)) (Bz BK678) hb)
           replace HB := Aside0.mk (below_step (by exact Lz2 HB GE667 GE678) hb)
           (try clear hb)
           (try clear hb2)
           (try clear hk)
           (try clear hi)
           refine hK.out _ _ ⟨(blk_cell BK667.out 0).trans rfl, (blk_cell BK667.out 1).trans rfl, (blk_cell BK678.out 0).trans rfl, (blk_cell BK678.out 1).trans rfl⟩ (fun hHeld => ?_)
           clear hK K
           refine norm_ (a' := ?_) ?_ ?_
           rotate_left
           ·show Act.put _ (some 80) _ = _
            simp only [Act.put, List.setIfInBounds_toArray, List.set_cons_zero, List.set_cons_succ, i64_w, i32_w]
            rfl
           refine one_ (i := 26) (N := some 82) #[true, true, true, true, true, true, true, true, true, true, true, true, true, true, true, true, true, true, true, true, true, true, true, true, true, true, true, false, false, false] rfl rfl (one_of HT_.out (by kernel_rfl)) (by decide) (fun K hK => ?_)
           refine goes_ Try.func44 (by kernel_rfl) rfl #[.agg #[.int .i64 t663, .slice Ao8 t664.length co8]] (by rfl) rfl rfl (by (try simp only [List.map_toArray, List.map_cons, List.map_nil]); first | done | rfl | (simp only [List.length_drop, List.length_take]; rfl)) ?_
           with_reducible refine (impl_GenusOf.calls k2 t663 _ _ t664 t681 _ ?side1 ?side2 A29.out).mono ?_
           (case side1 => exact Cz ((Kd.R_reads' HO_668001.out).2.2))
           (case side2 => exact (Kd.R_reads' HO_668001.out).2.1)
           rintro e w35 ⟨rfl, hb⟩
           refine ⟨_, rfl, ?_⟩
           replace HO_668001 := Aside0.mk (Kd.R_below (Rz HO_668001) hb)
           replace HO672 := Aside0.mk (Kd.R_below (Rz HO672) hb)
           replace HO676 := Aside0.mk (Kd.R_below (Rz HO676) hb)
           replace BK667 := Aside0.mk (blk_below (g := gb667) (o := .cells #[.int .i64 t663, .slice Ao8 t664.length co8] 30 (0, 0)) (Bz BK667) hb)
           replace BK678 := Aside0.mk (blk_below (g := gb678) (o := .cells #[.int .i64 t673, .slice Ao22 t674.length co22] 30 (0, 0)) (Bz BK678) hb)
           replace HB := Aside0.mk (below_step (by exact Lz2 HB GE667 GE678) hb)
           (try clear hb)
           (try clear hb2)
           (try clear hk)
           (try clear hi)
           refine hK.out _ _ ⟨(blk_cell BK667.out 0).trans rfl, (blk_cell BK667.out 1).trans rfl, (blk_cell BK678.out 0).trans rfl, (blk_cell BK678.out 1).trans rfl⟩ (fun hHeld => ?_)
           clear hK K
           refine norm_ (a' := ?_) ?_ ?_
           rotate_left
           ·show Act.put _ (some 82) _ = _
            simp only [Act.put, List.setIfInBounds_toArray, List.set_cons_zero, List.set_cons_succ, i64_w, i32_w]
            rfl
           refine pureT_ 27 83 HT_ ?_
           refine pureT_ 28 84 HT_ ?_
           refine pureT_ 29 85 HT_ ?_
           refine done_ (done_of HT_.out (by kernel_rfl)) ?_
           try go_wp2
           go_meet
           case rel => exact ⟨_, ((t680 != (wrap64 (t681 + 1)))), eqA, H', ⟨by have := HJ1.out; have := HK2.out; first | omega | exact Nat.le_refl _⟩, ⟨by exact Rz HO_668001⟩, ⟨by exact Rz HO676⟩, ⟨by exact Bz BK667⟩, ⟨by exact Bz BK678⟩, ⟨by exact Lz2 HB GE667 GE678⟩⟩
          replace c27 := Bool.eq_false_iff.mpr c27
          subst c27
          have H1 : (laws_FnGraphs.j4 k2 true t663 t664 t673 t674) = some r := by rw [if_neg (show ¬ (false = true) by decide)] at H; exact H
          clear H
          have H := H1
          clear H1
          have H' := Aside0.mk H
          clear H
          try go_wp2
          have n0_ : Aside0 (Kd.R k57 57 ((w19.setCell ⟨gb678, 0, none⟩ (.int .i64 t673)).setCell ⟨gb678, 1, none⟩ (.slice Ao22 t674.length co22)) w.heap.size (fun k_ => some k_ ≠ (.slice Ao22 t674.length co22 : Value).ownBlock) (.slice Ao8 t664.length co8) t664) := ⟨by (with_reducible repeat (first | apply Kd.R_alloc | apply Kd.R_drewN | apply Kd.R_drew)); exact Kd.R_mono (Kd.R_far (p := ⟨gb678, 1, none⟩) (Kd.R_far (p := ⟨gb678, 0, none⟩) (Kd.R_types HO_668001.out BK678.out (by decide)) (fun _ hk => hk.2) (.int .i64 t673)) (fun _ hk => hk.2) (.slice Ao22 t674.length co22)) (fun _ hk => hk.1.2)⟩
          have n1_ : Aside0 (Kd.R (Kd.int .i64) 3 ((w19.setCell ⟨gb678, 0, none⟩ (.int .i64 t673)).setCell ⟨gb678, 1, none⟩ (.slice Ao22 t674.length co22)) w.heap.size (fun _ => True) v671 t670) := ⟨by (with_reducible repeat (first | apply Kd.R_alloc | apply Kd.R_drewN | apply Kd.R_drew)); exact Kd.R_mono (Kd.R_far (p := ⟨gb678, 1, none⟩) (Kd.R_far (p := ⟨gb678, 0, none⟩) (Kd.R_types HO672.out BK678.out (by decide)) (fun _ hk => hk.2) (.int .i64 t673)) (fun _ hk => hk.2) (.slice Ao22 t674.length co22)) (fun _ hk => trivial)⟩
          have n2_ : Aside0 (Kd.R k57 57 ((w19.setCell ⟨gb678, 0, none⟩ (.int .i64 t673)).setCell ⟨gb678, 1, none⟩ (.slice Ao22 t674.length co22)) w.heap.size (fun k_ => some k_ ≠ (.slice Ao8 t664.length co8 : Value).ownBlock) (.slice Ao22 t674.length co22) t674) := ⟨by (with_reducible repeat (first | apply Kd.R_alloc | apply Kd.R_drewN | apply Kd.R_drew)); exact Kd.R_mono (Kd.R_far (p := ⟨gb678, 1, none⟩) (Kd.R_far (p := ⟨gb678, 0, none⟩) (Kd.R_types HO676.out BK678.out (by decide)) (fun _ hk => hk.2) (.int .i64 t673)) (fun _ hk => hk.2) (.slice Ao22 t674.length co22)) (fun _ hk => hk.1.2)⟩
          have n3_ : Aside0 (((w19.setCell ⟨gb678, 0, none⟩ (.int .i64 t673)).setCell ⟨gb678, 1, none⟩ (.slice Ao22 t674.length co22)).heap[gb667]? = some (.cells #[.int .i64 t663, .slice Ao8 t664.length co8] 30 (0, 0))) := ⟨by (with_reducible repeat (first | refine blk_drewN ?_ _ | refine blk_drew ?_ | refine blk_alloc ?_ _)); refine blk_far ?_ NB667_678.out _; (with_reducible repeat (first | refine blk_drewN ?_ _ | refine blk_drew ?_ | refine blk_alloc ?_ _)); refine blk_far ?_ NB667_678.out _; exact Bz BK667⟩
          have n4_ : Aside0 (((w19.setCell ⟨gb678, 0, none⟩ (.int .i64 t673)).setCell ⟨gb678, 1, none⟩ (.slice Ao22 t674.length co22)).heap[gb678]? = some (.cells #[.int .i64 t673, .slice Ao22 t674.length co22] 30 (0, 0))) := ⟨by (with_reducible repeat (first | refine blk_drewN ?_ _ | refine blk_drew ?_ | refine blk_alloc ?_ _)); refine blk_put (cs := #[.int .i64 t673, .slice none 0 0]) ?_ 1 _ rfl; (with_reducible repeat (first | refine blk_drewN ?_ _ | refine blk_drew ?_ | refine blk_alloc ?_ _)); refine blk_put (cs := #[.int .i64 0, .slice none 0 0]) ?_ 0 _ rfl; exact Bz BK678⟩
          have n5_ : Aside0 (Below w.heap.size w ((w19.setCell ⟨gb678, 0, none⟩ (.int .i64 t673)).setCell ⟨gb678, 1, none⟩ (.slice Ao22 t674.length co22))) := ⟨by exact Lz2 HB GE667 GE678⟩
          (try clear HO_668001)
          (try clear HO672)
          (try clear HO676)
          (try clear BK667)
          (try clear BK678)
          (try clear HB)
          generalize ((w19.setCell ⟨gb678, 0, none⟩ (.int .i64 t673)).setCell ⟨gb678, 1, none⟩ (.slice Ao22 t674.length co22)) = w36 at n0_ n1_ n2_ n3_ n4_ n5_ ⊢
          have HO_668001 := n0_
          have HO672 := n1_
          have HO676 := n2_
          have BK667 := n3_
          have BK678 := n4_
          have HB := n5_
          clear n0_ n1_ n2_ n3_ n4_ n5_
          replace HO_668001 := Aside0.mk (Kd.R_drew HO_668001.out)
          replace HO672 := Aside0.mk (Kd.R_drew HO672.out)
          replace HO676 := Aside0.mk (Kd.R_drew HO676.out)
          replace BK667 := Aside0.mk (blk_drew BK667.out)
          replace BK678 := Aside0.mk (blk_drew BK678.out)
          replace HB := Aside0.mk (below_drew1 HB.out)
          refine start_ (n := 30) (S := fun w' => w'.cell? ⟨gb667, 0, none⟩ = some (.int .i64 t663) ∧ w'.cell? ⟨gb667, 1, none⟩ = some (.slice Ao8 t664.length co8)) (ds := []) #[false, false, false, false, false, false, false, false, false, false, false, false, false, false, false, false, false, false, false, false, false, false, false, false, false, false, false, false, false, false] (by kernel_rfl) rfl rfl ⟨(blk_cell BK667.out 0).trans rfl, (blk_cell BK667.out 1).trans rfl⟩ (fun hHeld => ?_); refine with_tabW laws_FnGraphs.tab18 laws_FnGraphs.bits18 (fun HT_ HW_ => ?_)
          generalize w36.drew = w37 at HO_668001 HO672 HO676 BK667 BK678 HB hHeld ⊢
          refine takeT_ 0 56 HT_ HW_ hHeld rfl (by rintro w' ⟨s0, s1⟩; go_simp; with_reducible rfl) ?_
          refine one_ (i := 1) (N := some 57) #[true, true, false, false, false, false, false, false, false, false, false, false, false, false, false, false, false, false, false, false, false, false, false, false, false, false, false, false, false, false] rfl rfl (one_of HT_.out (by kernel_rfl)) (by decide) (fun K hK => ?_)
          refine goes_ Try.func38 (by kernel_rfl) rfl #[.agg #[.int .i64 t663, .slice Ao8 t664.length co8]] (by rfl) rfl rfl (by (try simp only [List.map_toArray, List.map_cons, List.map_nil]); first | done | rfl | (simp only [List.length_drop, List.length_take]; rfl)) ?_
          with_reducible refine (impl_GraphOk.calls k2 t663 _ _ t664 true _ ?side1 ?side2 A23.out).mono ?_
          (case side1 => exact Cz ((Kd.R_reads' HO_668001.out).2.2))
          (case side2 => exact (Kd.R_reads' HO_668001.out).2.1)
          rintro e w38 ⟨rfl, hb⟩
          refine ⟨_, rfl, ?_⟩
          replace HO_668001 := Aside0.mk (Kd.R_below (Rz HO_668001) hb)
          replace HO672 := Aside0.mk (Kd.R_below (Rz HO672) hb)
          replace HO676 := Aside0.mk (Kd.R_below (Rz HO676) hb)
          replace BK667 := Aside0.mk (blk_below (g := gb667) (o := .cells #[.int .i64 t663, .slice Ao8 t664.length co8] 30 (0, 0)) (Bz BK667) hb)
          replace BK678 := Aside0.mk (blk_below (g := gb678) (o := .cells #[.int .i64 t673, .slice Ao22 t674.length co22] 30 (0, 0)) (Bz BK678) hb)
          replace HB := Aside0.mk (below_step (by exact Lz2 HB GE667 GE678) hb)
          (try clear hb)
          (try clear hb2)
          (try clear hk)
          (try clear hi)
          obtain ⟨Ao39, co39, eo39⟩ := Kd.R_slice HO672.out
          (first | subst eo39 | (injection eo39 with f1_ f2_ f3_; have f4_ := f1_.symm; have f5_ := f3_.symm; clear f1_ f2_ f3_; subst f4_; subst f5_))
          refine hK.out _ _ ⟨(blk_cell BK667.out 0).trans rfl, (blk_cell BK667.out 1).trans rfl⟩ (fun hHeld => ?_)
          clear hK K
          refine norm_ (a' := ?_) ?_ ?_
          rotate_left
          ·show Act.put _ (some 57) _ = _
           simp only [Act.put, List.setIfInBounds_toArray, List.set_cons_zero, List.set_cons_succ, i64_w, i32_w]
           rfl
          refine pureT_ 2 58 HT_ ?_
          refine pureT_ 3 59 HT_ ?_
          refine pureT_ 4 60 HT_ ?_
          refine pureT_ 5 61 HT_ ?_
          refine takeT_ 6 62 HT_ HW_ hHeld rfl (by rintro w' ⟨s0, s1⟩; go_simp; with_reducible rfl) ?_
          refine pureT_ 7 63 HT_ ?_
          refine pureT_ 8 64 HT_ ?_
          refine pureT_ 9 65 HT_ ?_
          refine pureT_ 10 66 HT_ ?_
          refine pureT_ 11 67 HT_ ?_
          refine pureT_ 12 68 HT_ ?_
          refine pureT_ 13 69 HT_ ?_
          refine pureT_ 14 70 HT_ ?_
          refine takeT_ 15 71 HT_ HW_ hHeld rfl (by rintro w' ⟨s0, s1⟩; go_simp; with_reducible rfl) ?_
          refine pureT_ 16 72 HT_ ?_
          refine pureT_ 17 73 HT_ ?_
          refine pureT_ 18 74 HT_ ?_
          refine pureT_ 19 75 HT_ ?_
          refine pureT_ 20 76 HT_ ?_
          refine pureT_ 21 77 HT_ ?_
          refine pureT_ 22 78 HT_ ?_
          refine pureU_ 23 79 HT_ ?_
          refine pureU_ 24 80 HT_ ?_
          refine pureU_ 25 81 HT_ ?_
          refine pureU_ 26 82 HT_ ?_
          refine pureU_ 27 83 HT_ ?_
          refine pureU_ 28 84 HT_ ?_
          refine pureT_ 29 85 HT_ ?_
          refine done_ (done_of HT_.out (by kernel_rfl)) ?_
          try go_wp2
          go_meet
          case rel => exact ⟨_, (true), eqA, H', ⟨by have := HJ1.out; have := HK2.out; first | omega | exact Nat.le_refl _⟩, ⟨by exact Rz HO_668001⟩, ⟨by exact Rz HO676⟩, ⟨by exact Bz BK667⟩, ⟨by exact Bz BK678⟩, ⟨by exact Lz2 HB GE667 GE678⟩⟩
         rw [if_neg c26] at H
         have c26b0 : ((t670.length : Int) == t663) = false := beq_eq_false_iff_ne.mpr c26
         have c26b1 : ((t670.length : Int) != t663) = true := bne_iff_ne.mpr c26
         have H' := Aside0.mk H
         clear H
         try go_wp2
         have n0_ : Aside0 (Kd.R k57 57 ((w19.setCell ⟨gb678, 0, none⟩ (.int .i64 t673)).setCell ⟨gb678, 1, none⟩ (.slice Ao22 t674.length co22)) w.heap.size (fun k_ => some k_ ≠ (.slice Ao22 t674.length co22 : Value).ownBlock) (.slice Ao8 t664.length co8) t664) := ⟨by (with_reducible repeat (first | apply Kd.R_alloc | apply Kd.R_drewN | apply Kd.R_drew)); exact Kd.R_mono (Kd.R_far (p := ⟨gb678, 1, none⟩) (Kd.R_far (p := ⟨gb678, 0, none⟩) (Kd.R_types HO_668001.out BK678.out (by decide)) (fun _ hk => hk.2) (.int .i64 t673)) (fun _ hk => hk.2) (.slice Ao22 t674.length co22)) (fun _ hk => hk.1.2)⟩
         have n1_ : Aside0 (Kd.R (Kd.int .i64) 3 ((w19.setCell ⟨gb678, 0, none⟩ (.int .i64 t673)).setCell ⟨gb678, 1, none⟩ (.slice Ao22 t674.length co22)) w.heap.size (fun _ => True) v671 t670) := ⟨by (with_reducible repeat (first | apply Kd.R_alloc | apply Kd.R_drewN | apply Kd.R_drew)); exact Kd.R_mono (Kd.R_far (p := ⟨gb678, 1, none⟩) (Kd.R_far (p := ⟨gb678, 0, none⟩) (Kd.R_types HO672.out BK678.out (by decide)) (fun _ hk => hk.2) (.int .i64 t673)) (fun _ hk => hk.2) (.slice Ao22 t674.length co22)) (fun _ hk => trivial)⟩
         have n2_ : Aside0 (Kd.R k57 57 ((w19.setCell ⟨gb678, 0, none⟩ (.int .i64 t673)).setCell ⟨gb678, 1, none⟩ (.slice Ao22 t674.length co22)) w.heap.size (fun k_ => some k_ ≠ (.slice Ao8 t664.length co8 : Value).ownBlock) (.slice Ao22 t674.length co22) t674) := ⟨by (with_reducible repeat (first | apply Kd.R_alloc | apply Kd.R_drewN | apply Kd.R_drew)); exact Kd.R_mono (Kd.R_far (p := ⟨gb678, 1, none⟩) (Kd.R_far (p := ⟨gb678, 0, none⟩) (Kd.R_types HO676.out BK678.out (by decide)) (fun _ hk => hk.2) (.int .i64 t673)) (fun _ hk => hk.2) (.slice Ao22 t674.length co22)) (fun _ hk => hk.1.2)⟩
         have n3_ : Aside0 (((w19.setCell ⟨gb678, 0, none⟩ (.int .i64 t673)).setCell ⟨gb678, 1, none⟩ (.slice Ao22 t674.length co22)).heap[gb667]? = some (.cells #[.int .i64 t663, .slice Ao8 t664.length co8] 30 (0, 0))) := ⟨by (with_reducible repeat (first | refine blk_drewN ?_ _ | refine blk_drew ?_ | refine blk_alloc ?_ _)); refine blk_far ?_ NB667_678.out _; (with_reducible repeat (first | refine blk_drewN ?_ _ | refine blk_drew ?_ | refine blk_alloc ?_ _)); refine blk_far ?_ NB667_678.out _; exact Bz BK667⟩
         have n4_ : Aside0 (((w19.setCell ⟨gb678, 0, none⟩ (.int .i64 t673)).setCell ⟨gb678, 1, none⟩ (.slice Ao22 t674.length co22)).heap[gb678]? = some (.cells #[.int .i64 t673, .slice Ao22 t674.length co22] 30 (0, 0))) := ⟨by (with_reducible repeat (first | refine blk_drewN ?_ _ | refine blk_drew ?_ | refine blk_alloc ?_ _)); refine blk_put (cs := #[.int .i64 t673, .slice none 0 0]) ?_ 1 _ rfl; (with_reducible repeat (first | refine blk_drewN ?_ _ | refine blk_drew ?_ | refine blk_alloc ?_ _)); refine blk_put (cs := #[.int .i64 0, .slice none 0 0]) ?_ 0 _ rfl; exact Bz BK678⟩
         have n5_ : Aside0 (Below w.heap.size w ((w19.setCell ⟨gb678, 0, none⟩ (.int .i64 t673)).setCell ⟨gb678, 1, none⟩ (.slice Ao22 t674.length co22))) := ⟨by exact Lz2 HB GE667 GE678⟩
         (try clear HO_668001)
         (try clear HO672)
         (try clear HO676)
         (try clear BK667)
         (try clear BK678)
         (try clear HB)
         generalize ((w19.setCell ⟨gb678, 0, none⟩ (.int .i64 t673)).setCell ⟨gb678, 1, none⟩ (.slice Ao22 t674.length co22)) = w40 at n0_ n1_ n2_ n3_ n4_ n5_ ⊢
         have HO_668001 := n0_
         have HO672 := n1_
         have HO676 := n2_
         have BK667 := n3_
         have BK678 := n4_
         have HB := n5_
         clear n0_ n1_ n2_ n3_ n4_ n5_
         replace HO_668001 := Aside0.mk (Kd.R_drew HO_668001.out)
         replace HO672 := Aside0.mk (Kd.R_drew HO672.out)
         replace HO676 := Aside0.mk (Kd.R_drew HO676.out)
         replace BK667 := Aside0.mk (blk_drew BK667.out)
         replace BK678 := Aside0.mk (blk_drew BK678.out)
         replace HB := Aside0.mk (below_drew1 HB.out)
         refine start_ (n := 30) (S := fun w' => w'.cell? ⟨gb667, 0, none⟩ = some (.int .i64 t663) ∧ w'.cell? ⟨gb667, 1, none⟩ = some (.slice Ao8 t664.length co8)) (ds := []) #[false, false, false, false, false, false, false, false, false, false, false, false, false, false, false, false, false, false, false, false, false, false, false, false, false, false, false, false, false, false] (by kernel_rfl) rfl rfl ⟨(blk_cell BK667.out 0).trans rfl, (blk_cell BK667.out 1).trans rfl⟩ (fun hHeld => ?_); refine with_tabW laws_FnGraphs.tab18 laws_FnGraphs.bits18 (fun HT_ HW_ => ?_)
         generalize w40.drew = w41 at HO_668001 HO672 HO676 BK667 BK678 HB hHeld ⊢
         refine takeT_ 0 56 HT_ HW_ hHeld rfl (by rintro w' ⟨s0, s1⟩; go_simp; with_reducible rfl) ?_
         refine one_ (i := 1) (N := some 57) #[true, true, false, false, false, false, false, false, false, false, false, false, false, false, false, false, false, false, false, false, false, false, false, false, false, false, false, false, false, false] rfl rfl (one_of HT_.out (by kernel_rfl)) (by decide) (fun K hK => ?_)
         refine goes_ Try.func38 (by kernel_rfl) rfl #[.agg #[.int .i64 t663, .slice Ao8 t664.length co8]] (by rfl) rfl rfl (by (try simp only [List.map_toArray, List.map_cons, List.map_nil]); first | done | rfl | (simp only [List.length_drop, List.length_take]; rfl)) ?_
         with_reducible refine (impl_GraphOk.calls k2 t663 _ _ t664 true _ ?side1 ?side2 A23.out).mono ?_
         (case side1 => exact Cz ((Kd.R_reads' HO_668001.out).2.2))
         (case side2 => exact (Kd.R_reads' HO_668001.out).2.1)
         rintro e w42 ⟨rfl, hb⟩
         refine ⟨_, rfl, ?_⟩
         replace HO_668001 := Aside0.mk (Kd.R_below (Rz HO_668001) hb)
         replace HO672 := Aside0.mk (Kd.R_below (Rz HO672) hb)
         replace HO676 := Aside0.mk (Kd.R_below (Rz HO676) hb)
         replace BK667 := Aside0.mk (blk_below (g := gb667) (o := .cells #[.int .i64 t663, .slice Ao8 t664.length co8] 30 (0, 0)) (Bz BK667) hb)
         replace BK678 := Aside0.mk (blk_below (g := gb678) (o := .cells #[.int .i64 t673, .slice Ao22 t674.length co22] 30 (0, 0)) (Bz BK678) hb)
         replace HB := Aside0.mk (below_step (by exact Lz2 HB GE667 GE678) hb)
         (try clear hb)
         (try clear hb2)
         (try clear hk)
         (try clear hi)
         obtain ⟨Ao43, co43, eo43⟩ := Kd.R_slice HO672.out
         (first | subst eo43 | (injection eo43 with f1_ f2_ f3_; have f4_ := f1_.symm; have f5_ := f3_.symm; clear f1_ f2_ f3_; subst f4_; subst f5_))
         refine hK.out _ _ ⟨(blk_cell BK667.out 0).trans rfl, (blk_cell BK667.out 1).trans rfl⟩ (fun hHeld => ?_)
         clear hK K
         refine norm_ (a' := ?_) ?_ ?_
         rotate_left
         ·show Act.put _ (some 57) _ = _
          simp only [Act.put, List.setIfInBounds_toArray, List.set_cons_zero, List.set_cons_succ, i64_w, i32_w]
          rfl
         refine pureT_ 2 58 HT_ ?_
         refine pureT_ 3 59 HT_ ?_
         refine pureT_ 4 60 HT_ ?_
         refine pureT_ 5 61 HT_ ?_
         refine takeT_ 6 62 HT_ HW_ hHeld rfl (by rintro w' ⟨s0, s1⟩; go_simp; with_reducible rfl) ?_
         refine pureT_ 7 63 HT_ ?_
         refine pureT_ 8 64 HT_ ?_
         refine pureT_ 9 65 HT_ ?_
         refine pureT_ 10 66 HT_ ?_
         refine pureT_ 11 67 HT_ ?_
         refine pureT_ 12 68 HT_ ?_
         refine pureT_ 13 69 HT_ ?_
         refine pureT_ 14 70 HT_ ?_
         refine takeT_ 15 71 HT_ HW_ hHeld rfl (by rintro w' ⟨s0, s1⟩; go_simp; with_reducible rfl) ?_
         refine pureT_ 16 72 HT_ ?_
         refine pureT_ 17 73 HT_ ?_
         refine pureT_ 18 74 HT_ ?_
         refine pureU_ 19 75 HT_ ?_
         refine pureU_ 20 76 HT_ ?_
         refine pureT_ 21 77 HT_ ?_
         refine pureT_ 22 78 HT_ ?_
         refine pureU_ 23 79 HT_ ?_
         refine pureU_ 24 80 HT_ ?_
         refine pureU_ 25 81 HT_ ?_
         refine pureU_ 26 82 HT_ ?_
         refine pureU_ 27 83 HT_ ?_
         refine pureU_ 28 84 HT_ ?_
         refine pureT_ 29 85 HT_ ?_
         refine done_ (done_of HT_.out (by kernel_rfl)) ?_
         try go_wp2
         go_meet
         case rel => exact ⟨_, (true), eqA, H', ⟨by have := HJ1.out; have := HK2.out; first | omega | exact Nat.le_refl _⟩, ⟨by exact Rz HO_668001⟩, ⟨by exact Rz HO676⟩, ⟨by exact Bz BK667⟩, ⟨by exact Bz BK678⟩, ⟨by exact Lz2 HB GE667 GE678⟩⟩
        rw [if_neg c25] at H
        have c25b0 : (x4_2 == (wrap64 (2 * (t664.length : Int)))) = false := beq_eq_false_iff_ne.mpr c25
        have c25b1 : (x4_2 != (wrap64 (2 * (t664.length : Int)))) = true := bne_iff_ne.mpr c25
        (first | rw [c25b0] | (simp only [i64_w, i32_w]; rw [c25b0]) | skip)
        have H' := Aside0.mk H
        clear H
        try go_wp2
        have n0_ : Aside0 (Kd.R k57 57 ((w19.setCell ⟨gb678, 0, none⟩ (.int .i64 t673)).setCell ⟨gb678, 1, none⟩ (.slice Ao22 t674.length co22)) w.heap.size (fun k_ => some k_ ≠ (.slice Ao22 t674.length co22 : Value).ownBlock) (.slice Ao8 t664.length co8) t664) := ⟨by (with_reducible repeat (first | apply Kd.R_alloc | apply Kd.R_drewN | apply Kd.R_drew)); exact Kd.R_mono (Kd.R_far (p := ⟨gb678, 1, none⟩) (Kd.R_far (p := ⟨gb678, 0, none⟩) (Kd.R_types HO_668001.out BK678.out (by decide)) (fun _ hk => hk.2) (.int .i64 t673)) (fun _ hk => hk.2) (.slice Ao22 t674.length co22)) (fun _ hk => hk.1.2)⟩
        have n1_ : Aside0 (Kd.R (Kd.int .i64) 3 ((w19.setCell ⟨gb678, 0, none⟩ (.int .i64 t673)).setCell ⟨gb678, 1, none⟩ (.slice Ao22 t674.length co22)) w.heap.size (fun _ => True) v671 t670) := ⟨by (with_reducible repeat (first | apply Kd.R_alloc | apply Kd.R_drewN | apply Kd.R_drew)); exact Kd.R_mono (Kd.R_far (p := ⟨gb678, 1, none⟩) (Kd.R_far (p := ⟨gb678, 0, none⟩) (Kd.R_types HO672.out BK678.out (by decide)) (fun _ hk => hk.2) (.int .i64 t673)) (fun _ hk => hk.2) (.slice Ao22 t674.length co22)) (fun _ hk => trivial)⟩
        have n2_ : Aside0 (Kd.R k57 57 ((w19.setCell ⟨gb678, 0, none⟩ (.int .i64 t673)).setCell ⟨gb678, 1, none⟩ (.slice Ao22 t674.length co22)) w.heap.size (fun k_ => some k_ ≠ (.slice Ao8 t664.length co8 : Value).ownBlock) (.slice Ao22 t674.length co22) t674) := ⟨by (with_reducible repeat (first | apply Kd.R_alloc | apply Kd.R_drewN | apply Kd.R_drew)); exact Kd.R_mono (Kd.R_far (p := ⟨gb678, 1, none⟩) (Kd.R_far (p := ⟨gb678, 0, none⟩) (Kd.R_types HO676.out BK678.out (by decide)) (fun _ hk => hk.2) (.int .i64 t673)) (fun _ hk => hk.2) (.slice Ao22 t674.length co22)) (fun _ hk => hk.1.2)⟩
        have n3_ : Aside0 (((w19.setCell ⟨gb678, 0, none⟩ (.int .i64 t673)).setCell ⟨gb678, 1, none⟩ (.slice Ao22 t674.length co22)).heap[gb667]? = some (.cells #[.int .i64 t663, .slice Ao8 t664.length co8] 30 (0, 0))) := ⟨by (with_reducible repeat (first | refine blk_drewN ?_ _ | refine blk_drew ?_ | refine blk_alloc ?_ _)); refine blk_far ?_ NB667_678.out _; (with_reducible repeat (first | refine blk_drewN ?_ _ | refine blk_drew ?_ | refine blk_alloc ?_ _)); refine blk_far ?_ NB667_678.out _; exact Bz BK667⟩
        have n4_ : Aside0 (((w19.setCell ⟨gb678, 0, none⟩ (.int .i64 t673)).setCell ⟨gb678, 1, none⟩ (.slice Ao22 t674.length co22)).heap[gb678]? = some (.cells #[.int .i64 t673, .slice Ao22 t674.length co22] 30 (0, 0))) := ⟨by (with_reducible repeat (first | refine blk_drewN ?_ _ | refine blk_drew ?_ | refine blk_alloc ?_ _)); refine blk_put (cs := #[.int .i64 t673, .slice none 0 0]) ?_ 1 _ rfl; (with_reducible repeat (first | refine blk_drewN ?_ _ | refine blk_drew ?_ | refine blk_alloc ?_ _)); refine blk_put (cs := #[.int .i64 0, .slice none 0 0]) ?_ 0 _ rfl; exact Bz BK678⟩
        have n5_ : Aside0 (Below w.heap.size w ((w19.setCell ⟨gb678, 0, none⟩ (.int .i64 t673)).setCell ⟨gb678, 1, none⟩ (.slice Ao22 t674.length co22))) := ⟨by exact Lz2 HB GE667 GE678⟩
        (try clear HO_668001)
        (try clear HO672)
        (try clear HO676)
        (try clear BK667)
        (try clear BK678)
        (try clear HB)
        generalize ((w19.setCell ⟨gb678, 0, none⟩ (.int .i64 t673)).setCell ⟨gb678, 1, none⟩ (.slice Ao22 t674.length co22)) = w44 at n0_ n1_ n2_ n3_ n4_ n5_ ⊢
        have HO_668001 := n0_
        have HO672 := n1_
        have HO676 := n2_
        have BK667 := n3_
        have BK678 := n4_
        have HB := n5_
        clear n0_ n1_ n2_ n3_ n4_ n5_
        replace HO_668001 := Aside0.mk (Kd.R_drew HO_668001.out)
        replace HO672 := Aside0.mk (Kd.R_drew HO672.out)
        replace HO676 := Aside0.mk (Kd.R_drew HO676.out)
        replace BK667 := Aside0.mk (blk_drew BK667.out)
        replace BK678 := Aside0.mk (blk_drew BK678.out)
        replace HB := Aside0.mk (below_drew1 HB.out)
        refine start_ (n := 30) (S := fun w' => w'.cell? ⟨gb667, 0, none⟩ = some (.int .i64 t663) ∧ w'.cell? ⟨gb667, 1, none⟩ = some (.slice Ao8 t664.length co8)) (ds := []) #[false, false, false, false, false, false, false, false, false, false, false, false, false, false, false, false, false, false, false, false, false, false, false, false, false, false, false, false, false, false] (by kernel_rfl) rfl rfl ⟨(blk_cell BK667.out 0).trans rfl, (blk_cell BK667.out 1).trans rfl⟩ (fun hHeld => ?_); refine with_tabW laws_FnGraphs.tab18 laws_FnGraphs.bits18 (fun HT_ HW_ => ?_)
        generalize w44.drew = w45 at HO_668001 HO672 HO676 BK667 BK678 HB hHeld ⊢
        refine takeT_ 0 56 HT_ HW_ hHeld rfl (by rintro w' ⟨s0, s1⟩; go_simp; with_reducible rfl) ?_
        refine one_ (i := 1) (N := some 57) #[true, true, false, false, false, false, false, false, false, false, false, false, false, false, false, false, false, false, false, false, false, false, false, false, false, false, false, false, false, false] rfl rfl (one_of HT_.out (by kernel_rfl)) (by decide) (fun K hK => ?_)
        refine goes_ Try.func38 (by kernel_rfl) rfl #[.agg #[.int .i64 t663, .slice Ao8 t664.length co8]] (by rfl) rfl rfl (by (try simp only [List.map_toArray, List.map_cons, List.map_nil]); first | done | rfl | (simp only [List.length_drop, List.length_take]; rfl)) ?_
        with_reducible refine (impl_GraphOk.calls k2 t663 _ _ t664 true _ ?side1 ?side2 A23.out).mono ?_
        (case side1 => exact Cz ((Kd.R_reads' HO_668001.out).2.2))
        (case side2 => exact (Kd.R_reads' HO_668001.out).2.1)
        rintro e w46 ⟨rfl, hb⟩
        refine ⟨_, rfl, ?_⟩
        replace HO_668001 := Aside0.mk (Kd.R_below (Rz HO_668001) hb)
        replace HO672 := Aside0.mk (Kd.R_below (Rz HO672) hb)
        replace HO676 := Aside0.mk (Kd.R_below (Rz HO676) hb)
        replace BK667 := Aside0.mk (blk_below (g := gb667) (o := .cells #[.int .i64 t663, .slice Ao8 t664.length co8] 30 (0, 0)) (Bz BK667) hb)
        replace BK678 := Aside0.mk (blk_below (g := gb678) (o := .cells #[.int .i64 t673, .slice Ao22 t674.length co22] 30 (0, 0)) (Bz BK678) hb)
        replace HB := Aside0.mk (below_step (by exact Lz2 HB GE667 GE678) hb)
        (try clear hb)
        (try clear hb2)
        (try clear hk)
        (try clear hi)
        refine hK.out _ _ ⟨(blk_cell BK667.out 0).trans rfl, (blk_cell BK667.out 1).trans rfl⟩ (fun hHeld => ?_)
        clear hK K
        refine norm_ (a' := ?_) ?_ ?_
        rotate_left
        ·show Act.put _ (some 57) _ = _
         simp only [Act.put, List.setIfInBounds_toArray, List.set_cons_zero, List.set_cons_succ, i64_w, i32_w]
         rfl
        refine pureT_ 2 58 HT_ ?_
        refine pureT_ 3 59 HT_ ?_
        refine pureT_ 4 60 HT_ ?_
        refine pureT_ 5 61 HT_ ?_
        refine takeT_ 6 62 HT_ HW_ hHeld rfl (by rintro w' ⟨s0, s1⟩; go_simp; with_reducible rfl) ?_
        refine pureT_ 7 63 HT_ ?_
        refine pureT_ 8 64 HT_ ?_
        refine pureT_ 9 65 HT_ ?_
        refine pureT_ 10 66 HT_ ?_
        refine pureT_ 11 67 HT_ ?_
        refine pureU_ 12 68 HT_ ?_
        refine pureU_ 13 69 HT_ ?_
        refine pureU_ 14 70 HT_ ?_
        refine pureU_ 15 71 HT_ ?_
        refine pureU_ 16 72 HT_ ?_
        refine pureT_ 17 73 HT_ ?_
        refine pureT_ 18 74 HT_ ?_
        refine pureU_ 19 75 HT_ ?_
        refine pureU_ 20 76 HT_ ?_
        refine pureT_ 21 77 HT_ ?_
        refine pureT_ 22 78 HT_ ?_
        refine pureU_ 23 79 HT_ ?_
        refine pureU_ 24 80 HT_ ?_
        refine pureU_ 25 81 HT_ ?_
        refine pureU_ 26 82 HT_ ?_
        refine pureU_ 27 83 HT_ ?_
        refine pureU_ 28 84 HT_ ?_
        refine pureT_ 29 85 HT_ ?_
        refine done_ (done_of HT_.out (by kernel_rfl)) ?_
        try go_wp2
        go_meet
        case rel => exact ⟨_, (true), eqA, H', ⟨by have := HJ1.out; have := HK2.out; first | omega | exact Nat.le_refl _⟩, ⟨by exact Rz HO_668001⟩, ⟨by exact Rz HO676⟩, ⟨by exact Bz BK667⟩, ⟨by exact Bz BK678⟩, ⟨by exact Lz2 HB GE667 GE678⟩⟩
       replace c24 := Bool.eq_false_iff.mpr c24
       subst c24
       have H1 : (laws_FnGraphs.j4 k2 true t663 t664 t673 t674) = some r := by rw [if_neg (show ¬ (false = true) by decide)] at H; exact H
       clear H
       have H := H1
       clear H1
       have H' := Aside0.mk H
       clear H
       try go_wp2
       have n0_ : Aside0 (Kd.R k57 57 ((w19.setCell ⟨gb678, 0, none⟩ (.int .i64 t673)).setCell ⟨gb678, 1, none⟩ (.slice Ao22 t674.length co22)) w.heap.size (fun k_ => some k_ ≠ (.slice Ao22 t674.length co22 : Value).ownBlock) (.slice Ao8 t664.length co8) t664) := ⟨by (with_reducible repeat (first | apply Kd.R_alloc | apply Kd.R_drewN | apply Kd.R_drew)); exact Kd.R_mono (Kd.R_far (p := ⟨gb678, 1, none⟩) (Kd.R_far (p := ⟨gb678, 0, none⟩) (Kd.R_types HO_668001.out BK678.out (by decide)) (fun _ hk => hk.2) (.int .i64 t673)) (fun _ hk => hk.2) (.slice Ao22 t674.length co22)) (fun _ hk => hk.1.2)⟩
       have n1_ : Aside0 (Kd.R (Kd.int .i64) 3 ((w19.setCell ⟨gb678, 0, none⟩ (.int .i64 t673)).setCell ⟨gb678, 1, none⟩ (.slice Ao22 t674.length co22)) w.heap.size (fun _ => True) v671 t670) := ⟨by (with_reducible repeat (first | apply Kd.R_alloc | apply Kd.R_drewN | apply Kd.R_drew)); exact Kd.R_mono (Kd.R_far (p := ⟨gb678, 1, none⟩) (Kd.R_far (p := ⟨gb678, 0, none⟩) (Kd.R_types HO672.out BK678.out (by decide)) (fun _ hk => hk.2) (.int .i64 t673)) (fun _ hk => hk.2) (.slice Ao22 t674.length co22)) (fun _ hk => trivial)⟩
       have n2_ : Aside0 (Kd.R k57 57 ((w19.setCell ⟨gb678, 0, none⟩ (.int .i64 t673)).setCell ⟨gb678, 1, none⟩ (.slice Ao22 t674.length co22)) w.heap.size (fun k_ => some k_ ≠ (.slice Ao8 t664.length co8 : Value).ownBlock) (.slice Ao22 t674.length co22) t674) := ⟨by (with_reducible repeat (first | apply Kd.R_alloc | apply Kd.R_drewN | apply Kd.R_drew)); exact Kd.R_mono (Kd.R_far (p := ⟨gb678, 1, none⟩) (Kd.R_far (p := ⟨gb678, 0, none⟩) (Kd.R_types HO676.out BK678.out (by decide)) (fun _ hk => hk.2) (.int .i64 t673)) (fun _ hk => hk.2) (.slice Ao22 t674.length co22)) (fun _ hk => hk.1.2)⟩
       have n3_ : Aside0 (((w19.setCell ⟨gb678, 0, none⟩ (.int .i64 t673)).setCell ⟨gb678, 1, none⟩ (.slice Ao22 t674.length co22)).heap[gb667]? = some (.cells #[.int .i64 t663, .slice Ao8 t664.length co8] 30 (0, 0))) := ⟨by (with_reducible repeat (first | refine blk_drewN ?_ _ | refine blk_drew ?_ | refine blk_alloc ?_ _)); refine blk_far ?_ NB667_678.out _; (with_reducible repeat (first | refine blk_drewN ?_ _ | refine blk_drew ?_ | refine blk_alloc ?_ _)); refine blk_far ?_ NB667_678.out _; exact Bz BK667⟩
       have n4_ : Aside0 (((w19.setCell ⟨gb678, 0, none⟩ (.int .i64 t673)).setCell ⟨gb678, 1, none⟩ (.slice Ao22 t674.length co22)).heap[gb678]? = some (.cells #[.int .i64 t673, .slice Ao22 t674.length co22] 30 (0, 0))) := ⟨by (with_reducible repeat (first | refine blk_drewN ?_ _ | refine blk_drew ?_ | refine blk_alloc ?_ _)); refine blk_put (cs := #[.int .i64 t673, .slice none 0 0]) ?_ 1 _ rfl; (with_reducible repeat (first | refine blk_drewN ?_ _ | refine blk_drew ?_ | refine blk_alloc ?_ _)); refine blk_put (cs := #[.int .i64 0, .slice none 0 0]) ?_ 0 _ rfl; exact Bz BK678⟩
       have n5_ : Aside0 (Below w.heap.size w ((w19.setCell ⟨gb678, 0, none⟩ (.int .i64 t673)).setCell ⟨gb678, 1, none⟩ (.slice Ao22 t674.length co22))) := ⟨by exact Lz2 HB GE667 GE678⟩
       (try clear HO_668001)
       (try clear HO672)
       (try clear HO676)
       (try clear BK667)
       (try clear BK678)
       (try clear HB)
       generalize ((w19.setCell ⟨gb678, 0, none⟩ (.int .i64 t673)).setCell ⟨gb678, 1, none⟩ (.slice Ao22 t674.length co22)) = w47 at n0_ n1_ n2_ n3_ n4_ n5_ ⊢
       have HO_668001 := n0_
       have HO672 := n1_
       have HO676 := n2_
       have BK667 := n3_
       have BK678 := n4_
       have HB := n5_
       clear n0_ n1_ n2_ n3_ n4_ n5_
       replace HO_668001 := Aside0.mk (Kd.R_drew HO_668001.out)
       replace HO672 := Aside0.mk (Kd.R_drew HO672.out)
       replace HO676 := Aside0.mk (Kd.R_drew HO676.out)
       replace BK667 := Aside0.mk (blk_drew BK667.out)
       replace BK678 := Aside0.mk (blk_drew BK678.out)
       replace HB := Aside0.mk (below_drew1 HB.out)
       refine start_ (n := 30) (S := fun w' => w'.cell? ⟨gb667, 0, none⟩ = some (.int .i64 t663) ∧ w'.cell? ⟨gb667, 1, none⟩ = some (.slice Ao8 t664.length co8)) (ds := []) #[false, false, false, false, false, false, false, false, false, false, false, false, false, false, false, false, false, false, false, false, false, false, false, false, false, false, false, false, false, false] (by kernel_rfl) rfl rfl ⟨(blk_cell BK667.out 0).trans rfl, (blk_cell BK667.out 1).trans rfl⟩ (fun hHeld => ?_); refine with_tabW laws_FnGraphs.tab18 laws_FnGraphs.bits18 (fun HT_ HW_ => ?_)
       generalize w47.drew = w48 at HO_668001 HO672 HO676 BK667 BK678 HB hHeld ⊢
       refine takeT_ 0 56 HT_ HW_ hHeld rfl (by rintro w' ⟨s0, s1⟩; go_simp; with_reducible rfl) ?_
       refine one_ (i := 1) (N := some 57) #[true, true, false, false, false, false, false, false, false, false, false, false, false, false, false, false, false, false, false, false, false, false, false, false, false, false, false, false, false, false] rfl rfl (one_of HT_.out (by kernel_rfl)) (by decide) (fun K hK => ?_)
       refine goes_ Try.func38 (by kernel_rfl) rfl #[.agg #[.int .i64 t663, .slice Ao8 t664.length co8]] (by rfl) rfl rfl (by (try simp only [List.map_toArray, List.map_cons, List.map_nil]); first | done | rfl | (simp only [List.length_drop, List.length_take]; rfl)) ?_
       with_reducible refine (impl_GraphOk.calls k2 t663 _ _ t664 false _ ?side1 ?side2 A23.out).mono ?_
       (case side1 => exact Cz ((Kd.R_reads' HO_668001.out).2.2))
       (case side2 => exact (Kd.R_reads' HO_668001.out).2.1)
       rintro e w49 ⟨rfl, hb⟩
       refine ⟨_, rfl, ?_⟩
       replace HO_668001 := Aside0.mk (Kd.R_below (Rz HO_668001) hb)
       replace HO672 := Aside0.mk (Kd.R_below (Rz HO672) hb)
       replace HO676 := Aside0.mk (Kd.R_below (Rz HO676) hb)
       replace BK667 := Aside0.mk (blk_below (g := gb667) (o := .cells #[.int .i64 t663, .slice Ao8 t664.length co8] 30 (0, 0)) (Bz BK667) hb)
       replace BK678 := Aside0.mk (blk_below (g := gb678) (o := .cells #[.int .i64 t673, .slice Ao22 t674.length co22] 30 (0, 0)) (Bz BK678) hb)
       replace HB := Aside0.mk (below_step (by exact Lz2 HB GE667 GE678) hb)
       (try clear hb)
       (try clear hb2)
       (try clear hk)
       (try clear hi)
       refine hK.out _ _ ⟨(blk_cell BK667.out 0).trans rfl, (blk_cell BK667.out 1).trans rfl⟩ (fun hHeld => ?_)
       clear hK K
       refine norm_ (a' := ?_) ?_ ?_
       rotate_left
       ·show Act.put _ (some 57) _ = _
        simp only [Act.put, List.setIfInBounds_toArray, List.set_cons_zero, List.set_cons_succ, i64_w, i32_w]
        rfl
       refine pureT_ 2 58 HT_ ?_
       refine pureT_ 3 59 HT_ ?_
       refine pureU_ 4 60 HT_ ?_
       refine pureU_ 5 61 HT_ ?_
       refine pureU_ 6 62 HT_ ?_
       refine pureU_ 7 63 HT_ ?_
       refine pureU_ 8 64 HT_ ?_
       refine pureU_ 9 65 HT_ ?_
       refine pureT_ 10 66 HT_ ?_
       refine pureT_ 11 67 HT_ ?_
       refine pureU_ 12 68 HT_ ?_
       refine pureU_ 13 69 HT_ ?_
       refine pureU_ 14 70 HT_ ?_
       refine pureU_ 15 71 HT_ ?_
       refine pureU_ 16 72 HT_ ?_
       refine pureT_ 17 73 HT_ ?_
       refine pureT_ 18 74 HT_ ?_
       refine pureU_ 19 75 HT_ ?_
       refine pureU_ 20 76 HT_ ?_
       refine pureT_ 21 77 HT_ ?_
       refine pureT_ 22 78 HT_ ?_
       refine pureU_ 23 79 HT_ ?_
       refine pureU_ 24 80 HT_ ?_
       refine pureU_ 25 81 HT_ ?_
       refine pureU_ 26 82 HT_ ?_
       refine pureU_ 27 83 HT_ ?_
       refine pureU_ 28 84 HT_ ?_
       refine pureT_ 29 85 HT_ ?_
       refine done_ (done_of HT_.out (by kernel_rfl)) ?_
       try go_wp2
       go_meet
       case rel => exact ⟨_, (true), eqA, H', ⟨by have := HJ1.out; have := HK2.out; first | omega | exact Nat.le_refl _⟩, ⟨by exact Rz HO_668001⟩, ⟨by exact Rz HO676⟩, ⟨by exact Bz BK667⟩, ⟨by exact Bz BK678⟩, ⟨by exact Lz2 HB GE667 GE678⟩⟩
      case rest =>
       clear HC14
       try clear c3
       try clear c24
       try clear c25
       try clear c25b0
       try clear c25b1
       obtain ⟨kq, x85_13, rfl, HA, HJ13, HO_668001, HO_679001, BK667, BK678, HB⟩ := hcut
       cases kq with
       | zero => exact absurd HA.out (by simp [laws_FnGraphs.j4])
       | succ kj13 =>
        have H := HA.out
        clear HA
        simp only [laws_FnGraphs.j4] at H
        have HC50 := Aside0.mk H
        clear H
        go_upto_if 85 with (fail)
        go_cut [] (fun wc => ∃ (kq : Nat), Aside0 (laws_FnGraphs.j5 kq t663 t664 t673 t674 = some r) ∧ Aside0 (kq ≤ kj13) ∧ Aside0 (Kd.R k57 57 wc w.heap.size (fun k_ => some k_ ≠ ((.slice Ao22 t674.length co22) : Value).ownBlock) (.slice Ao8 t664.length co8) t664) ∧ Aside0 (Kd.R k57 57 wc w.heap.size (fun k_ => some k_ ≠ ((.slice Ao8 t664.length co8) : Value).ownBlock) (.slice Ao22 t674.length co22) t674) ∧ Aside0 (wc.heap[gb667]? = some (.cells #[.int .i64 t663, (.slice Ao8 t664.length co8)] 30 (0, 0))) ∧ Aside0 (wc.heap[gb678]? = some (.cells #[.int .i64 t673, (.slice Ao22 t674.length co22)] 30 (0, 0))) ∧ Aside0 (Below w.heap.size w wc))
        case first =>
         have H := HC50.out
         clear HC50
         by_cases c51 : x85_13 = true
         ·subst c51
          have H1 : (some false) = some r := by rw [if_pos rfl] at H; exact H
          clear H
          have H := H1
          clear H1
          exact absurd (Option.some.inj H) (by rw [HR_.out]; decide)
         replace c51 := Bool.eq_false_iff.mpr c51
         subst c51
         have H1 : (laws_FnGraphs.j5 kj13 t663 t664 t673 t674) = some r := by rw [if_neg (show ¬ (false = true) by decide)] at H; exact H
         clear H
         have H := H1
         clear H1
         have H' := Aside0.mk H
         clear H
         go_wp2
         go_meet
         case rel => exact ⟨_, H', ⟨by have := HJ1.out; have := HK2.out; have := HJ13.out; first | omega | exact Nat.le_refl _⟩, ⟨by exact Rz HO_668001⟩, ⟨by exact Rz HO_679001⟩, ⟨by exact Bz BK667⟩, ⟨by exact Bz BK678⟩, ⟨by exact Lz2 HB GE667 GE678⟩⟩
        case rest =>
         clear HC50
         try clear c3
         try clear c24
         try clear c25
         try clear c25b0
         try clear c25b1
         try clear c51
         obtain ⟨kq, HA, HJ49, HO_668001, HO_679001, BK667, BK678, HB⟩ := hcut
         cases kq with
         | zero => exact absurd HA.out (by simp [laws_FnGraphs.j5])
         | succ kj49 =>
          have H := HA.out
          clear HA
          simp only [laws_FnGraphs.j5] at H
          have H' := Aside0.mk H
          clear H
          have hnb52 := NB678_667.out
          have hnc52 := NB667_678.out
          have hcz53_0 : wc.cell? ⟨gb678, 0, none⟩ = some (.int .i64 t673) := (blk_cell BK678.out 0).trans rfl
          have hcz53_1 : wc.cell? ⟨gb678, 1, none⟩ = some (.slice Ao22 t674.length co22) := (blk_cell BK678.out 1).trans rfl
          have hfz53_0 := blk_frozen BK678.out 0
          have hfz53_1 := blk_frozen BK678.out 1
          go_wp2
          go_loopg [89] kj49 (fun kq v89 w' => ∃ (x89_5 : Int), v89 = .int .i64 x89_5 ∧ Aside0 (laws_FnGraphs.l2 kq t674 (t674.length : Int) x89_5 t663 t664 t673 t674 = some r) ∧ Aside0 (kq ≤ kj49) ∧ Aside0 (Kd.R k57 57 w' w.heap.size (fun k_ => some k_ ≠ ((.slice Ao8 t664.length co8) : Value).ownBlock) (.slice Ao22 t674.length co22) t674) ∧ Aside0 (Kd.R k57 57 w' w.heap.size (fun k_ => some k_ ≠ ((.slice Ao22 t674.length co22) : Value).ownBlock ∧ some k_ ≠ ((.slice Ao22 t674.length co22) : Value).ownBlock) (.slice Ao8 t664.length co8) t664) ∧ Aside0 (Kd.R k57 57 w' w.heap.size (fun k_ => some k_ ≠ ((.slice Ao8 t664.length co8) : Value).ownBlock) (.slice Ao22 t674.length co22) t674) ∧ Aside0 (w'.heap[gb667]? = some (.cells #[.int .i64 t663, (.slice Ao8 t664.length co8)] 30 (0, 0))) ∧ Aside0 (w'.heap[gb678]? = some (.cells #[.int .i64 t673, (.slice Ao22 t674.length co22)] 30 (0, 0))) ∧ Aside0 (Below w.heap.size w w'))
          case atStart => exact ⟨(0), eqA, H', ⟨Nat.le_refl _⟩, ⟨by exact Rz HO_679001⟩, ⟨by (with_reducible repeat (first | apply Kd.R_alloc | apply Kd.R_drewN | apply Kd.R_drew)); exact Kd.R_mono HO_668001.out (fun _ hk => ⟨hk, hk⟩)⟩, ⟨by exact Rz HO_679001⟩, ⟨by exact Bz BK667⟩, ⟨by exact Bz BK678⟩, ⟨by exact Lz2 HB GE667 GE678⟩⟩
          case round =>
           clear H'
           try clear c3
           try clear c24
           try clear c25
           try clear c25b0
           try clear c25b1
           try clear c51
           obtain ⟨x89_5, rfl, HA, HK5, HO_87, HO_668001, HO_679001, BK667, BK678, HB⟩ := hrel
           cases gk with
           | zero => exact absurd HA.out (by simp [laws_FnGraphs.l2])
           | succ k5 =>
            have H := HA.out
            clear HA
            simp only [laws_FnGraphs.l2] at H
            have HC54 := Aside0.mk H
            clear H
            go_upto_if 90 with (fail)
            go_cut [] (fun wc => ∃ (kq : Nat), Aside0 (laws_FnGraphs.j7 kq t674 (t674.length : Int) x89_5 t663 t664 t673 t674 = some r) ∧ Aside0 (kq ≤ k5) ∧ Aside0 (Kd.R k57 57 wc w.heap.size (fun k_ => some k_ ≠ ((.slice Ao8 t664.length co8) : Value).ownBlock) (.slice Ao22 t674.length co22) t674) ∧ Aside0 (Kd.R k57 57 wc w.heap.size (fun k_ => some k_ ≠ ((.slice Ao22 t674.length co22) : Value).ownBlock ∧ some k_ ≠ ((.slice Ao22 t674.length co22) : Value).ownBlock) (.slice Ao8 t664.length co8) t664) ∧ Aside0 (Kd.R k57 57 wc w.heap.size (fun k_ => some k_ ≠ ((.slice Ao8 t664.length co8) : Value).ownBlock) (.slice Ao22 t674.length co22) t674) ∧ Aside0 (wc.heap[gb667]? = some (.cells #[.int .i64 t663, (.slice Ao8 t664.length co8)] 30 (0, 0))) ∧ Aside0 (wc.heap[gb678]? = some (.cells #[.int .i64 t673, (.slice Ao22 t674.length co22)] 30 (0, 0))) ∧ Aside0 (Below w.heap.size w wc))
            case first =>
             have H := HC54.out
             clear HC54
             by_cases c55 : x89_5 < (t674.length : Int)
             ·rw [if_pos c55] at H
              have c55b0 : decide (x89_5 < (t674.length : Int)) = true := decide_eq_true c55
              clear c55
              (first | rw [c55b0] | (simp only [i64_w, i32_w]; rw [c55b0]) | skip)
              have H' := Aside0.mk H
              clear H
              go_wp2
              go_meet
              case rel => exact ⟨_, H', ⟨by have := HJ1.out; have := HK2.out; have := HJ13.out; have := HJ49.out; have := HK5.out; first | omega | exact Nat.le_refl _⟩, ⟨by exact Rz HO_87⟩, ⟨by exact Rz HO_668001⟩, ⟨by exact Rz HO_679001⟩, ⟨by exact Bz BK667⟩, ⟨by exact Bz BK678⟩, ⟨by exact Lz2 HB GE667 GE678⟩⟩
             rw [if_neg c55] at H
             have c55b0 : decide (x89_5 < (t674.length : Int)) = false := decide_eq_false c55
             clear c55
             (first | rw [c55b0] | (simp only [i64_w, i32_w]; rw [c55b0]) | skip)
             obtain rfl := Option.some.inj H
             go_wp2
             go_ret
             exact ⟨by first | rfl | (simp [errW_none, errW_some] <;> rfl) | (simp [*, errW_none, errW_some] <;> rfl), by exact Lz2 HB GE667 GE678⟩
            case rest =>
             clear HC54
             try clear c3
             try clear c24
             try clear c25
             try clear c25b0
             try clear c25b1
             try clear c51
             try clear c55
             try clear c55b0
             obtain ⟨kq, HA, HJ53, HO_87, HO_668001, HO_679001, BK667, BK678, HB⟩ := hcut
             cases kq with
             | zero => exact absurd HA.out (by simp [laws_FnGraphs.j7])
             | succ kj53 =>
              have H := HA.out
              clear HA
              simp only [laws_FnGraphs.j7] at H
              by_cases c56 : 0 ≤ x89_5
              ·rw [if_pos c56] at H
               have c56b0 : decide (0 ≤ x89_5) = true := decide_eq_true c56
               clear c56
               by_cases c57 : x89_5 < (t674.length : Int)
               ·rw [if_pos c57] at H
                have c57b0 : decide (x89_5 < (t674.length : Int)) = true := decide_eq_true c57
                clear c57
                have HC58 := Aside0.mk H
                clear H
                have p682 : 0 ≤ (x89_5 : Int) := ofA
                have q682 : x89_5 < (t674.length : Int) := ofA
                obtain ⟨ad682, e682, hx682_0, hx682_1⟩ := at_T57 (Kd.R_reads' HO_87.out).2.2 x89_5 p682 q682
                cases e682
                replace p682 := eq_true p682
                replace q682 := eq_true q682
                go_upto_region 23 with (first | ((with_reducible refine gate_dst (N := 12) rfl ?_); (try (refine gate_guard (by rfl) ?_; dsimp only)); refine box_event ?hg (N := 12) ?hd (cs := #[.int .i64 0, .int .i64 0]) (t := 57) ?hr ?_; (case hd => rfl); (case hg => rfl); (case hr => first | (go_simp; done) | (go_simp; rfl)); intro gb683 hg w59 hbox hb; replace HO_87 := Aside0.mk (Kd.R_below (Kd.R_elderB (Rz HO_87) gb683 (Nat.le_of_eq hg.symm)) hb); replace HO_668001 := Aside0.mk (Kd.R_below (Kd.R_elderB (Rz HO_668001) gb683 (Nat.le_of_eq hg.symm)) hb); replace HO_679001 := Aside0.mk (Kd.R_below (Kd.R_elderB (Rz HO_679001) gb683 (Nat.le_of_eq hg.symm)) hb); have BK683 := Aside0.mk (hbox); have GW683 := Aside0.mk ((by rw [hg]; exact (below_size (by exact Lz2 HB GE667 GE678)) : w.heap.size ≤ gb683)); have GE683 := Aside0.mk ((by rw [hg]; exact (below_size (by exact Lz2 HB GE667 GE678)) : w.heap.size ≤ gb683)); replace HB := Aside0.mk (below_step (by exact Lz2 HB GE667 GE678) hb); have NB667_683 := Aside0.mk ((by rw [hg]; exact Nat.ne_of_lt (blk_lt (g := gb667) (o := .cells #[.int .i64 t663, .slice Ao8 t664.length co8] 30 (0, 0)) (Bz BK667)) : gb667 ≠ gb683)); have NB683_667 := Aside0.mk ((by rw [hg]; exact Nat.ne_of_gt (blk_lt (g := gb667) (o := .cells #[.int .i64 t663, .slice Ao8 t664.length co8] 30 (0, 0)) (Bz BK667)) : gb683 ≠ gb667)); replace BK667 := Aside0.mk (blk_below (g := gb667) (o := .cells #[.int .i64 t663, .slice Ao8 t664.length co8] 30 (0, 0)) (Bz BK667) hb); have NB678_683 := Aside0.mk ((by rw [hg]; exact Nat.ne_of_lt (blk_lt (g := gb678) (o := .cells #[.int .i64 t673, .slice (some ad682) t674.length co22] 30 (0, 0)) (Bz BK678)) : gb678 ≠ gb683)); have NB683_678 := Aside0.mk ((by rw [hg]; exact Nat.ne_of_gt (blk_lt (g := gb678) (o := .cells #[.int .i64 t673, .slice (some ad682) t674.length co22] 30 (0, 0)) (Bz BK678)) : gb683 ≠ gb678)); replace BK678 := Aside0.mk (blk_below (g := gb678) (o := .cells #[.int .i64 t673, .slice (some ad682) t674.length co22] 30 (0, 0)) (Bz BK678) hb); clear hb hbox hg; have hnb60 := NB683_667.out; have hnc60 := NB667_683.out; have hnb61 := NB683_678.out; have hnc61 := NB678_683.out; have hcz62_0 : w59.cell? ⟨gb683, 0, none⟩ = some (.int .i64 0) := (blk_cell BK683.out 0).trans rfl; have hcz62_1 : w59.cell? ⟨gb683, 1, none⟩ = some (.int .i64 0) := (blk_cell BK683.out 1).trans rfl; have hfz62_0 := blk_frozen BK683.out 0; have hfz62_1 := blk_frozen BK683.out 1))
                (try simp only [Act.put, List.setIfInBounds_toArray, List.set_cons_zero, List.set_cons_succ])
                go_cut [104] (fun v104 wc => ∃ (kq : Nat) (x104_57 : Bool), v104 = .bool x104_57 ∧ Aside0 (laws_FnGraphs.j8 kq x89_5 t674 (t674.length : Int) x89_5 x104_57 t663 t664 t673 t674 = some r) ∧ Aside0 (kq ≤ kj53) ∧ Aside0 (Kd.R k57 57 wc w.heap.size (fun k_ => some k_ ≠ ((.slice Ao8 t664.length co8) : Value).ownBlock ∧ k_ ≠ gb683) (.slice (some ad682) t674.length co22) t674) ∧ Aside0 (Kd.R k57 57 wc w.heap.size (fun k_ => some k_ ≠ ((.slice (some ad682) t674.length co22) : Value).ownBlock ∧ some k_ ≠ ((.slice (some ad682) t674.length co22) : Value).ownBlock ∧ k_ ≠ gb683) (.slice Ao8 t664.length co8) t664) ∧ Aside0 (Kd.R k57 57 wc w.heap.size (fun k_ => some k_ ≠ ((.slice Ao8 t664.length co8) : Value).ownBlock ∧ k_ ≠ gb683) (.slice (some ad682) t674.length co22) t674) ∧ Aside0 (wc.heap[gb667]? = some (.cells #[.int .i64 t663, (.slice Ao8 t664.length co8)] 30 (0, 0))) ∧ Aside0 (wc.heap[gb678]? = some (.cells #[.int .i64 t673, (.slice (some ad682) t674.length co22)] 30 (0, 0))) ∧ Aside0 (wc.heap[gb683]? = some (.cells #[.int .i64 ((rd_T57 t674 x89_5).f0), .int .i64 ((rd_T57 t674 x89_5).f1)] 57 (0, 0))) ∧ Aside0 (Below w.heap.size w wc))
                case first =>
                 have H := HC58.out
                 clear HC58
                 by_cases c63 : ((rd_T57 t674 x89_5).f0) = 0
                 ·rw [if_pos c63] at H
                  have c63b0 : (((rd_T57 t674 x89_5).f0) == 0) = true := beq_iff_eq.mpr c63
                  have c63b1 : (((rd_T57 t674 x89_5).f0) != 0) = false := bne_eq_false_iff_eq.mpr c63
                  clear c63
                  (first | rw [c63b0] | (simp only [i64_w, i32_w]; rw [c63b0]) | skip)
                  have H' := Aside0.mk H
                  clear H
                  have hnb64 := NB683_667.out
                  have hnc64 := NB667_683.out
                  have hnb65 := NB683_678.out
                  have hnc65 := NB678_683.out
                  have hcz66_0 : w59.cell? ⟨gb683, 0, none⟩ = some (.int .i64 0) := (blk_cell BK683.out 0).trans rfl
                  have hcz66_1 : w59.cell? ⟨gb683, 1, none⟩ = some (.int .i64 0) := (blk_cell BK683.out 1).trans rfl
                  have hfz66_0 := blk_frozen BK683.out 0
                  have hfz66_1 := blk_frozen BK683.out 1
                  have hnb67 := NB667_678.out
                  have hnc67 := NB678_667.out
                  have hcz68_0 : w59.cell? ⟨gb667, 0, none⟩ = some (.int .i64 t663) := (blk_cell BK667.out 0).trans rfl
                  have hcz68_1 : w59.cell? ⟨gb667, 1, none⟩ = some (.slice Ao8 t664.length co8) := (blk_cell BK667.out 1).trans rfl
                  have hfz68_0 := blk_frozen BK667.out 0
                  have hfz68_1 := blk_frozen BK667.out 1
                  go_wp2
                  go_meet
                  case rel => exact ⟨_, ((((rd_T57 t674 x89_5).f1) == (wrap64 (t663 - 1)))), eqA, H', ⟨by have := HJ1.out; have := HK2.out; have := HJ13.out; have := HJ49.out; have := HK5.out; have := HJ53.out; first | omega | exact Nat.le_refl _⟩, ⟨by (with_reducible repeat (first | apply Kd.R_alloc | apply Kd.R_drewN | apply Kd.R_drew)); exact Kd.R_mono (Kd.R_far (p := ⟨gb683, 1, none⟩) (Kd.R_far (p := ⟨gb683, 0, none⟩) (Kd.R_mono HO_87.out (fun k_ hk => (⟨hk, hk.2⟩ : _ ∧ k_ ≠ gb683))) (fun _ hk => hk.2) (.int .i64 ((rd_T57 t674 x89_5).f0))) (fun _ hk => hk.2) (.int .i64 ((rd_T57 t674 x89_5).f1))) (fun _ hk => ⟨hk.1.1, hk.1.2⟩)⟩, ⟨by (with_reducible repeat (first | apply Kd.R_alloc | apply Kd.R_drewN | apply Kd.R_drew)); exact Kd.R_mono (Kd.R_far (p := ⟨gb683, 1, none⟩) (Kd.R_far (p := ⟨gb683, 0, none⟩) (Kd.R_mono HO_668001.out (fun k_ hk => (⟨hk, hk.2⟩ : _ ∧ k_ ≠ gb683))) (fun _ hk => hk.2) (.int .i64 ((rd_T57 t674 x89_5).f0))) (fun _ hk => hk.2) (.int .i64 ((rd_T57 t674 x89_5).f1))) (fun _ hk => ⟨hk.1.1.1, ⟨hk.1.1.2, hk.1.2⟩⟩)⟩, ⟨by (with_reducible repeat (first | apply Kd.R_alloc | apply Kd.R_drewN | apply Kd.R_drew)); exact Kd.R_mono (Kd.R_far (p := ⟨gb683, 1, none⟩) (Kd.R_far (p := ⟨gb683, 0, none⟩) (Kd.R_mono HO_679001.out (fun k_ hk => (⟨hk, hk.2⟩ : _ ∧ k_ ≠ gb683))) (fun _ hk => hk.2) (.int .i64 ((rd_T57 t674 x89_5).f0))) (fun _ hk => hk.2) (.int .i64 ((rd_T57 t674 x89_5).f1))) (fun _ hk => ⟨hk.1.1, hk.1.2⟩)⟩, ⟨by (with_reducible repeat (first | refine blk_drewN ?_ _ | refine blk_drew ?_ | refine blk_alloc ?_ _)); refine blk_far ?_ NB667_683.out _; (with_reducible repeat (first | refine blk_drewN ?_ _ | refine blk_drew ?_ | refine blk_alloc ?_ _)); refine blk_far ?_ NB667_683.out _; exact Bz BK667⟩, ⟨by (with_reducible repeat (first | refine blk_drewN ?_ _ | refine blk_drew ?_ | refine blk_alloc ?_ _)); refine blk_far ?_ NB678_683.out _; (with_reducible repeat (first | refine blk_drewN ?_ _ | refine blk_drew ?_ | refine blk_alloc ?_ _)); refine blk_far ?_ NB678_683.out _; exact Bz BK678⟩, ⟨by (with_reducible repeat (first | refine blk_drewN ?_ _ | refine blk_drew ?_ | refine blk_alloc ?_ _)); refine blk_put (cs := #[.int .i64 ((rd_T57 t674 x89_5).f0), .int .i64 0]) ?_ 1 _ rfl; (with_reducible repeat (first | refine blk_drewN ?_ _ | refine blk_drew ?_ | refine blk_alloc ?_ _)); refine blk_put (cs := #[.int .i64 0, .int .i64 0]) ?_ 0 _ rfl; exact Bz BK683⟩, ⟨by exact Lz3 HB GE667 GE678 GE683⟩⟩
                 rw [if_neg c63] at H
                 have c63b0 : (((rd_T57 t674 x89_5).f0) == 0) = false := beq_eq_false_iff_ne.mpr c63
                 have c63b1 : (((rd_T57 t674 x89_5).f0) != 0) = true := bne_iff_ne.mpr c63
                 (first | rw [c63b0] | (simp only [i64_w, i32_w]; rw [c63b0]) | skip)
                 have H' := Aside0.mk H
                 clear H
                 have hnb69 := NB683_667.out
                 have hnc69 := NB667_683.out
                 have hnb70 := NB683_678.out
                 have hnc70 := NB678_683.out
                 have hcz71_0 : w59.cell? ⟨gb683, 0, none⟩ = some (.int .i64 0) := (blk_cell BK683.out 0).trans rfl
                 have hcz71_1 : w59.cell? ⟨gb683, 1, none⟩ = some (.int .i64 0) := (blk_cell BK683.out 1).trans rfl
                 have hfz71_0 := blk_frozen BK683.out 0
                 have hfz71_1 := blk_frozen BK683.out 1
                 go_wp2
                 go_meet
                 case rel => exact ⟨_, (false), eqA, H', ⟨by have := HJ1.out; have := HK2.out; have := HJ13.out; have := HJ49.out; have := HK5.out; have := HJ53.out; first | omega | exact Nat.le_refl _⟩, ⟨by (with_reducible repeat (first | apply Kd.R_alloc | apply Kd.R_drewN | apply Kd.R_drew)); exact Kd.R_mono (Kd.R_far (p := ⟨gb683, 1, none⟩) (Kd.R_far (p := ⟨gb683, 0, none⟩) (Kd.R_mono HO_87.out (fun k_ hk => (⟨hk, hk.2⟩ : _ ∧ k_ ≠ gb683))) (fun _ hk => hk.2) (.int .i64 ((rd_T57 t674 x89_5).f0))) (fun _ hk => hk.2) (.int .i64 ((rd_T57 t674 x89_5).f1))) (fun _ hk => ⟨hk.1.1, hk.1.2⟩)⟩, ⟨by (with_reducible repeat (first | apply Kd.R_alloc | apply Kd.R_drewN | apply Kd.R_drew)); exact Kd.R_mono (Kd.R_far (p := ⟨gb683, 1, none⟩) (Kd.R_far (p := ⟨gb683, 0, none⟩) (Kd.R_mono HO_668001.out (fun k_ hk => (⟨hk, hk.2⟩ : _ ∧ k_ ≠ gb683))) (fun _ hk => hk.2) (.int .i64 ((rd_T57 t674 x89_5).f0))) (fun _ hk => hk.2) (.int .i64 ((rd_T57 t674 x89_5).f1))) (fun _ hk => ⟨hk.1.1.1, ⟨hk.1.1.2, hk.1.2⟩⟩)⟩, ⟨by (with_reducible repeat (first | apply Kd.R_alloc | apply Kd.R_drewN | apply Kd.R_drew)); exact Kd.R_mono (Kd.R_far (p := ⟨gb683, 1, none⟩) (Kd.R_far (p := ⟨gb683, 0, none⟩) (Kd.R_mono HO_679001.out (fun k_ hk => (⟨hk, hk.2⟩ : _ ∧ k_ ≠ gb683))) (fun _ hk => hk.2) (.int .i64 ((rd_T57 t674 x89_5).f0))) (fun _ hk => hk.2) (.int .i64 ((rd_T57 t674 x89_5).f1))) (fun _ hk => ⟨hk.1.1, hk.1.2⟩)⟩, ⟨by (with_reducible repeat (first | refine blk_drewN ?_ _ | refine blk_drew ?_ | refine blk_alloc ?_ _)); refine blk_far ?_ NB667_683.out _; (with_reducible repeat (first | refine blk_drewN ?_ _ | refine blk_drew ?_ | refine blk_alloc ?_ _)); refine blk_far ?_ NB667_683.out _; exact Bz BK667⟩, ⟨by (with_reducible repeat (first | refine blk_drewN ?_ _ | refine blk_drew ?_ | refine blk_alloc ?_ _)); refine blk_far ?_ NB678_683.out _; (with_reducible repeat (first | refine blk_drewN ?_ _ | refine blk_drew ?_ | refine blk_alloc ?_ _)); refine blk_far ?_ NB678_683.out _; exact Bz BK678⟩, ⟨by (with_reducible repeat (first | refine blk_drewN ?_ _ | refine blk_drew ?_ | refine blk_alloc ?_ _)); refine blk_put (cs := #[.int .i64 ((rd_T57 t674 x89_5).f0), .int .i64 0]) ?_ 1 _ rfl; (with_reducible repeat (first | refine blk_drewN ?_ _ | refine blk_drew ?_ | refine blk_alloc ?_ _)); refine blk_put (cs := #[.int .i64 0, .int .i64 0]) ?_ 0 _ rfl; exact Bz BK683⟩, ⟨by exact Lz3 HB GE667 GE678 GE683⟩⟩
                case rest =>
                 clear HC58
                 try clear c3
                 try clear c24
                 try clear c25
                 try clear c25b0
                 try clear c25b1
                 try clear c51
                 try clear c55
                 try clear c55b0
                 try clear c56
                 try clear c56b0
                 try clear c57
                 try clear c57b0
                 try clear c63
                 try clear c63b0
                 try clear c63b1
                 try clear p682
                 try clear q682
                 obtain ⟨kq, x104_57, rfl, HA, HJ57, HO_87, HO_668001, HO_679001, BK667, BK678, BK683, HB⟩ := hcut
                 cases kq with
                 | zero => exact absurd HA.out (by simp [laws_FnGraphs.j8])
                 | succ kj57 =>
                  have H := HA.out
                  clear HA
                  simp only [laws_FnGraphs.j8] at H
                  by_cases c72 : x104_57 = true
                  ·subst c72
                   have H1 : ((impl_DropEdge.f kj57 t673 t674 x89_5).bind fun bt684 => (if bt684.2.2 = true then ((impl_SameGraph.f kj57 bt684.1 bt684.2.1 t663 t664).bind fun t690 => (some t690)) else (some false))) = some r := by rw [if_pos rfl] at H; exact H
                   clear H
                   have H := H1
                   clear H1
                   replace H := Option.bind_eq_some_iff.mp H
                   obtain ⟨⟨t684, t685, t688⟩, A730, H⟩ := H
                   replace H : (if t688 = true then ((impl_SameGraph.f kj57 t684 t685 t663 t664).bind fun t690 => (some t690)) else (some false)) = some r := H
                   have A73 := Aside0.mk A730
                   clear A730
                   by_cases c74 : t688 = true
                   ·subst c74
                    have H1 : ((impl_SameGraph.f kj57 t684 t685 t663 t664).bind fun t690 => (some t690)) = some r := by rw [if_pos rfl] at H; exact H
                    clear H
                    have H := H1
                    clear H1
                    replace H := Option.bind_eq_some_iff.mp H
                    obtain ⟨t690, A750, H⟩ := H
                    replace H : (some t690) = some r := H
                    have A75 := Aside0.mk A750
                    clear A750
                    obtain rfl := Option.some.inj H
                    have hnb76 := NB678_667.out
                    have hnc76 := NB667_678.out
                    have hnb77 := NB678_683.out
                    have hnc77 := NB683_678.out
                    have hcz78_0 : wc.cell? ⟨gb678, 0, none⟩ = some (.int .i64 t673) := (blk_cell BK678.out 0).trans rfl
                    have hcz78_1 : wc.cell? ⟨gb678, 1, none⟩ = some (.slice (some ad682) t674.length co22) := (blk_cell BK678.out 1).trans rfl
                    have hfz78_0 := blk_frozen BK678.out 0
                    have hfz78_1 := blk_frozen BK678.out 1
                    go_wp2_with (first | ((with_reducible refine gate_callee (f := 34) rfl ?_); refine goesM_ (some 108) rfl rfl Try.func34 (by kernel_rfl) rfl #[.agg #[.int .i64 t673, .slice (some ad682) t674.length co22], .int .i64 x89_5] rfl ?_; (with_reducible refine (impl_DropEdge.calls kj57 t673 _ _ t674 x89_5 t684 t685 true _ ?side1 ?side2 A73.out).mono ?_); (case side1 => exact Cz ((Kd.R_reads' HO_679001.out).2.2)); (case side2 => exact (Kd.R_reads' HO_679001.out).2.1); rintro e w79 ⟨v686, rfl, ho0, hb⟩; refine ⟨_, rfl, ?_⟩; have HO687 := Aside0.mk (Kd.R_lower (Kd.R_newB (Kd.R_new' (Kd.R_new' (Kd.R_new' ho0 (Kd.R_lt (Rz HO_87))) (Kd.R_lt (Rz HO_668001))) (Kd.R_lt (Rz HO_679001))) (g := gb683) (o := .cells #[.int .i64 ((rd_T57 t674 x89_5).f0), .int .i64 ((rd_T57 t674 x89_5).f1)] 57 (0, 0)) (Bz BK683)) (below_size (by exact Lz3 HB GE667 GE678 GE683))); replace HO_87 := Aside0.mk (Kd.R_elder' (Rz HO_87) (Kd.R_base ho0) hb); replace HO_668001 := Aside0.mk (Kd.R_elder' (Rz HO_668001) (Kd.R_base ho0) hb); replace HO_679001 := Aside0.mk (Kd.R_elder' (Rz HO_679001) (Kd.R_base ho0) hb); replace BK667 := Aside0.mk (blk_below (g := gb667) (o := .cells #[.int .i64 t663, .slice Ao8 t664.length co8] 30 (0, 0)) (Bz BK667) hb); replace BK678 := Aside0.mk (blk_below (g := gb678) (o := .cells #[.int .i64 t673, .slice (some ad682) t674.length co22] 30 (0, 0)) (Bz BK678) hb); replace BK683 := Aside0.mk (blk_below (g := gb683) (o := .cells #[.int .i64 ((rd_T57 t674 x89_5).f0), .int .i64 ((rd_T57 t674 x89_5).f1)] 57 (0, 0)) (Bz BK683) hb); replace HB := Aside0.mk (below_step (by exact Lz3 HB GE667 GE678 GE683) hb); (try clear hb); (try clear ho0)) | ((with_reducible refine gate_dst (N := 13) rfl ?_); (try (refine gate_guard (by rfl) ?_; dsimp only)); refine box_event ?hg (N := 13) ?hd (cs := #[.int .i64 0, .slice none 0 0]) (t := 30) ?hr ?_; (case hd => rfl); (case hg => rfl); (case hr => first | (go_simp; done) | (go_simp; rfl)); intro gb689 hg w80 hbox hb; replace HO_87 := Aside0.mk (Kd.R_below (Rz HO_87) hb); replace HO_668001 := Aside0.mk (Kd.R_below (Rz HO_668001) hb); replace HO_679001 := Aside0.mk (Kd.R_below (Rz HO_679001) hb); replace HO687 := Aside0.mk (Kd.R_below (Rz HO687) hb); have BK689 := Aside0.mk (hbox); have GW689 := Aside0.mk ((by rw [hg]; exact (below_size (by exact Lz3 HB GE667 GE678 GE683)) : w.heap.size ≤ gb689)); have GE689 := Aside0.mk ((by rw [hg]; exact (below_size (by exact Lz3 HB GE667 GE678 GE683)) : w.heap.size ≤ gb689)); replace HB := Aside0.mk (below_step (by exact Lz3 HB GE667 GE678 GE683) hb); have NB667_689 := Aside0.mk ((by rw [hg]; exact Nat.ne_of_lt (blk_lt (g := gb667) (o := .cells #[.int .i64 t663, .slice Ao8 t664.length co8] 30 (0, 0)) (Bz BK667)) : gb667 ≠ gb689)); have NB689_667 := Aside0.mk ((by rw [hg]; exact Nat.ne_of_gt (blk_lt (g := gb667) (o := .cells #[.int .i64 t663, .slice Ao8 t664.length co8] 30 (0, 0)) (Bz BK667)) : gb689 ≠ gb667)); replace BK667 := Aside0.mk (blk_below (g := gb667) (o := .cells #[.int .i64 t663, .slice Ao8 t664.length co8] 30 (0, 0)) (Bz BK667) hb); have NB678_689 := Aside0.mk ((by rw [hg]; exact Nat.ne_of_lt (blk_lt (g := gb678) (o := .cells #[.int .i64 t673, .slice (some ad682) t674.length co22] 30 (0, 0)) (Bz BK678)) : gb678 ≠ gb689)); have NB689_678 := Aside0.mk ((by rw [hg]; exact Nat.ne_of_gt (blk_lt (g := gb678) (o := .cells #[.int .i64 t673, .slice (some ad682) t674.length co22] 30 (0, 0)) (Bz BK678)) : gb689 ≠ gb678)); replace BK678 := Aside0.mk (blk_below (g := gb678) (o := .cells #[.int .i64 t673, .slice (some ad682) t674.length co22] 30 (0, 0)) (Bz BK678) hb); have NB683_689 := Aside0.mk ((by rw [hg]; exact Nat.ne_of_lt (blk_lt (g := gb683) (o := .cells #[.int .i64 ((rd_T57 t674 x89_5).f0), .int .i64 ((rd_T57 t674 x89_5).f1)] 57 (0, 0)) (Bz BK683)) : gb683 ≠ gb689)); have NB689_683 := Aside0.mk ((by rw [hg]; exact Nat.ne_of_gt (blk_lt (g := gb683) (o := .cells #[.int .i64 ((rd_T57 t674 x89_5).f0), .int .i64 ((rd_T57 t674 x89_5).f1)] 57 (0, 0)) (Bz BK683)) : gb689 ≠ gb683)); replace BK683 := Aside0.mk (blk_below (g := gb683) (o := .cells #[.int .i64 ((rd_T57 t674 x89_5).f0), .int .i64 ((rd_T57 t674 x89_5).f1)] 57 (0, 0)) (Bz BK683) hb); clear hb hbox hg; have hnb81 := NB689_667.out; have hnc81 := NB667_689.out; have hnb82 := NB689_678.out; have hnc82 := NB678_689.out; have hnb83 := NB689_683.out; have hnc83 := NB683_689.out; have hcz84_0 : w80.cell? ⟨gb689, 0, none⟩ = some (.int .i64 0) := (blk_cell BK689.out 0).trans rfl; have hcz84_1 : w80.cell? ⟨gb689, 1, none⟩ = some (.slice none 0 0) := (blk_cell BK689.out 1).trans rfl; have hfz84_0 := blk_frozen BK689.out 0; have hfz84_1 := blk_frozen BK689.out 1; obtain ⟨Ao85, co85, eo85⟩ := Kd.R_slice HO687.out; subst eo85; have hnb86 := NB667_683.out; have hnc86 := NB683_667.out; have hcz87_0 : w80.cell? ⟨gb667, 0, none⟩ = some (.int .i64 t663) := (blk_cell BK667.out 0).trans rfl; have hcz87_1 : w80.cell? ⟨gb667, 1, none⟩ = some (.slice Ao8 t664.length co8) := (blk_cell BK667.out 1).trans rfl; have hfz87_0 := blk_frozen BK667.out 0; have hfz87_1 := blk_frozen BK667.out 1) | (go_at_call 45; (with_reducible refine (impl_SameGraph.calls kj57 t684 _ _ t685 t663 _ _ t664 t690 _ ?side1 ?side2 ?side3 ?side4 A75.out).mono ?_); (case side1 => refine (Kd.R_reads' (e := 57) (base := w.heap.size) (ok := fun k_ => ((((True ∧ some k_ ≠ (.slice (some ad682) t674.length co22 : Value).ownBlock) ∧ some k_ ≠ (.slice Ao8 t664.length co8 : Value).ownBlock) ∧ some k_ ≠ (.slice (some ad682) t674.length co22 : Value).ownBlock) ∧ k_ ≠ gb683)) (n := t685.length) (c := co85) ?_).2.2; exact (by (with_reducible repeat (first | apply Kd.R_alloc | apply Kd.R_drewN | apply Kd.R_drew)); exact (Kd.R_mono (Kd.R_far (p := ⟨gb689, 1, none⟩) (Kd.R_far (p := ⟨gb689, 0, none⟩) (Kd.R_types HO687.out BK689.out (by decide)) (fun _ hk => hk.2) (.int .i64 t684)) (fun _ hk => hk.2) (.slice Ao85 t685.length co85)) (fun _ h_ => h_.1)))); (case side2 => exact (Kd.R_reads' HO687.out).2.1); (case side3 => refine (Kd.R_reads' (e := 57) (base := w.heap.size) (ok := fun k_ => ((some k_ ≠ (.slice (some ad682) t674.length co22 : Value).ownBlock ∧ (some k_ ≠ (.slice (some ad682) t674.length co22 : Value).ownBlock ∧ k_ ≠ gb683)) ∧ some k_ ≠ (.slice Ao85 t685.length co85 : Value).ownBlock)) (n := t664.length) (c := co8) ?_).2.2; exact (by (with_reducible repeat (first | apply Kd.R_alloc | apply Kd.R_drewN | apply Kd.R_drew)); exact (Kd.R_mono (Kd.R_far (p := ⟨gb689, 1, none⟩) (Kd.R_far (p := ⟨gb689, 0, none⟩) (Kd.R_types HO_668001.out BK689.out (by decide)) (fun _ hk => hk.2) (.int .i64 t684)) (fun _ hk => hk.2) (.slice Ao85 t685.length co85)) (fun _ h_ => h_.1)))); (case side4 => exact (Kd.R_reads' HO_668001.out).2.1); rintro e w88 ⟨rfl, hb⟩; replace HO_87 := Aside0.mk (Kd.R_below (by (with_reducible repeat (first | apply Kd.R_alloc | apply Kd.R_drewN | apply Kd.R_drew)); exact (Kd.R_mono (Kd.R_far (p := ⟨gb689, 1, none⟩) (Kd.R_far (p := ⟨gb689, 0, none⟩) (Kd.R_types HO_87.out BK689.out (by decide)) (fun _ hk => hk.2) (.int .i64 t684)) (fun _ hk => hk.2) (.slice Ao85 t685.length co85)) (fun _ h_ => h_.1))) hb); replace HO_668001 := Aside0.mk (Kd.R_below (by (with_reducible repeat (first | apply Kd.R_alloc | apply Kd.R_drewN | apply Kd.R_drew)); exact (Kd.R_mono (Kd.R_far (p := ⟨gb689, 1, none⟩) (Kd.R_far (p := ⟨gb689, 0, none⟩) (Kd.R_types HO_668001.out BK689.out (by decide)) (fun _ hk => hk.2) (.int .i64 t684)) (fun _ hk => hk.2) (.slice Ao85 t685.length co85)) (fun _ h_ => h_.1))) hb); replace HO_679001 := Aside0.mk (Kd.R_below (by (with_reducible repeat (first | apply Kd.R_alloc | apply Kd.R_drewN | apply Kd.R_drew)); exact (Kd.R_mono (Kd.R_far (p := ⟨gb689, 1, none⟩) (Kd.R_far (p := ⟨gb689, 0, none⟩) (Kd.R_types HO_679001.out BK689.out (by decide)) (fun _ hk => hk.2) (.int .i64 t684)) (fun _ hk => hk.2) (.slice Ao85 t685.length co85)) (fun _ h_ => h_.1))) hb); replace HO687 := Aside0.mk (Kd.R_below (by (with_reducible repeat (first | apply Kd.R_alloc | apply Kd.R_drewN | apply Kd.R_drew)); exact (Kd.R_mono (Kd.R_far (p := ⟨gb689, 1, none⟩) (Kd.R_far (p := ⟨gb689, 0, none⟩) (Kd.R_types HO687.out BK689.out (by decide)) (fun _ hk => hk.2) (.int .i64 t684)) (fun _ hk => hk.2) (.slice Ao85 t685.length co85)) (fun _ h_ => h_.1))) hb); replace BK667 := Aside0.mk (blk_below (g := gb667) (o := .cells #[.int .i64 t663, .slice Ao8 t664.length co8] 30 (0, 0)) (by (with_reducible repeat (first | refine blk_drewN ?_ _ | refine blk_drew ?_ | refine blk_alloc ?_ _)); refine blk_far ?_ NB667_689.out _; (with_reducible repeat (first | refine blk_drewN ?_ _ | refine blk_drew ?_ | refine blk_alloc ?_ _)); refine blk_far ?_ NB667_689.out _; exact Bz BK667) hb); replace BK678 := Aside0.mk (blk_below (g := gb678) (o := .cells #[.int .i64 t673, .slice (some ad682) t674.length co22] 30 (0, 0)) (by (with_reducible repeat (first | refine blk_drewN ?_ _ | refine blk_drew ?_ | refine blk_alloc ?_ _)); refine blk_far ?_ NB678_689.out _; (with_reducible repeat (first | refine blk_drewN ?_ _ | refine blk_drew ?_ | refine blk_alloc ?_ _)); refine blk_far ?_ NB678_689.out _; exact Bz BK678) hb); replace BK683 := Aside0.mk (blk_below (g := gb683) (o := .cells #[.int .i64 ((rd_T57 t674 x89_5).f0), .int .i64 ((rd_T57 t674 x89_5).f1)] 57 (0, 0)) (by (with_reducible repeat (first | refine blk_drewN ?_ _ | refine blk_drew ?_ | refine blk_alloc ?_ _)); refine blk_far ?_ NB683_689.out _; (with_reducible repeat (first | refine blk_drewN ?_ _ | refine blk_drew ?_ | refine blk_alloc ?_ _)); refine blk_far ?_ NB683_689.out _; exact Bz BK683) hb); replace BK689 := Aside0.mk (blk_below (g := gb689) (o := .cells #[.int .i64 t684, .slice Ao85 t685.length co85] 30 (0, 0)) (by (with_reducible repeat (first | refine blk_drewN ?_ _ | refine blk_drew ?_ | refine blk_alloc ?_ _)); refine blk_put (cs := #[.int .i64 t684, .slice none 0 0]) ?_ 1 _ rfl; (with_reducible repeat (first | refine blk_drewN ?_ _ | refine blk_drew ?_ | refine blk_alloc ?_ _)); refine blk_put (cs := #[.int .i64 0, .slice none 0 0]) ?_ 0 _ rfl; exact Bz BK689) hb); replace HB := Aside0.mk (below_step (by first | exact Lz HB | repeat (first | (with_reducible first | exact HB.out | apply below_alloc | apply pw_below_drewN | apply below_drew1 | refine below_set ?_ GE667.out | refine below_set ?_ GE678.out | refine below_set ?_ GE683.out | refine below_set ?_ GE689.out) | exact HB.out)) hb); (try clear hb); (try clear hb2); (try clear hk); (try clear hi)))
                    go_ret
                    exact ⟨by first | rfl | (simp [errW_none, errW_some] <;> rfl) | (simp [*, errW_none, errW_some] <;> rfl), by first | exact Lz HB | repeat (first | (with_reducible first | exact HB.out | apply below_alloc | apply pw_below_drewN | apply below_drew1 | refine below_set ?_ GE667.out | refine below_set ?_ GE678.out | refine below_set ?_ GE683.out | refine below_set ?_ GE689.out) | exact HB.out)⟩
                   replace c74 := Bool.eq_false_iff.mpr c74
                   subst c74
                   have H1 : (some false) = some r := by rw [if_neg (show ¬ (false = true) by decide)] at H; exact H
                   clear H
                   have H := H1
                   clear H1
                   exact absurd (Option.some.inj H) (by rw [HR_.out]; decide)
                  replace c72 := Bool.eq_false_iff.mpr c72
                  subst c72
                  have H1 : (laws_FnGraphs.l2 kj57 t674 (t674.length : Int) (wrap64 (x89_5 + 1)) t663 t664 t673 t674) = some r := by rw [if_neg (show ¬ (false = true) by decide)] at H; exact H
                  clear H
                  have H := H1
                  clear H1
                  have H' := Aside0.mk H
                  clear H
                  go_wp2
                  go_roundg kj57
                  case measure => have := HJ1.out; have := HK2.out; have := HJ13.out; have := HJ49.out; have := HK5.out; have := HJ53.out; have := HJ57.out; omega
                  case rel => exact ⟨(wrap64 (x89_5 + 1)), eqA, H', ⟨by have := HJ1.out; have := HK2.out; have := HJ13.out; have := HJ49.out; have := HK5.out; have := HJ53.out; have := HJ57.out; omega⟩, ⟨by (with_reducible repeat (first | apply Kd.R_alloc | apply Kd.R_drewN | apply Kd.R_drew)); exact Kd.R_mono HO_87.out (fun _ hk => hk.1)⟩, ⟨by (with_reducible repeat (first | apply Kd.R_alloc | apply Kd.R_drewN | apply Kd.R_drew)); exact Kd.R_mono HO_668001.out (fun _ hk => ⟨hk.1, hk.2.1⟩)⟩, ⟨by (with_reducible repeat (first | apply Kd.R_alloc | apply Kd.R_drewN | apply Kd.R_drew)); exact Kd.R_mono HO_679001.out (fun _ hk => hk.1)⟩, ⟨by exact Bz BK667⟩, ⟨by exact Bz BK678⟩, ⟨by exact Lz3 HB GE667 GE678 GE683⟩⟩
               rw [if_neg c57] at H
               exact absurd H (by simp)
              rw [if_neg c56] at H
              exact absurd H (by simp)
     case rest =>
      clear HC9
      try clear c3
      try clear c24
      try clear c25
      try clear c25b0
      try clear c25b1
      try clear c51
      try clear c55
      try clear c55b0
      try clear c56
      try clear c56b0
      try clear c57
      try clear c57b0
      try clear c63
      try clear c63b0
      try clear c63b1
      try clear c72
      try clear c74
      try clear p682
      try clear q682
      obtain ⟨kq, HA, HJ8, HO_668001, BK667, HB⟩ := hcut
      cases kq with
      | zero => exact absurd HA.out (by simp [laws_FnGraphs.j2])
      | succ kj8 =>
       have H := HA.out
       clear HA
       simp only [laws_FnGraphs.j2] at H
       have H' := Aside0.mk H
       clear H
       go_wp2
       go_loopg [6, 7] kj8 (fun kq v6 v7 w' => ∃ (x6_4 : Int) (x7_4 : Int), v6 = .int .i64 x6_4 ∧ v7 = .int .i64 x7_4 ∧ Aside0 (laws_FnGraphs.l1 kq x4_2 x5_2 x6_4 x7_4 t663 t664 = some r) ∧ Aside0 (kq ≤ kj8) ∧ Aside0 (Kd.R k57 57 w' w.heap.size (fun _ => True) (.slice Ao8 t664.length co8) t664) ∧ Aside0 (w'.heap[gb667]? = some (.cells #[.int .i64 t663, (.slice Ao8 t664.length co8)] 30 (0, 0))) ∧ Aside0 (Below w.heap.size w w'))
       case atStart => exact ⟨(0), (0), eqA, eqA, H', ⟨Nat.le_refl _⟩, ⟨by exact Rz HO_668001⟩, ⟨by exact Bz BK667⟩, ⟨by exact Lz1 HB GE667⟩⟩
       case round =>
        clear H'
        try clear c3
        try clear c24
        try clear c25
        try clear c25b0
        try clear c25b1
        try clear c51
        try clear c55
        try clear c55b0
        try clear c56
        try clear c56b0
        try clear c57
        try clear c57b0
        try clear c63
        try clear c63b0
        try clear c63b1
        try clear c72
        try clear c74
        try clear p682
        try clear q682
        obtain ⟨x6_4, x7_4, rfl, rfl, HA, HK4, HO_668001, BK667, HB⟩ := hrel
        cases gk with
        | zero => exact absurd HA.out (by simp [laws_FnGraphs.l1])
        | succ k4 =>
         have H := HA.out
         clear HA
         simp only [laws_FnGraphs.l1] at H
         by_cases c99 : x7_4 < t663
         ·rw [if_pos c99] at H
          have c99b0 : decide (x7_4 < t663) = true := decide_eq_true c99
          clear c99
          replace H := Option.bind_eq_some_iff.mp H
          obtain ⟨t668, A1000, H⟩ := H
          replace H : (laws_FnGraphs.l1 k4 x4_2 x5_2 (wrap64 (x6_4 + t668)) (wrap64 (x7_4 + 1)) t663 t664) = some r := H
          have A100 := Aside0.mk A1000
          clear A1000
          have H' := Aside0.mk H
          clear H
          have hcz101_0 : wr.cell? ⟨gb667, 0, none⟩ = some (.int .i64 t663) := (blk_cell BK667.out 0).trans rfl
          have hcz101_1 : wr.cell? ⟨gb667, 1, none⟩ = some (.slice Ao8 t664.length co8) := (blk_cell BK667.out 1).trans rfl
          have hfz101_0 := blk_frozen BK667.out 0
          have hfz101_1 := blk_frozen BK667.out 1
          go_wp2_with (first | ((with_reducible refine gate_callee (f := 40) rfl ?_); refine goesM_ (some 36) rfl rfl Try.func40 (by kernel_rfl) rfl #[.agg #[.int .i64 t663, .slice Ao8 t664.length co8], .int .i64 x5_2, .int .i64 x7_4] rfl ?_; (with_reducible refine (impl_Multiplicity.calls k4 t663 _ _ t664 x5_2 x7_4 t668 _ ?side1 ?side2 A100.out).mono ?_); (case side1 => exact Cz ((Kd.R_reads' HO_668001.out).2.2)); (case side2 => exact (Kd.R_reads' HO_668001.out).2.1); rintro e w102 ⟨rfl, hb⟩; refine ⟨_, rfl, ?_⟩; replace HO_668001 := Aside0.mk (Kd.R_below (Rz HO_668001) hb); replace BK667 := Aside0.mk (blk_below (g := gb667) (o := .cells #[.int .i64 t663, .slice Ao8 t664.length co8] 30 (0, 0)) (Bz BK667) hb); replace HB := Aside0.mk (below_step (by exact Lz1 HB GE667) hb); (try clear hb); (try clear hb2); (try clear hk); (try clear hi)))
          go_roundg k4
          case measure => have := HJ1.out; have := HK2.out; have := HJ8.out; have := HK4.out; omega
          case rel => exact ⟨(wrap64 (x6_4 + t668)), (wrap64 (x7_4 + 1)), eqA, eqA, H', ⟨by have := HJ1.out; have := HK2.out; have := HJ8.out; have := HK4.out; omega⟩, ⟨by exact Rz HO_668001⟩, ⟨by exact Bz BK667⟩, ⟨by exact Lz1 HB GE667⟩⟩
         rw [if_neg c99] at H
         have c99b0 : decide (x7_4 < t663) = false := decide_eq_false c99
         clear c99
         replace H := Option.bind_eq_some_iff.mp H
         obtain ⟨t669, A1030, H⟩ := H
         replace H : (if x6_4 = t669 then (laws_FnGraphs.l0 k4 (wrap64 (x4_2 + x6_4)) (wrap64 (x5_2 + 1)) t663 t664) else (some false)) = some r := H
         have A103 := Aside0.mk A1030
         clear A1030
         by_cases c104 : x6_4 = t669
         ·rw [if_pos c104] at H
          have c104b0 : (x6_4 == t669) = true := beq_iff_eq.mpr c104
          have c104b1 : (x6_4 != t669) = false := bne_eq_false_iff_eq.mpr c104
          clear c104
          have H' := Aside0.mk H
          clear H
          have hcz105_0 : wr.cell? ⟨gb667, 0, none⟩ = some (.int .i64 t663) := (blk_cell BK667.out 0).trans rfl
          have hcz105_1 : wr.cell? ⟨gb667, 1, none⟩ = some (.slice Ao8 t664.length co8) := (blk_cell BK667.out 1).trans rfl
          have hfz105_0 := blk_frozen BK667.out 0
          have hfz105_1 := blk_frozen BK667.out 1
          go_wp2_with (first | ((with_reducible refine gate_callee (f := 41) rfl ?_); refine goesM_ (some 41) rfl rfl Try.func41 (by kernel_rfl) rfl #[.agg #[.int .i64 t663, .slice Ao8 t664.length co8], .int .i64 x5_2] rfl ?_; (with_reducible refine (impl_Valence.calls k4 t663 _ _ t664 x5_2 t669 _ ?side1 ?side2 A103.out).mono ?_); (case side1 => exact Cz ((Kd.R_reads' HO_668001.out).2.2)); (case side2 => exact (Kd.R_reads' HO_668001.out).2.1); rintro e w106 ⟨rfl, hb⟩; refine ⟨_, rfl, ?_⟩; replace HO_668001 := Aside0.mk (Kd.R_below (Rz HO_668001) hb); replace BK667 := Aside0.mk (blk_below (g := gb667) (o := .cells #[.int .i64 t663, .slice Ao8 t664.length co8] 30 (0, 0)) (Bz BK667) hb); replace HB := Aside0.mk (below_step (by exact Lz1 HB GE667) hb); (try clear hb); (try clear hb2); (try clear hk); (try clear hi)))
          go_roundg k4
          case measure => have := HJ1.out; have := HK2.out; have := HJ8.out; have := HK4.out; omega
          case rel => exact ⟨(wrap64 (x4_2 + x6_4)), (wrap64 (x5_2 + 1)), eqA, eqA, H', ⟨by have := HJ1.out; have := HK2.out; have := HJ8.out; have := HK4.out; omega⟩, ⟨by exact Rz HO_668001⟩, ⟨by exact Bz BK667⟩, ⟨by exact Lz1 HB GE667⟩⟩
         rw [if_neg c104] at H
         have c104b0 : (x6_4 == t669) = false := beq_eq_false_iff_ne.mpr c104
         have c104b1 : (x6_4 != t669) = true := bne_iff_ne.mpr c104
         exact absurd (Option.some.inj H) (by rw [HR_.out]; decide)
def laws_FnGraphs.Pure : Prop := ∀ (l0 : List Int), l0.length ≤ maxLen → l0.length * 1 ≤ 140737488351232 → (∀ x ∈ l0, (Lit.int .u8 x).wf = true) → ∃ k, laws_FnGraphs.f k l0 = some true
end Go.Proofs.Ytplcclifmajcfaa.P
end
section
namespace Go.Proofs.Ytplcclifmajcfaa.Pure
open Go.RowKit Go.Proofs.Ytplcclifmajcfaa.P Go.Proofs.YtplcclifmajcfaaW.PrintWords Go.Proofs.YtplcclifmajcfaaW.PrintLast Go.Proofs.YtplcclifmajcfaaW.PrintMore
def StatFnGraphs : Prop := ∀ (l0 : List (Int)), (l0.length ≤ maxLen ∧ ∀ x2 ∈ l0, (Lit.int .u8 x2).wf = true) → ∃ k, laws_FnGraphs.f k l0 = some true
end Go.Proofs.Ytplcclifmajcfaa.Pure
end
section
set_option linter.unusedVariables false
set_option linter.unusedSimpArgs false
namespace Go.Proofs.Ytplcclifmajcfaa.Pure
open Go.RowKit Go.Proofs.Ytplcclifmajcfaa.P Go.Proofs.YtplcclifmajcfaaW.PrintWords Go.Proofs.YtplcclifmajcfaaW.PrintLast Go.Proofs.YtplcclifmajcfaaW.PrintMore Go.Proofs.Ytplcclifmajcfaa.Base Go.Proofs.Ytplcclifmajcfaa.Loops
theorem rd_IE {l : List S57} {i : Nat} {a : S57} {r : List S57} (h : l.drop i = a :: r) : rd_T57 l (i : Int) = a := by
  unfold rd_T57
  rw [Int.toNat_natCast]
  exact get_drop h _
def edgesB (n : Int) (es : List S57) : Bool := decide (1 ≤ n) && decide (n ≤ 6) && decide (es.length ≤ 12) && es.all fun e => decide (0 ≤ e.f0) && decide (e.f0 < e.f1) && decide (e.f1 < n)
theorem impl_edgesOk_ev (n : Int) (es : List S57) (hl : es.length < 4611686018427387904) : Ev (fun k => impl_EdgesOk.f k n es) (edgesB n es) := by
  have hw : impl_within.f n 1 6 = some (decide (1 ≤ n) && decide (n ≤ 6)) := by
    unfold impl_within.f
    by_cases h : n ≥ 1
    · rw [if_pos h]; simp [h]
    · rw [if_neg h]; simp [h]
  simp only [impl_EdgesOk.f, hw, Option.bind_some]
  by_cases hn : 1 ≤ n ∧ n ≤ 6
  · by_cases h12 : es.length ≤ 12
    · have loop : Ev (fun k => impl_EdgesOk.l0 k es (es.length : Int) 0 n es) (es.all fun e => decide (0 ≤ e.f0) && decide (e.f0 < e.f1) && decide (e.f1 < n)) := by
        refine ev_listE es (fun k (_ : Unit) i => impl_EdgesOk.l0 k es (es.length : Int) i n es) (fun _ r => r.all fun e => decide (0 ≤ e.f0) && decide (e.f0 < e.f1) && decide (e.f1 < n)) (fun _ _ => True)
          (fun s _ => ev1 fun k => ?_) (fun s a rest i hlt hd _ => ?_) () trivial
        · simp only [impl_EdgesOk.l0]
          rw [if_neg (by omega)]; rfl
        · have bad : a.f0 < 0 ∨ a.f0 ≥ a.f1 ∨ a.f1 ≥ n → ((a :: rest).all fun e => decide (0 ≤ e.f0) && decide (e.f0 < e.f1) && decide (e.f1 < n)) = false := by
            intro h; simp only [List.all_cons, Bool.and_eq_false_iff, decide_eq_false_iff_not]; omega
          have stop : Ev (fun k => impl_EdgesOk.j2 k es (es.length : Int) (i : Int) true n es) false := ev1 fun k => by simp only [impl_EdgesOk.j2, if_true]
          by_cases h1 : a.f0 < 0
          · refine Or.inl (ev_succ ?_)
            simp only [impl_EdgesOk.l0, rd_IE hd]
            rw [bad (by omega)]
            exact ev_ift (by omega) (ev_ift (by omega) (ev_ift (by omega) (ev_ift h1 stop)))
          by_cases h2 : a.f0 ≥ a.f1
          · refine Or.inl (ev_succ ?_)
            simp only [impl_EdgesOk.l0, rd_IE hd]
            rw [bad (by omega)]
            exact ev_ift (by omega) (ev_ift (by omega) (ev_ift (by omega) (ev_ifn h1 (ev_ift h2 stop))))
          by_cases h3 : a.f1 ≥ n
          · refine Or.inl (ev_succ ?_)
            simp only [impl_EdgesOk.l0, rd_IE hd]
            rw [bad (by omega), decide_eq_true h3]
            exact ev_ift (by omega) (ev_ift (by omega) (ev_ift (by omega) (ev_ifn h1 (ev_ifn h2 stop))))
          refine Or.inr ⟨(), trivial, ?_, fun r hr => ev_succ ?_⟩
          · simp; omega
          · simp only [impl_EdgesOk.l0, rd_IE hd, decide_eq_false h3]
            refine ev_ift (by omega) (ev_ift (by omega) (ev_ift (by omega) (ev_ifn h1 (ev_ifn h2 (ev_succ ?_)))))
            simp only [impl_EdgesOk.j2, Bool.false_eq_true, if_false, wrap_succ (show i < 4611686018427387904 by omega)]
            exact hr
      obtain ⟨K, hK⟩ := loop
      dsimp only at hK
      refine ⟨K + 1, fun k hk => ?_⟩
      obtain ⟨m, rfl⟩ : ∃ m, k = m + 1 := ⟨k - 1, by omega⟩
      have := hK m (by omega)
      simp only [hn.1, hn.2, decide_true, Bool.and_self, if_true, impl_EdgesOk.j0]
      rw [if_neg (by simp; omega), this]
      simp [edgesB, hn, h12]
    · refine ev1 fun k => ?_
      simp only [hn.1, hn.2, decide_true, Bool.and_self, if_true, impl_EdgesOk.j0]
      rw [if_pos (by simp; omega)]
      simp [edgesB, h12]
  · refine ev1 fun k => ?_
    rw [if_neg (by simp; omega)]
    simp only [impl_EdgesOk.j0, if_true]
    simp [edgesB]
    intro a b
    exact absurd ⟨a, b⟩ hn
theorem spec_edgesOk_ev (n : Int) (es : List S57) (hl : es.length < 4611686018427387904) : Ev (fun k => spec_EdgesOk.f k n es) (edgesB n es) := by
  have hw : ∀ a b c : Int, spec_l01In.f a b c = some (decide (b ≤ a) && decide (a ≤ c)) := by
    intro a b c
    unfold spec_l01In.f
    by_cases h : a ≥ b
    · rw [if_pos h]; simp [h]
    · rw [if_neg h]; simp [h]
  simp only [spec_EdgesOk.f, hw, Option.bind_some]
  by_cases hn : 1 ≤ n ∧ n ≤ 6
  · have hn1 : wrap64 (n - 1) = n - 1 := by unfold wrap64; omega
    by_cases h12 : es.length ≤ 12
    · have loop : Ev (fun k => spec_EdgesOk.l0 k es (es.length : Int) 0 n es) (es.all fun e => decide (0 ≤ e.f0) && decide (e.f0 < e.f1) && decide (e.f1 < n)) := by
        refine ev_list0 es (fun k (_ : Unit) i => spec_EdgesOk.l0 k es (es.length : Int) i n es) (fun _ r => r.all fun e => decide (0 ≤ e.f0) && decide (e.f0 < e.f1) && decide (e.f1 < n)) (fun _ _ => True)
          (fun s _ => ev1 fun k => ?_) (fun s a rest i hlt hd _ => ?_) () trivial
        · simp only [spec_EdgesOk.l0]
          rw [if_neg (by omega)]; rfl
        · by_cases h1 : 0 ≤ a.f0 ∧ a.f0 ≤ n - 1
          · have e1 : wrap64 (a.f0 + 1) = a.f0 + 1 := by unfold wrap64; omega
            by_cases h2 : a.f0 + 1 ≤ a.f1 ∧ a.f1 ≤ n - 1
            · refine Or.inr ⟨(), trivial, ?_, 0, fun k _ => ?_⟩
              · simp; omega
              · simp only [spec_EdgesOk.l0, rd_IE hd, hw, hn1, e1, Option.bind_some]
                rw [if_pos (by omega), if_pos (by omega), if_pos (by omega), if_pos (by simp; omega), if_pos (by simp; omega), wrap_succ (by omega)]
            · refine Or.inl (ev1 fun k => ?_)
              simp only [spec_EdgesOk.l0, rd_IE hd, hw, hn1, e1, Option.bind_some]
              rw [if_pos (by omega), if_pos (by omega), if_pos (by omega), if_pos (by simp; omega), if_neg (by simp; omega)]
              simp; omega
          · refine Or.inl (ev1 fun k => ?_)
            simp only [spec_EdgesOk.l0, rd_IE hd, hw, hn1, Option.bind_some]
            rw [if_pos (by omega), if_pos (by omega), if_pos (by omega), if_neg (by simp; omega)]
            simp; omega
      obtain ⟨K, hK⟩ := loop
      dsimp only at hK
      refine ⟨K + 1, fun k hk => ?_⟩
      obtain ⟨m, rfl⟩ : ∃ m, k = m + 1 := ⟨k - 1, by omega⟩
      have := hK m (by omega)
      simp only [hn.1, hn.2, decide_true, Bool.and_self, if_true, spec_EdgesOk.j0]
      rw [if_neg (by simp; omega), this]
      simp [edgesB, hn, h12]
    · refine ev1 fun k => ?_
      simp only [hn.1, hn.2, decide_true, Bool.and_self, if_true, spec_EdgesOk.j0]
      rw [if_pos (by simp; omega)]
      simp [edgesB, h12]
  · refine ev1 fun k => ?_
    rw [if_neg (by simp; omega)]
    simp only [spec_EdgesOk.j0, if_true]
    simp [edgesB]
    intro a b
    exact absurd ⟨a, b⟩ hn
end Go.Proofs.Ytplcclifmajcfaa.Pure
end
section
set_option linter.unusedVariables false
set_option linter.unusedSimpArgs false
namespace Go.Proofs.Ytplcclifmajcfaa.Pure
open Go.RowKit Go.Proofs.Ytplcclifmajcfaa.P Go.Proofs.YtplcclifmajcfaaW.PrintWords Go.Proofs.YtplcclifmajcfaaW.PrintLast Go.Proofs.YtplcclifmajcfaaW.PrintMore Go.Proofs.Ytplcclifmajcfaa.Base Go.Proofs.Ytplcclifmajcfaa.Bits Go.Proofs.Ytplcclifmajcfaa.Loops
def SortedE (es : List S57) : Prop := ∀ i, i + 1 < es.length → ¬ ((es.getD (i + 1) z57).f0 < (es.getD i z57).f0 ∨ ((es.getD (i + 1) z57).f0 = (es.getD i z57).f0 ∧ (es.getD (i + 1) z57).f1 < (es.getD i z57).f1))
def ConnE (n : Int) (es : List S57) : Prop := ∀ P : Int → Prop, P 0 → (∀ e ∈ es, P e.f0 ↔ P e.f1) → ∀ v, 0 ≤ v → v < n → P v
def GraphP (n : Int) (es : List S57) : Prop := edgesB n es = true ∧ SortedE es ∧ ConnE n es
theorem rdE_nat (es : List S57) (i : Nat) : rd_T57 es (i : Int) = es.getD i z57 := by unfold rd_T57; rw [Int.toNat_natCast]
theorem edgesB_facts {n : Int} {es : List S57} (h : edgesB n es = true) : 1 ≤ n ∧ n ≤ 6 ∧ es.length ≤ 12 ∧ ∀ e ∈ es, 0 ≤ e.f0 ∧ e.f0 < e.f1 ∧ e.f1 < n := by
  simp only [edgesB, Bool.and_eq_true, decide_eq_true_eq, List.all_eq_true] at h
  exact ⟨h.1.1.1, h.1.1.2, h.1.2, fun e he => ⟨(h.2 e he).1.1, (h.2 e he).1.2, (h.2 e he).2⟩⟩
theorem compare_eq (a0 a1 b0 b1 : Int) : ∃ c, impl_compareEdges.f a0 a1 b0 b1 = some c ∧ (c < 0 ↔ a0 < b0 ∨ (a0 = b0 ∧ a1 < b1)) := by
  have hc : ∀ x y : Int, cmp_Compare_int.f x y = some (if x < y then -1 else if x > y then 1 else 0) := by
    intro x y
    unfold cmp_Compare_int.f cmp_isNaN_int.f
    simp only [Option.bind_some, bne_self_eq_false, Bool.false_eq_true, if_false]
    by_cases h1 : x < y
    · rw [if_pos h1, if_pos h1]
    · rw [if_neg h1, if_neg h1]
      by_cases h2 : x > y
      · rw [if_pos h2, if_pos h2]
      · rw [if_neg h2, if_neg h2]
  unfold impl_compareEdges.f
  simp only [hc, Option.bind_some]
  by_cases h1 : a0 < b0
  · rw [if_pos h1, if_neg (by decide)]
    exact ⟨_, rfl, by omega⟩
  · by_cases h2 : a0 > b0
    · rw [if_neg h1, if_pos h2, if_neg (by decide)]
      exact ⟨_, rfl, by omega⟩
    · rw [if_neg h1, if_neg h2, if_pos rfl]
      refine ⟨_, rfl, ?_⟩
      by_cases h3 : a1 < b1
      · rw [if_pos h3]; omega
      · rw [if_neg h3]
        split <;> omega
theorem impl_sorted_ev (es : List S57) (hl : es.length < 4611686018427387904) : ∃ b : Bool, Ev (fun k => slices_IsSortedFunc_Edge.f k es) b ∧ (b = true ↔ SortedE es) := by
  have main : ∀ i : Nat, i < es.length → ∃ b : Bool, Ev (fun k => slices_IsSortedFunc_Edge.l0 k es (i : Int)) b ∧ (b = true ↔ ∀ j, j < i → ¬ ((es.getD (j + 1) z57).f0 < (es.getD j z57).f0 ∨ ((es.getD (j + 1) z57).f0 = (es.getD j z57).f0 ∧ (es.getD (j + 1) z57).f1 < (es.getD j z57).f1))) := by
    intro i
    induction i with
    | zero =>
      intro _
      refine ⟨true, ev1 fun k => ?_, by simp⟩
      simp only [slices_IsSortedFunc_Edge.l0]
      rw [if_neg (by omega)]
    | succ i ih =>
      intro hi
      obtain ⟨b, ⟨K, hb⟩, hiff⟩ := ih (by omega)
      have ew : wrap64 (((i + 1 : Nat) : Int) - 1) = (i : Int) := by unfold wrap64; omega
      obtain ⟨c, hc, hneg⟩ := compare_eq (es.getD (i + 1) z57).f0 (es.getD (i + 1) z57).f1 (es.getD i z57).f0 (es.getD i z57).f1
      by_cases h : c < 0
      · refine ⟨false, ev1 fun k => ?_, ?_⟩
        · simp only [slices_IsSortedFunc_Edge.l0, ew, rdE_nat, hc, Option.bind_some]
          rw [if_pos (by omega), if_pos (by omega), if_pos (by omega), if_pos (by omega), if_pos (by omega), if_pos h]
        · simp only [Bool.false_eq_true, false_iff]
          intro hall
          exact hall i (by omega) (hneg.1 h)
      · refine ⟨b, ⟨K + 1, fun k hk => ?_⟩, ?_⟩
        · obtain ⟨m, rfl⟩ : ∃ m, k = m + 1 := ⟨k - 1, by omega⟩
          have h2 := hb m (by omega)
          dsimp only at h2 ⊢
          simp only [slices_IsSortedFunc_Edge.l0, ew, rdE_nat, hc, Option.bind_some]
          rw [if_pos (by omega), if_pos (by omega), if_pos (by omega), if_pos (by omega), if_pos (by omega), if_neg h, h2]
        · rw [hiff]
          constructor
          · intro hall j hj
            by_cases e : j = i
            · subst e; exact fun hh => h (hneg.2 hh)
            · exact hall j (by omega)
          · exact fun hall j hj => hall j (by omega)
  simp only [slices_IsSortedFunc_Edge.f]
  by_cases h0 : es.length = 0
  · refine ⟨true, ev1 fun k => ?_, ?_⟩
    · simp only [slices_IsSortedFunc_Edge.l0]
      rw [if_neg (by unfold wrap64; omega)]
    · simp only [true_iff]
      intro i hi
      omega
  · obtain ⟨b, hb, hiff⟩ := main (es.length - 1) (by omega)
    have ew : wrap64 ((es.length : Int) - 1) = ((es.length - 1 : Nat) : Int) := by unfold wrap64; omega
    rw [ew]
    refine ⟨b, hb, ?_⟩
    rw [hiff]
    exact ⟨fun h i hi => h i (by omega), fun h i hi => h i (by omega)⟩
def toN (e : S57) : Nat × Nat := (e.f0.toNat, e.f1.toNat)
theorem conn_l1 (n : Nat) (es : List S57) (hn : n ≤ 6) (he : ∀ e ∈ es, 0 ≤ e.f0 ∧ e.f0 < e.f1 ∧ e.f1 < n) (x8 x9 : Int) (r : Bool) (hl : es.length < 4611686018427387904) :
    ∀ (rest : List S57) (i : Nat) (M : Nat), i ≤ es.length → es.drop i = rest → M < 2 ^ n → Ev (fun k => impl_connected.l0 k n es ((rnd (rest.map toN) M : Nat) : Int) x8 (wrap64 (x9 + 1))) r →
      Ev (fun k => impl_connected.l1 k n es (M : Int) x8 x9 es (es.length : Int) (i : Int)) r := by
  intro rest
  induction rest with
  | nil =>
    intro i M hi hd hM h
    have := drop_nil hd
    obtain ⟨K, hK⟩ := h
    refine ⟨K + 1, fun k hk => ?_⟩
    obtain ⟨m, rfl⟩ : ∃ m, k = m + 1 := ⟨k - 1, by omega⟩
    simp only [impl_connected.l1]
    rw [if_neg (by omega)]
    exact hK m (by omega)
  | cons e rest ih =>
    intro i M hi hd hM h
    have hlt := drop_lt hd
    have hmem : e ∈ es := by
      have : e ∈ es.drop i := by rw [hd]; simp
      exact List.mem_of_mem_drop this
    obtain ⟨h0, h1, h2⟩ := he e hmem
    obtain ⟨a, ha⟩ : ∃ a : Nat, e.f0 = a := ⟨e.f0.toNat, by omega⟩
    obtain ⟨b, hb⟩ : ∃ b : Nat, e.f1 = b := ⟨e.f1.toNat, by omega⟩
    have hte : toN e = (a, b) := by simp [toN, ha, hb]
    have hM62 : M < 2 ^ 62 := Nat.lt_of_lt_of_le hM (Nat.pow_le_pow_right (by decide) (by omega))
    have hlt' := upd_lt M (a, b) n hM (by show a < n; omega) (by show b < n; omega)
    rw [List.map_cons, hte] at h
    obtain ⟨K, hK⟩ := ih (i + 1) (upd M (a, b)) (by omega) (drop_next hd) hlt' h
    refine ⟨K + 1, fun k hk => ?_⟩
    obtain ⟨m, rfl⟩ : ∃ m, k = m + 1 := ⟨k - 1, by omega⟩
    have h3 := hK m (by omega)
    dsimp only at h3 ⊢
    simp only [impl_connected.l1, rd_IE hd, ha, hb, bit_of M a hM62 (by omega), bit_of M b hM62 (by omega), or_two M a b hM62 (by omega) (by omega)]
    rw [if_pos (by omega), if_pos (by omega), if_pos (by omega), if_pos (by omega), wrap_succ (by omega)]
    unfold upd at h3
    by_cases ta : M.testBit a = true
    · rw [if_pos (by simp [ta]), if_pos (by omega)]
      rw [if_pos (by simp [ta])] at h3
      exact h3
    · by_cases tb : M.testBit b = true
      · rw [if_neg (by simp [ta]), if_pos (by omega), if_pos (by simp [tb])]
        rw [if_pos (by simp [tb])] at h3
        exact h3
      · rw [if_neg (by simp [ta]), if_pos (by omega), if_neg (by simp [tb])]
        rw [if_neg (by simp [ta, tb])] at h3
        exact h3
theorem toN_lt {n : Nat} {es : List S57} (he : ∀ e ∈ es, 0 ≤ e.f0 ∧ e.f0 < e.f1 ∧ e.f1 < n) : ∀ x ∈ es.map toN, x.1 < n ∧ x.2 < n := by
  intro x hx
  obtain ⟨e, hm, rfl⟩ := List.mem_map.1 hx
  have := he e hm
  simp only [toN]
  omega
theorem impl_connected_ev (n : Nat) (es : List S57) (hn0 : 0 < n) (hn : n ≤ 6) (he : ∀ e ∈ es, 0 ≤ e.f0 ∧ e.f0 < e.f1 ∧ e.f1 < n) (hl : es.length < 4611686018427387904) :
    Ev (fun k => impl_connected.f k n es) (decide (iter (es.map toN) n 1 = 2 ^ n - 1)) := by
  have main : ∀ (d : Nat) (x9 M : Nat), x9 + d = n → M < 2 ^ n → Ev (fun k => impl_connected.l0 k n es (M : Int) n (x9 : Int)) (decide (iter (es.map toN) d M = 2 ^ n - 1)) := by
    intro d
    induction d with
    | zero =>
      intro x9 M hx hM
      refine ev1 fun k => ?_
      simp only [impl_connected.l0, iter]
      rw [if_neg (by omega), if_pos (by omega), shl_nat n (by omega)]
      have : wrap64 (((2 ^ n : Nat) : Int) - 1) = ((2 ^ n - 1 : Nat) : Int) := by
        have h1 : 2 ^ n ≤ 2 ^ 6 := Nat.pow_le_pow_right (by decide) hn
        have h2 : 0 < 2 ^ n := Nat.pow_pos (by decide)
        unfold wrap64
        omega
      rw [this]
      have e : ((M : Int) == ((2 ^ n - 1 : Nat) : Int)) = decide (M = 2 ^ n - 1) := by
        generalize 2 ^ n - 1 = q
        rw [Bool.eq_iff_iff, beq_iff_eq, decide_eq_true_eq]
        omega
      rw [e]
      rfl
    | succ d ih =>
      intro x9 M hx hM
      have h1 := ih (x9 + 1) (rnd (es.map toN) M) (by omega) (rnd_lt _ n M hM (toN_lt he))
      have h2 := conn_l1 n es hn he n x9 _ hl es 0 M (by omega) rfl hM (by rw [wrap_succ (by omega)]; exact h1)
      obtain ⟨K, hK⟩ := h2
      refine ⟨K + 1, fun k hk => ?_⟩
      obtain ⟨m, rfl⟩ : ∃ m, k = m + 1 := ⟨k - 1, by omega⟩
      have h3 := hK m (by omega)
      dsimp only [iter] at h3 ⊢
      simp only [impl_connected.l0]
      rw [if_pos (by omega)]
      exact h3
  exact main n 0 1 (by omega) (Nat.one_lt_two_pow (by omega))
theorem full_iff (n : Nat) (es : List S57) (hn0 : 0 < n) (he : ∀ e ∈ es, 0 ≤ e.f0 ∧ e.f0 < e.f1 ∧ e.f1 < n) : iter (es.map toN) n 1 = 2 ^ n - 1 ↔ ConnE n es := by
  rw [iter_full (es.map toN) n hn0 (toN_lt he)]
  constructor
  · intro h P h0 hP v hv0 hv
    obtain ⟨u, rfl⟩ : ∃ u : Nat, v = u := ⟨v.toNat, by omega⟩
    refine h (fun u => P u) h0 (fun x hx => ?_) u (by omega)
    obtain ⟨e, hm, rfl⟩ := List.mem_map.1 hx
    have hb := he e hm
    simp only [toN]
    rw [show ((e.f0.toNat : Nat) : Int) = e.f0 by omega, show ((e.f1.toNat : Nat) : Int) = e.f1 by omega]
    exact hP e hm
  · intro h P h0 hP v hv
    have := h (fun u => P u.toNat) h0 (fun e hm => hP (toN e) (List.mem_map.2 ⟨e, hm, rfl⟩)) v (by omega) (by omega)
    simpa using this
theorem impl_graphOk_iff (n : Int) (es : List S57) (hl : es.length < 4611686018427387904) : ∃ b : Bool, Ev (fun k => impl_GraphOk.f k n es) b ∧ (b = true ↔ GraphP n es) := by
  have h1 := impl_edgesOk_ev n es hl
  simp only [impl_GraphOk.f]
  by_cases hb : edgesB n es = true
  · obtain ⟨f1, f2, f3, f4⟩ := edgesB_facts hb
    obtain ⟨m, rfl⟩ : ∃ m : Nat, n = m := ⟨n.toNat, by omega⟩
    obtain ⟨b, h2, hs⟩ := impl_sorted_ev es hl
    rw [hb] at h1
    cases b with
    | false =>
      refine ⟨false, Ev.bind h1 ?_, ?_⟩
      · simp only [if_true]
        refine Ev.bind h2 ?_
        simp only [Bool.false_eq_true, if_false]
        exact Ev.now _
      · simp only [Bool.false_eq_true, false_iff] at hs ⊢
        exact fun h => hs h.2.1
    | true =>
      refine ⟨decide (iter (es.map toN) m 1 = 2 ^ m - 1), Ev.bind h1 ?_, ?_⟩
      · simp only [if_true]
        refine Ev.bind h2 ?_
        simp only [if_true]
        refine Ev.bind (impl_connected_ev m es (by omega) (by omega) f4 hl) ?_
        exact Ev.now _
      · rw [decide_eq_true_eq, full_iff m es (by omega) f4]
        simp only [true_iff] at hs
        exact ⟨fun h => ⟨hb, hs, h⟩, fun h => h.2.2⟩
  · refine ⟨false, Ev.bind h1 ?_, ?_⟩
    · simp only [hb]
      exact Ev.now _
    · simp only [Bool.false_eq_true, false_iff]
      exact fun h => hb h.1
theorem has_ev (l : List Int) (v : Int) (hl : l.length < 4611686018427387904) : Ev (fun k => spec_l02Has.f k l v) (decide (v ∈ l)) := by
  simp only [spec_l02Has.f]
  refine ev_list0 l (fun k (_ : Unit) i => spec_l02Has.l0 k v l (l.length : Int) i) (fun _ r => decide (v ∈ r)) (fun _ _ => True) (fun s _ => ev1 fun k => ?_) (fun s a rest i hlt hd _ => ?_) () trivial
  · simp only [spec_l02Has.l0]
    rw [if_neg (by omega)]; simp
  · by_cases h : a = v
    · refine Or.inl (ev1 fun k => ?_)
      simp only [spec_l02Has.l0, rd_drop hd]
      rw [if_pos (by omega), if_pos (by omega), if_pos (by omega), if_pos h]
      simp [h]
    · refine Or.inr ⟨(), trivial, ?_, 0, fun k _ => ?_⟩
      · simp [Ne.symm h]
      · simp only [spec_l02Has.l0, rd_drop hd]
        rw [if_pos (by omega), if_pos (by omega), if_pos (by omega), if_neg h, wrap_succ (by omega)]
def RInv (n : Nat) (es : List S57) (q : List Int) : Prop :=
  q.Nodup ∧ (∀ v ∈ q, 0 ≤ v ∧ v < n) ∧ (0 : Int) ∈ q ∧ ∀ P : Int → Prop, P 0 → (∀ e ∈ es, P e.f0 ↔ P e.f1) → ∀ v ∈ q, P v
theorem rinv_len {n : Nat} {es : List S57} {q : List Int} (h : RInv n es q) : q.length ≤ n := by
  have := List.Nodup.length_le_of_subset h.1 (l₂ := (List.range n).map fun i : Nat => (i : Int)) (fun v hv => by
    have hb := h.2.1 v hv
    exact List.mem_map.2 ⟨v.toNat, by simp; omega, by omega⟩)
  simpa using this
theorem rinv_add {n : Nat} {es : List S57} {q : List Int} (h : RInv n es q) {u v : Int} {e : S57} (he : e ∈ es) (hb : 0 ≤ e.f0 ∧ e.f0 < e.f1 ∧ e.f1 < n) (hu : u ∈ q) (huv : (u = e.f0 ∧ v = e.f1) ∨ (u = e.f1 ∧ v = e.f0)) (hv : v ∉ q) : RInv n es (q ++ [v]) := by
  refine ⟨?_, fun x hx => ?_, by simp [h.2.2.1], fun P h0 hP x hx => ?_⟩
  · rw [List.nodup_append]
    refine ⟨h.1, by simp, fun a ha b hb' => ?_⟩
    simp at hb'
    subst hb'
    intro e'
    subst e'
    exact hv ha
  · rcases List.mem_append.1 hx with hx | hx
    · exact h.2.1 x hx
    · simp at hx
      omega
  · rcases List.mem_append.1 hx with hx | hx
    · exact h.2.2.2 P h0 hP x hx
    · simp at hx
      subst hx
      have := h.2.2.2 P h0 hP u hu
      rcases huv with ⟨h1, h2⟩ | ⟨h1, h2⟩
      · rw [h2]; exact (hP e he).1 (h1 ▸ this)
      · rw [h2]; exact (hP e he).2 (h1 ▸ this)
theorem get_mem_append {q : List Int} {i : Nat} (h : i < q.length) (v : Int) : rd (q ++ [v]) (i : Int) = rd q (i : Int) := by
  rw [rd_nat q i h, rd_nat (q ++ [v]) i (by simp; omega), List.getElem_append_left h]
theorem reach_step (n : Nat) (es : List S57) (q : List Int) (pos i : Nat) (e : S57) (rest : List S57) (hd : es.drop i = e :: rest) (hne : e.f0 ≠ e.f1) (hpos : pos < q.length) (hq : q.length ≤ 6) (hl : es.length < 4611686018427387904) (r : List Int)
    (h : Ev (fun k => spec_l02Reach.l1 k (if e.f0 = rd q pos ∧ e.f1 ∉ q then q ++ [e.f1] else if e.f1 = rd q pos ∧ e.f0 ∉ q then q ++ [e.f0] else q) (pos : Int) es (es.length : Int) ((i + 1 : Nat) : Int) n es) r) :
    Ev (fun k => spec_l02Reach.l1 k q (pos : Int) es (es.length : Int) (i : Int) n es) r := by
  have hlt := drop_lt hd
  have b1 := has_ev q e.f1 (by omega)
  have tail : ∀ q' : List Int, pos < q'.length → q'.length ≤ 7 →
      Ev (fun k => spec_l02Reach.l1 k (if e.f1 = rd q' pos ∧ e.f0 ∉ q' then q' ++ [e.f0] else q') (pos : Int) es (es.length : Int) ((i + 1 : Nat) : Int) n es) r →
      Ev (fun k => spec_l02Reach.j3 k q' (pos : Int) es (es.length : Int) (i : Int) n es e.f0 e.f1) r := by
    intro q' hp' hq' h'
    have b2 := has_ev q' e.f0 (by omega)
    refine ev_succ ?_
    simp only [spec_l02Reach.j3, wrap_succ (show i < 4611686018427387904 by omega)]
    refine ev_ift (by omega) (ev_ift (by omega) ?_)
    by_cases c1 : e.f1 = rd q' pos
    · refine ev_ift c1 (Ev.bind b2 ?_)
      by_cases m0 : e.f0 ∈ q'
      · rw [if_neg (fun hh => hh.2 m0)] at h'
        exact ev_ift (by simp [m0]) h'
      · rw [if_pos ⟨c1, m0⟩] at h'
        exact ev_ifn (by simp [m0]) (ev_ift (by omega) h')
    · rw [if_neg (fun hh => c1 hh.1)] at h'
      exact ev_ifn c1 h'
  refine ev_succ ?_
  simp only [spec_l02Reach.l1, rd_IE hd]
  refine ev_ift (by omega) (ev_ift (by omega) (ev_ift (by omega) (ev_ift (by omega) (ev_ift (by omega) ?_))))
  by_cases c0 : e.f0 = rd q pos
  · have c1 : ¬ e.f1 = rd q pos := fun hh => hne (c0.trans hh.symm)
    refine ev_ift c0 (Ev.bind b1 (ev_succ ?_))
    simp only [spec_l02Reach.j2]
    by_cases m1 : e.f1 ∈ q
    · rw [if_neg (fun hh => hh.2 m1), if_neg (fun hh => c1 hh.1)] at h
      refine ev_ifn (by simp [m1]) (tail q hpos (by omega) ?_)
      rw [if_neg (fun hh => c1 hh.1)]
      exact h
    · rw [if_pos ⟨c0, m1⟩] at h
      refine ev_ift (by simp [m1]) (ev_ift (by omega) (tail (q ++ [e.f1]) (by simp; omega) (by simp; omega) ?_))
      rw [get_mem_append hpos, if_neg (fun hh => c1 hh.1)]
      exact h
  · refine ev_ifn c0 (ev_succ ?_)
    simp only [spec_l02Reach.j2]
    rw [if_neg (fun hh => c0 hh.1)] at h
    exact ev_ifn (by simp) (tail q hpos (by omega) h)
def Done (es : List S57) (q : List Int) (pos : Nat) : Prop := ∀ j, j < pos → ∀ e ∈ es, (e.f0 = rd q j → e.f1 ∈ q) ∧ (e.f1 = rd q j → e.f0 ∈ q)
theorem done_add {es : List S57} {q : List Int} {pos : Nat} (h : Done es q pos) (hp : pos ≤ q.length) (v : Int) : Done es (q ++ [v]) pos := by
  intro j hj e he
  rw [get_mem_append (by omega)]
  have := h j hj e he
  exact ⟨fun hh => List.mem_append_left _ (this.1 hh), fun hh => List.mem_append_left _ (this.2 hh)⟩
theorem reach_inner (n : Nat) (hn : n ≤ 6) (es : List S57) (he : ∀ e ∈ es, 0 ≤ e.f0 ∧ e.f0 < e.f1 ∧ e.f1 < n) (hl : es.length < 4611686018427387904) (pos : Nat)
    (next : ∀ q, RInv n es q → Done es q (pos + 1) → pos < q.length → ∃ r, Ev (fun k => spec_l02Reach.l0 k q ((pos + 1 : Nat) : Int) n es) r ∧ RInv n es r ∧ Done es r r.length) :
    ∀ (rest : List S57) (i : Nat) (q : List Int), i ≤ es.length → es.drop i = rest → RInv n es q → Done es q pos → pos < q.length →
      (∀ e ∈ es.take i, (e.f0 = rd q pos → e.f1 ∈ q) ∧ (e.f1 = rd q pos → e.f0 ∈ q)) →
      ∃ r, Ev (fun k => spec_l02Reach.l1 k q (pos : Int) es (es.length : Int) (i : Int) n es) r ∧ RInv n es r ∧ Done es r r.length := by
  intro rest
  induction rest with
  | nil =>
    intro i q hi hd hinv hdone hpos hpart
    have hge := drop_nil hd
    have hlen := rinv_len hinv
    rw [List.take_of_length_le hge] at hpart
    obtain ⟨r, ⟨K, hK⟩, h1, h2⟩ := next q hinv (fun j hj => by
      by_cases e : j = pos
      · subst e; exact hpart
      · exact hdone j (by omega)) hpos
    refine ⟨r, ⟨K + 1, fun k hk => ?_⟩, h1, h2⟩
    obtain ⟨m, rfl⟩ : ∃ m, k = m + 1 := ⟨k - 1, by omega⟩
    have h3 := hK m (by omega)
    dsimp only at h3 ⊢
    simp only [spec_l02Reach.l1]
    rw [if_neg (by omega), wrap_succ (by omega), h3]
  | cons e rest ih =>
    intro i q hi hd hinv hdone hpos hpart
    have hlt := drop_lt hd
    have hmem : e ∈ es := by
      have : e ∈ es.drop i := by rw [hd]; simp
      exact List.mem_of_mem_drop this
    have hb := he e hmem
    have hlen := rinv_len hinv
    have hx : rd q pos ∈ q := by rw [rd_nat q pos hpos]; exact List.getElem_mem _
    have htake : es.take (i + 1) = es.take i ++ [e] := take_drop hd
    have step := reach_step n es q pos i e rest hd (by omega) hpos (by omega) hl
    by_cases c0 : e.f0 = rd q pos ∧ e.f1 ∉ q
    · obtain ⟨r, hr, h1, h2⟩ := ih (i + 1) (q ++ [e.f1]) (by omega) (drop_next hd) (rinv_add hinv hmem hb hx (Or.inl ⟨c0.1.symm, rfl⟩) c0.2) (done_add hdone (by omega) _) (by simp; omega) (fun x hx' => by
        rw [get_mem_append hpos]
        rw [htake] at hx'
        rcases List.mem_append.1 hx' with hx' | hx'
        · have := hpart x hx'
          exact ⟨fun hh => List.mem_append_left _ (this.1 hh), fun hh => List.mem_append_left _ (this.2 hh)⟩
        · simp at hx'
          subst hx'
          exact ⟨fun _ => by simp, fun hh => absurd (c0.1.trans hh.symm) (by omega)⟩)
      refine ⟨r, step r ?_, h1, h2⟩
      simp only [if_pos c0]
      exact hr
    · by_cases c1 : e.f1 = rd q pos ∧ e.f0 ∉ q
      · obtain ⟨r, hr, h1, h2⟩ := ih (i + 1) (q ++ [e.f0]) (by omega) (drop_next hd) (rinv_add hinv hmem hb hx (Or.inr ⟨c1.1.symm, rfl⟩) c1.2) (done_add hdone (by omega) _) (by simp; omega) (fun x hx' => by
          rw [get_mem_append hpos]
          rw [htake] at hx'
          rcases List.mem_append.1 hx' with hx' | hx'
          · have := hpart x hx'
            exact ⟨fun hh => List.mem_append_left _ (this.1 hh), fun hh => List.mem_append_left _ (this.2 hh)⟩
          · simp at hx'
            subst hx'
            exact ⟨fun hh => absurd (hh.trans c1.1.symm) (by omega), fun _ => by simp⟩)
        refine ⟨r, step r ?_, h1, h2⟩
        simp only [if_neg c0, if_pos c1]
        exact hr
      · obtain ⟨r, hr, h1, h2⟩ := ih (i + 1) q (by omega) (drop_next hd) hinv hdone hpos (fun x hx' => by
          rw [htake] at hx'
          rcases List.mem_append.1 hx' with hx' | hx'
          · exact hpart x hx'
          · simp at hx'
            subst hx'
            exact ⟨fun hh => Classical.byContradiction fun hn => c0 ⟨hh, hn⟩, fun hh => Classical.byContradiction fun hn => c1 ⟨hh, hn⟩⟩)
        refine ⟨r, step r ?_, h1, h2⟩
        simp only [if_neg c0, if_neg c1]
        exact hr
theorem reach_ev (n : Nat) (hn0 : 0 < n) (hn : n ≤ 6) (es : List S57) (he : ∀ e ∈ es, 0 ≤ e.f0 ∧ e.f0 < e.f1 ∧ e.f1 < n) (hl : es.length < 4611686018427387904) :
    ∃ r, Ev (fun k => spec_l02Reach.f k n es) r ∧ RInv n es r ∧ Done es r r.length := by
  have main : ∀ (d pos : Nat) (q : List Int), RInv n es q → Done es q pos → pos ≤ q.length → n < pos + d → ∃ r, Ev (fun k => spec_l02Reach.l0 k q (pos : Int) n es) r ∧ RInv n es r ∧ Done es r r.length := by
    intro d
    induction d with
    | zero =>
      intro pos q hinv _ hp hd
      have := rinv_len hinv
      omega
    | succ d ih =>
      intro pos q hinv hdone hp hd
      by_cases hlt : pos < q.length
      · obtain ⟨r, ⟨K, hK⟩, h1, h2⟩ := reach_inner n hn es he hl pos (fun q' h1 h2 h3 => ih (pos + 1) q' h1 h2 (by omega) (by omega)) es 0 q (by omega) rfl hinv hdone hlt (fun e he' => by simp at he')
        refine ⟨r, ⟨K + 1, fun k hk => ?_⟩, h1, h2⟩
        obtain ⟨m, rfl⟩ : ∃ m, k = m + 1 := ⟨k - 1, by omega⟩
        have h3 := hK m (by omega)
        dsimp only at h3 ⊢
        simp only [spec_l02Reach.l0]
        rw [if_pos (by omega)]
        exact h3
      · refine ⟨q, ev1 fun k => ?_, hinv, ?_⟩
        · simp only [spec_l02Reach.l0]
          rw [if_neg (by omega)]
        · have : pos = q.length := by omega
          rw [this] at hdone
          exact hdone
  refine main (n + 1) 0 [0] ⟨by simp, fun v hv => by simp at hv; omega, by simp, fun P h0 _ v hv => by simp at hv; rw [hv]; exact h0⟩ (fun j hj => by omega) (by simp) (by omega)
theorem reach_all (n : Nat) (es : List S57) (r : List Int) (h1 : RInv n es r) (h2 : Done es r r.length) : ((r.length : Int) == n) = true ↔ ConnE n es := by
  have hlen := rinv_len h1
  constructor
  · intro h P h0 hP v hv0 hv
    simp at h
    refine h1.2.2.2 P h0 hP v (Classical.byContradiction fun hno => ?_)
    have := List.Nodup.length_le_of_subset (l₁ := v :: r) (by rw [List.nodup_cons]; exact ⟨hno, h1.1⟩) (l₂ := (List.range n).map fun i : Nat => (i : Int)) (fun u hu => by
      have hb : 0 ≤ u ∧ u < n := by
        rcases List.mem_cons.1 hu with rfl | hu
        · omega
        · exact h1.2.1 u hu
      exact List.mem_map.2 ⟨u.toNat, by simp; omega, by omega⟩)
    simp at this
    omega
  · intro h
    have hall := h (fun v => v ∈ r) h1.2.2.1 (fun e he => by
      constructor
      · intro hm
        obtain ⟨j, hj, hjv⟩ := List.mem_iff_getElem.1 hm
        exact (h2 j hj e he).1 (by rw [rd_nat r j hj]; exact hjv.symm)
      · intro hm
        obtain ⟨j, hj, hjv⟩ := List.mem_iff_getElem.1 hm
        exact (h2 j hj e he).2 (by rw [rd_nat r j hj]; exact hjv.symm))
    have := List.Nodup.length_le_of_subset (l₁ := (List.range n).map fun i : Nat => (i : Int)) (l₂ := r) (by
      refine List.Pairwise.map _ (fun a b hab => ?_) List.nodup_range
      show (a : Int) ≠ b
      omega) (fun v hv => by
      obtain ⟨i, hi, rfl⟩ := List.mem_map.1 hv
      simp at hi
      exact hall _ (by omega) (by omega))
    simp at this ⊢
    omega
theorem spec_graphOk_iff (n : Int) (es : List S57) (hl : es.length < 4611686018427387904) : ∃ b : Bool, Ev (fun k => spec_GraphOk.f k n es) b ∧ (b = true ↔ GraphP n es) := by
  have h1 := spec_edgesOk_ev n es hl
  simp only [spec_GraphOk.f]
  by_cases hb : edgesB n es = true
  · obtain ⟨f1, f2, f3, f4⟩ := edgesB_facts hb
    obtain ⟨m, rfl⟩ : ∃ m : Nat, n = m := ⟨n.toNat, by omega⟩
    obtain ⟨r, hr, r1, r2⟩ := reach_ev m (by omega) (by omega) es f4 hl
    rw [hb] at h1
    have main : ∀ (d i : Nat), i + d = es.length → ∃ b : Bool, Ev (fun k => spec_GraphOk.l0 k es (es.length : Int) (i : Int) m es) b ∧
        (b = true ↔ (∀ j, i ≤ j + 1 → j + 1 < es.length → ¬ ((es.getD (j + 1) z57).f0 < (es.getD j z57).f0 ∨ ((es.getD (j + 1) z57).f0 = (es.getD j z57).f0 ∧ (es.getD (j + 1) z57).f1 < (es.getD j z57).f1))) ∧ ConnE m es) := by
      intro d
      induction d with
      | zero =>
        intro i hi
        obtain ⟨K, hK⟩ := hr
        refine ⟨((r.length : Int) == m), ⟨K + 1, fun k hk => ?_⟩, ?_⟩
        · obtain ⟨p, rfl⟩ : ∃ p, k = p + 1 := ⟨k - 1, by omega⟩
          have h3 := hK p (by omega)
          dsimp only at h3 ⊢
          simp only [spec_GraphOk.l0]
          rw [if_neg (by omega), h3]
          rfl
        · rw [reach_all m es r r1 r2]
          exact ⟨fun h => ⟨fun j h1 h2 => by omega, h⟩, fun h => h.2⟩
      | succ d ih =>
        intro i hi
        obtain ⟨b, hK, hiff⟩ := ih (i + 1) (by omega)
        have stop : Ev (fun k => spec_GraphOk.j1 k es (es.length : Int) (i : Int) true m es) false := ev1 fun k => by simp only [spec_GraphOk.j1, if_true]
        have go : Ev (fun k => spec_GraphOk.j1 k es (es.length : Int) (i : Int) false m es) b := by
          refine ev_succ ?_
          simp only [spec_GraphOk.j1, Bool.false_eq_true, if_false, wrap_succ (show i < 4611686018427387904 by omega)]
          exact hK
        by_cases i0 : i = 0
        · subst i0
          refine ⟨b, ev_succ ?_, ?_⟩
          · simp only [spec_GraphOk.l0]
            exact ev_ift (by omega) (ev_ift (by omega) (ev_ift (by omega) (ev_ifn (by omega) go)))
          · rw [hiff]
            exact ⟨fun h => ⟨fun j _ h2 => h.1 j (by omega) h2, h.2⟩, fun h => ⟨fun j _ h2 => h.1 j (by omega) h2, h.2⟩⟩
        · obtain ⟨p, rfl⟩ : ∃ p, i = p + 1 := ⟨i - 1, by omega⟩
          have ew : wrap64 (((p + 1 : Nat) : Int) - 1) = (p : Int) := by unfold wrap64; omega
          by_cases hc : (es.getD (p + 1) z57).f0 < (es.getD p z57).f0 ∨ ((es.getD (p + 1) z57).f0 = (es.getD p z57).f0 ∧ (es.getD (p + 1) z57).f1 < (es.getD p z57).f1)
          · refine ⟨false, ev_succ ?_, ?_⟩
            · simp only [spec_GraphOk.l0, ew, rdE_nat]
              refine ev_ift (by omega) (ev_ift (by omega) (ev_ift (by omega) (ev_ift (by omega) (ev_ift (by omega) (ev_ift (by omega) ?_)))))
              by_cases c0 : (es.getD (p + 1) z57).f0 < (es.getD p z57).f0
              · exact ev_ift c0 stop
              · have c1 : (es.getD (p + 1) z57).f1 < (es.getD p z57).f1 := by omega
                simp only [decide_eq_true c1]
                exact ev_ifn c0 (ev_ift (by omega) stop)
            · simp only [Bool.false_eq_true, false_iff]
              exact fun h => h.1 p (by omega) (by omega) hc
          · refine ⟨b, ev_succ ?_, ?_⟩
            · simp only [spec_GraphOk.l0, ew, rdE_nat]
              refine ev_ift (by omega) (ev_ift (by omega) (ev_ift (by omega) (ev_ift (by omega) (ev_ift (by omega) (ev_ift (by omega) (ev_ifn (by omega) ?_))))))
              by_cases c0 : (es.getD (p + 1) z57).f0 = (es.getD p z57).f0
              · have c1 : ¬ (es.getD (p + 1) z57).f1 < (es.getD p z57).f1 := by omega
                simp only [decide_eq_false c1]
                exact ev_ift c0 go
              · exact ev_ifn c0 go
            · rw [hiff]
              refine ⟨fun h => ⟨fun j h1 h2 => ?_, h.2⟩, fun h => ⟨fun j _ h2 => h.1 j (by omega) h2, h.2⟩⟩
              by_cases e : j = p
              · subst e; exact hc
              · exact h.1 j (by omega) h2
    obtain ⟨b, hb2, hiff⟩ := main es.length 0 (by omega)
    refine ⟨b, Ev.bind h1 ?_, ?_⟩
    · simp only [if_true]
      exact hb2
    · rw [hiff]
      exact ⟨fun h => ⟨hb, fun i hi => h.1 i (by omega) hi, h.2⟩, fun h => ⟨fun j _ h2 => h.2.1 j h2, h.2.2⟩⟩
  · refine ⟨false, Ev.bind h1 ?_, ?_⟩
    · simp only [hb]
      exact Ev.now _
    · simp only [Bool.false_eq_true, false_iff]
      exact fun h => hb h.1
theorem graphOk_both (n : Int) (es : List S57) (hl : es.length < 4611686018427387904) : ∃ b : Bool, Ev (fun k => impl_GraphOk.f k n es) b ∧ Ev (fun k => spec_GraphOk.f k n es) b ∧ (b = true ↔ GraphP n es) := by
  obtain ⟨b, h1, i1⟩ := impl_graphOk_iff n es hl
  obtain ⟨b', h2, i2⟩ := spec_graphOk_iff n es hl
  have : b' = b := by rw [Bool.eq_iff_iff, i1, i2]
  subst this
  exact ⟨b', h1, h2, i1⟩
theorem within_eq (a b c : Int) : impl_within.f a b c = some (decide (b ≤ a ∧ a ≤ c)) := by
  unfold impl_within.f
  by_cases h : a ≥ b
  · rw [if_pos h]; simp; omega
  · rw [if_neg h]; simp; omega
theorem in_eq (a b c : Int) : spec_l01In.f a b c = some (decide (b ≤ a ∧ a ≤ c)) := by
  unfold spec_l01In.f
  by_cases h : a ≥ b
  · rw [if_pos h]; simp; omega
  · rw [if_neg h]; simp; omega
def ltE (y x : S57) : Prop := y.f0 < x.f0 ∨ (y.f0 = x.f0 ∧ y.f1 < x.f1)
instance (y x : S57) : Decidable (ltE y x) := by unfold ltE; infer_instance
def insE (e : S57) : List S57 → List S57
  | [] => [e]
  | x :: r => if ltE e x then e :: x :: r else x :: insE e r
theorem insE_mem (e x : S57) (es : List S57) : x ∈ insE e es ↔ x = e ∨ x ∈ es := by
  induction es with
  | nil => simp [insE]
  | cons y r ih =>
    simp only [insE]
    split
    · simp
    · simp only [List.mem_cons, ih]
      constructor
      · rintro (h | h | h)
        · exact Or.inr (Or.inl h)
        · exact Or.inl h
        · exact Or.inr (Or.inr h)
      · rintro (h | h | h)
        · exact Or.inr (Or.inl h)
        · exact Or.inl h
        · exact Or.inr (Or.inr h)
theorem insE_len (e : S57) (es : List S57) : (insE e es).length = es.length + 1 := by
  induction es with
  | nil => rfl
  | cons y r ih =>
    simp only [insE]
    split
    · simp
    · simp [ih]
theorem sorted_cons (x : S57) (r : List S57) : SortedE (x :: r) ↔ (∀ y, r.head? = some y → ¬ ltE y x) ∧ SortedE r := by
  constructor
  · intro h
    refine ⟨fun y hy => ?_, fun i hi => ?_⟩
    · cases r with
      | nil => cases hy
      | cons z t =>
        have := h 0 (by simp)
        simp only [List.head?_cons, Option.some.injEq] at hy
        subst hy
        exact this
    · exact h (i + 1) (by simp only [List.length_cons]; omega)
  · rintro ⟨h1, h2⟩ i hi
    cases i with
    | zero =>
      cases r with
      | nil => simp at hi
      | cons z t => exact h1 z rfl
    | succ i => exact h2 i (by simp only [List.length_cons] at hi; omega)
theorem insE_head (e : S57) (es : List S57) (y : S57) (h : (insE e es).head? = some y) : y = e ∨ es.head? = some y := by
  cases es with
  | nil => simp [insE] at h; exact Or.inl h.symm
  | cons x r =>
    simp only [insE] at h
    split at h
    · simp at h; exact Or.inl h.symm
    · simp at h; exact Or.inr (by simp [h])
theorem ltE_asymm {x y : S57} (h : ltE x y) : ¬ ltE y x := by unfold ltE at *; omega
theorem insE_sorted (e : S57) (es : List S57) (h : SortedE es) : SortedE (insE e es) := by
  induction es with
  | nil => intro i hi; simp [insE] at hi
  | cons x r ih =>
    have h' := (sorted_cons x r).1 h
    simp only [insE]
    split
    · rename_i c
      exact (sorted_cons e (x :: r)).2 ⟨fun y hy => by simp at hy; subst hy; exact ltE_asymm c, h⟩
    · rename_i c
      refine (sorted_cons x (insE e r)).2 ⟨fun y hy => ?_, ih h'.2⟩
      rcases insE_head e r y hy with rfl | hy
      · exact c
      · exact h'.1 y hy
theorem insE_graph {n : Int} {es : List S57} {e : S57} (h : GraphP n es) (hl : es.length ≠ 12) (he : 0 ≤ e.f0 ∧ e.f0 < e.f1 ∧ e.f1 < n) : GraphP n (insE e es) := by
  obtain ⟨f1, f2, f3, f4⟩ := edgesB_facts h.1
  refine ⟨?_, insE_sorted e es h.2.1, fun P h0 hP v hv hv' => h.2.2 P h0 (fun x hx => hP x ((insE_mem e x es).2 (Or.inr hx))) v hv hv'⟩
  simp only [edgesB, Bool.and_eq_true, decide_eq_true_eq, List.all_eq_true, insE_len]
  refine ⟨⟨⟨f1, f2⟩, by omega⟩, fun x hx => ?_⟩
  rcases (insE_mem e x es).1 hx with rfl | hx
  · exact ⟨⟨he.1, he.2.1⟩, he.2.2⟩
  · have := f4 x hx
    exact ⟨⟨this.1, this.2.1⟩, this.2.2⟩
theorem specIns_ev (n : Int) (es : List S57) (hl : es.length ≤ 100) (e0 e1 : Int) : Ev (fun k => spec_AddEdge.l0 k false es (es.length : Int) 0 e0 e1 n []) (n, insE ⟨e0, e1⟩ es, true) := by
  have done : ∀ (rest : List S57) (i : Nat) (acc : List S57), es.drop i = rest → i ≤ es.length → acc.length ≤ i + 1 → Ev (fun k => spec_AddEdge.l0 k true es (es.length : Int) (i : Int) e0 e1 n acc) (n, acc ++ rest, true) := by
    intro rest
    induction rest with
    | nil =>
      intro i acc hd hi ha
      have := drop_nil hd
      refine ev_succ ?_
      simp only [spec_AddEdge.l0, if_true, List.append_nil]
      exact ev_ifn (by omega) (Ev.now _)
    | cons x rest ih =>
      intro i acc hd hi ha
      have hlt := drop_lt hd
      have hx : rd_T57 es (i : Int) = x := by unfold rd_T57; rw [Int.toNat_natCast]; exact get_drop hd _
      have h1 := ih (i + 1) (acc ++ [x]) (drop_next hd) (by omega) (by simp; omega)
      rw [List.append_assoc, List.singleton_append] at h1
      refine ev_succ ?_
      simp only [spec_AddEdge.l0, if_true, hx]
      refine ev_ift (by omega) (ev_ift (by omega) (ev_ift (by omega) ?_))
      refine ev_succ ?_
      simp only [spec_AddEdge.j2, wrap_succ (show i < 4611686018427387904 by omega)]
      exact ev_iff (ev_ift (by omega) h1)
  have main : ∀ (rest : List S57) (i : Nat) (acc : List S57), es.drop i = rest → i ≤ es.length → acc.length ≤ i → Ev (fun k => spec_AddEdge.l0 k false es (es.length : Int) (i : Int) e0 e1 n acc) (n, acc ++ insE ⟨e0, e1⟩ rest, true) := by
    intro rest
    induction rest with
    | nil =>
      intro i acc hd hi ha
      have := drop_nil hd
      refine ev_succ ?_
      simp only [spec_AddEdge.l0, insE]
      exact ev_ifn (by omega) (ev_iff (ev_ift (by omega) (Ev.now _)))
    | cons x rest ih =>
      intro i acc hd hi ha
      have hlt := drop_lt hd
      have hx : rd_T57 es (i : Int) = x := by unfold rd_T57; rw [Int.toNat_natCast]; exact get_drop hd _
      refine ev_succ ?_
      simp only [spec_AddEdge.l0, hx]
      refine ev_ift (by omega) (ev_ift (by omega) (ev_ift (by omega) (ev_iff ?_)))
      have no : ¬ ltE ⟨e0, e1⟩ x → Ev (fun k => spec_AddEdge.j2 k false es (es.length : Int) (i : Int) false e0 e1 n acc x.f0 x.f1) (n, acc ++ insE ⟨e0, e1⟩ (x :: rest), true) := fun hc => by
        have h1 := ih (i + 1) (acc ++ [x]) (drop_next hd) (by omega) (by simp; omega)
        rw [List.append_assoc, List.singleton_append] at h1
        simp only [insE, if_neg hc]
        refine ev_succ ?_
        simp only [spec_AddEdge.j2, wrap_succ (show i < 4611686018427387904 by omega)]
        exact ev_iff (ev_ift (by omega) h1)
      have yes : ltE ⟨e0, e1⟩ x → Ev (fun k => spec_AddEdge.j2 k false es (es.length : Int) (i : Int) true e0 e1 n acc x.f0 x.f1) (n, acc ++ insE ⟨e0, e1⟩ (x :: rest), true) := fun hc => by
        have h1 := done rest (i + 1) (acc ++ [⟨e0, e1⟩] ++ [x]) (drop_next hd) (by omega) (by simp; omega)
        simp only [List.append_assoc, List.singleton_append] at h1
        simp only [insE, if_pos hc]
        refine ev_succ ?_
        simp only [spec_AddEdge.j2, wrap_succ (show i < 4611686018427387904 by omega), Option.bind_some, List.append_assoc, List.singleton_append]
        exact ev_ift trivial (ev_ift (by omega) (ev_ift (by simp; omega) h1))
      by_cases c1 : x.f0 > e0
      · exact ev_ift c1 (yes (Or.inl c1))
      · refine ev_ifn c1 ?_
        by_cases c2 : x.f0 = e0
        · refine ev_ift c2 ?_
          by_cases c3 : x.f1 > e1
          · rw [decide_eq_true c3]; exact yes (Or.inr ⟨c2.symm, c3⟩)
          · rw [decide_eq_false c3]; exact no (by rintro (h | h); exact c1 h; exact c3 h.2)
        · exact ev_ifn c2 (no (by rintro (h | h); exact c1 h; exact c2 h.1.symm))
  exact main es 0 [] (by simp) (by omega) (by simp)
theorem specAdd_ev (n : Int) (es : List S57) (a b : Int) (hl : es.length < 4611686018427387904) :
    (GraphP n es ∧ (0 ≤ a ∧ a < n) ∧ (0 ≤ b ∧ b < n) ∧ a ≠ b ∧ es.length ≠ 12 ∧ Ev (fun k => spec_AddEdge.f k n es a b) (n, insE ⟨mn a b, mx a b⟩ es, true) ∧ GraphP n (insE ⟨mn a b, mx a b⟩ es)) ∨
    (¬ (GraphP n es ∧ (0 ≤ a ∧ a < n) ∧ (0 ≤ b ∧ b < n) ∧ a ≠ b ∧ es.length ≠ 12) ∧ Ev (fun k => spec_AddEdge.f k n es a b) (0, [], false)) := by
  have hex : ∃ c : Bool, Ev (fun k => spec_GraphOk.f k n es) c ∧ (c = true ↔ GraphP n es) := by
    exact spec_graphOk_iff n es hl
  obtain ⟨g, h1, hg⟩ := hex
  have off : ∀ q : Bool, q = true → Ev (fun k => spec_AddEdge.j0 k a b q n es) (0, [], false) := fun q hq => ev_succ (by
    simp only [spec_AddEdge.j0]
    exact ev_ift hq (Ev.now _))
  simp only [spec_AddEdge.f, in_eq, Option.bind_some]
  cases g with
  | false => exact Or.inr ⟨(fun h => by have := hg.2 h.1; cases this), Ev.bind h1 (ev_iff (off _ rfl))⟩
  | true =>
    have hG := hg.1 rfl
    obtain ⟨f1, f2, f3, f4⟩ := edgesB_facts hG.1
    have ew : wrap64 (n - 1) = n - 1 := by unfold wrap64; omega
    rw [ew]
    by_cases ha : 0 ≤ a ∧ a ≤ n - 1
    · by_cases hb : 0 ≤ b ∧ b ≤ n - 1
      · rw [decide_eq_true ha, decide_eq_true hb]
        by_cases hab : a = b
        · exact Or.inr ⟨fun h => h.2.2.2.1 hab, Ev.bind h1 (ev_ift rfl (ev_ift rfl (ev_ift rfl (ev_ift hab (off _ rfl)))))⟩
        · by_cases h12 : es.length = 12
          · exact Or.inr ⟨fun h => h.2.2.2.2 h12, Ev.bind h1 (ev_ift rfl (ev_ift rfl (ev_ift rfl (ev_ifn hab (off _ (by simp [h12]))))))⟩
          · refine Or.inl ⟨hG, by omega, by omega, hab, h12, Ev.bind h1 (ev_ift rfl (ev_ift rfl (ev_ift rfl (ev_ifn hab (ev_succ ?_))))), insE_graph hG h12 ?_⟩
            · simp only [spec_AddEdge.j0]
              exact ev_ifn (by simp; omega) (specIns_ev n es (by omega) _ _)
            · show 0 ≤ mn a b ∧ mn a b < mx a b ∧ mx a b < n
              unfold mn mx
              omega
      · rw [decide_eq_true ha, decide_eq_false hb]
        exact Or.inr ⟨fun h => hb (by omega), Ev.bind h1 (ev_ift rfl (ev_ift rfl (ev_iff (off _ rfl))))⟩
    · rw [decide_eq_false ha]
      exact Or.inr ⟨fun h => ha (by omega), Ev.bind h1 (ev_ift rfl (ev_iff (off _ rfl)))⟩
theorem lt_ltE (x y : S57) : Go.Proofs.ltOf slices_SortFunc_Edge.cf x y = decide (ltE x y) := slices_SortFunc_Edge.lt_eq x y
theorem sorted_pair (es : List S57) (h : SortedE es) : ∀ (d i : Nat), i + d < es.length → ¬ ltE (es.getD (i + d) z57) (es.getD i z57) := by
  intro d
  induction d with
  | zero =>
    intro i _
    rw [Nat.add_zero]
    unfold ltE
    omega
  | succ d ih =>
    intro i hi
    have h1 := ih i (by omega)
    have h2 : ¬ ltE (es.getD (i + d + 1) z57) (es.getD (i + d) z57) := h (i + d) (by omega)
    rw [show i + (d + 1) = i + d + 1 by omega]
    unfold ltE at *
    omega
theorem insE_perm (e : S57) (es : List S57) : (insE e es).Perm (es ++ [e]) := by
  induction es with
  | nil => exact List.Perm.refl _
  | cons x r ih =>
    simp only [insE]
    split
    · exact (List.perm_append_comm (l₁ := [e]) (l₂ := x :: r))
    · exact List.Perm.cons x ih
theorem getB (l : List S57) (i : Nat) (hi : i < l.length) : l.toArray[i]! = l.getD i z57 := by
  rw [List.getD_eq_getElem?_getD, List.getElem?_eq_getElem hi, getElem!_pos _ i (by simpa using hi)]
  simp
theorem srt_ins (e : S57) (es : List S57) (h : SortedE es) : (slices_SortFunc_Edge.srt (es ++ [e])).toList = insE e es := by
  have hanti : ∀ x y : S57, Go.Proofs.ltOf slices_SortFunc_Edge.cf x y = false → Go.Proofs.ltOf slices_SortFunc_Edge.cf y x = false → x = y := fun x y h1 h2 => by
    rw [lt_ltE] at h1 h2
    simp only [decide_eq_false_iff_not] at h1 h2
    unfold ltE at h1 h2
    cases x; cases y
    simp only at h1 h2 ⊢
    congr 1 <;> omega
  have hs1 := Go.Sort.insertionSort_holds (lt := Go.Proofs.ltOf slices_SortFunc_Edge.cf) slices_SortFunc_Edge.swo (es ++ [e]).toArray 0 (es ++ [e]).length (Nat.zero_le _) (by simp)
  have hsz : (es ++ [e]).toArray.size = (es ++ [e]).length := by simp
  rw [← hsz] at hs1
  have u1 := Go.Sort.sorted_unique_holds (lt := Go.Proofs.ltOf slices_SortFunc_Edge.cf) slices_SortFunc_Edge.swo hanti (es ++ [e]).toArray _ hs1.1 hs1.2
  have hl : (insE e es).length = es.length + 1 := insE_len e es
  have u2 := Go.Sort.sorted_unique_holds (lt := Go.Proofs.ltOf slices_SortFunc_Edge.cf) slices_SortFunc_Edge.swo hanti (es ++ [e]).toArray (insE e es).toArray
    ⟨by simp [hl], fun i hi => by
      have : ¬ i < es.length + 1 := by simp at hi; omega
      rw [getElem!_neg _ i (by simp [hl]; omega), getElem!_neg _ i (by simp; omega)], by
      have p := insE_perm e es
      simpa [hl, List.take_of_length_le] using p⟩
    (fun i j _ hij hj => by
      have hj' : j < es.length + 1 := by simpa using hj
      rw [getB _ j (by omega), getB _ i (by omega), lt_ltE]
      have := sorted_pair (insE e es) (insE_sorted e es h) (j - i) i (by omega)
      rw [show i + (j - i) = j by omega] at this
      exact decide_eq_false this)
  have : slices_SortFunc_Edge.srt (es ++ [e]) = Go.Sort.insertionSort (Go.Proofs.ltOf slices_SortFunc_Edge.cf) (es ++ [e]).toArray 0 (es ++ [e]).toArray.size := by
    unfold slices_SortFunc_Edge.srt
    rw [hsz]
  rw [this, u1, ← u2]
theorem addEdge_both (n : Int) (es : List S57) (a b : Int) (hL : es.length < 4611686018427387904) :
    ∃ (m : Int) (r : List S57) (q : Bool), Ev (fun k => impl_AddEdge.f k n es a b) (m, r, q) ∧ Ev (fun k => spec_AddEdge.f k n es a b) (m, r, q) ∧ r.length ≤ 12 ∧ True := by
  obtain ⟨g, h1, h2, hg⟩ := graphOk_both n es hL
  have off : ∀ q : Bool, q = true → Ev (fun k => impl_AddEdge.j0 k a b q n es) (0, [], false) := fun q hq => ev_succ (by
    simp only [impl_AddEdge.j0]
    exact ev_ift hq (Ev.now _))
  have tt : true = true := rfl
  rcases specAdd_ev n es a b hL with ⟨hG, ha, hb, hab, h12, hs, hG2⟩ | ⟨hno, hs⟩
  · obtain ⟨f1, f2, f3, f4⟩ := edgesB_facts hG.1
    obtain rfl : g = true := hg.2 hG
    have ew : wrap64 (n - 1) = n - 1 := by unfold wrap64; omega
    refine ⟨n, insE ⟨mn a b, mx a b⟩ es, true, ?_, hs, by rw [insE_len]; omega, trivial⟩
    simp only [impl_AddEdge.f, impl_isVertex.f, within_eq, Option.bind_some, ew]
    rw [decide_eq_true (show 0 ≤ a ∧ a ≤ n - 1 by omega), decide_eq_true (show 0 ≤ b ∧ b ≤ n - 1 by omega)]
    have hj : Ev (fun k => impl_AddEdge.j0 k a b ((es.length : Int) == 12) n es) (n, insE ⟨mn a b, mx a b⟩ es, true) := ev_succ (by
      have hc : impl_copyGraph.f n es = some (n, es) := by
        unfold impl_copyGraph.f
        rw [if_pos (by simp; omega)]
        rfl
      have hf : slices_SortFunc_Edge.f (es ++ [⟨mn a b, mx a b⟩]) = some (insE ⟨mn a b, mx a b⟩ es) := by
        unfold slices_SortFunc_Edge.f
        rw [if_pos (by simp; omega), srt_ins _ es hG.2.1]
      simp only [impl_AddEdge.j0, hc, hf, Option.bind_some]
      exact ev_ifn (by simp; omega) (ev_ift (by omega) (Ev.now _)))
    exact Ev.bind (Ev.bind h1 (ev_ift tt (Ev.now _))) (ev_ift tt (Ev.bind (Ev.bind h1 (ev_ift tt (Ev.now _))) (ev_ift tt (ev_ifn hab hj))))
  · refine ⟨0, [], false, ?_, hs, by simp, trivial⟩
    simp only [impl_AddEdge.f, impl_isVertex.f, within_eq, Option.bind_some]
    cases g with
    | false => exact Ev.bind (Ev.bind h1 (ev_iff (Ev.now _))) (ev_iff (off _ rfl))
    | true =>
      have hG := hg.1 rfl
      obtain ⟨f1, f2, f3, f4⟩ := edgesB_facts hG.1
      have ew : wrap64 (n - 1) = n - 1 := by unfold wrap64; omega
      simp only [ew]
      by_cases ha : 0 ≤ a ∧ a ≤ n - 1
      · rw [decide_eq_true ha]
        refine Ev.bind (Ev.bind h1 (ev_ift tt (Ev.now _))) (ev_ift tt ?_)
        by_cases hb : 0 ≤ b ∧ b ≤ n - 1
        · rw [decide_eq_true hb]
          refine Ev.bind (Ev.bind h1 (ev_ift tt (Ev.now _))) (ev_ift tt ?_)
          by_cases hab : a = b
          · exact ev_ift hab (off _ rfl)
          · refine ev_ifn hab (off _ ?_)
            have : es.length = 12 := by
              by_cases h : es.length = 12
              · exact h
              · exact absurd ⟨hG, by omega, by omega, hab, h⟩ hno
            simp [this]
        · rw [decide_eq_false hb]
          exact Ev.bind (Ev.bind h1 (ev_ift tt (Ev.now _))) (ev_iff (off _ rfl))
      · rw [decide_eq_false ha]
        exact Ev.bind (Ev.bind h1 (ev_ift tt (Ev.now _))) (ev_iff (off _ rfl))
end Go.Proofs.Ytplcclifmajcfaa.Pure
end
section
namespace Go.Proofs.Ytplcclifmajcfaa.P
open Go.RowKit Go.Proofs.YtplcclifmajcfaaW.PrintWords Go.Proofs.YtplcclifmajcfaaW.PrintLast Go.Proofs.YtplcclifmajcfaaW.PrintMore
attribute [local go_sem] max2_int min2_int max_two min_two max_three min_three max_four min_four
set_option linter.unusedVariables false
set_option linter.unusedSimpArgs false
mutual
def spec_DropEdge.j0 : Nat → Int → Bool → Int → List (S57) → Option (Int × (List (S57)) × Bool)
 | 0, _, _, _, _ => none
 | k + 1, x1, x20, x166000, x166001 => if x20 = true then (some (0, ([] : List (S57)), false)) else (spec_DropEdge.l0 k x1 x166001 (x166001.length : Int) 0 x166000 ([] : List (S57)))
def spec_DropEdge.l0 : Nat → Int → List (S57) → Int → Int → Int → List (S57) → Option (Int × (List (S57)) × Bool)
 | 0, _, _, _, _, _, _ => none
 | k + 1, x1, x26, x27, x28, x170000, x170001 => if x28 < x27 then (if 0 ≤ x28 then (if x28 < (x26.length : Int) then (if x28 = x1 then (spec_DropEdge.l0 k x1 x26 x27 (wrap64 (x28 + 1)) x170000 x170001) else (if x170001.length < 8796093022208 then (spec_DropEdge.l0 k x1 x26 x27 (wrap64 (x28 + 1)) x170000 (x170001 ++ [(⟨(rd_T57 x26 x28).f0, (rd_T57 x26 x28).f1⟩ : S57)])) else (none))) else (none)) else (none)) else ((spec_GraphOk.f k x170000 x170001).bind fun t175 => (if t175 = true then (some (x170000, x170001, true)) else (some (0, ([] : List (S57)), false))))
end
def spec_DropEdge.f (k : Nat) (a0_0 : Int) (l0_1 : List (S57)) (a1 : Int) : Option (Int × (List (S57)) × Bool) := (spec_GraphOk.f k a0_0 l0_1).bind fun t167 => (if t167 = true then ((spec_l01In.f a1 0 (wrap64 ((l0_1.length : Int) - 1))).bind fun t168 => (spec_DropEdge.j0 k a1 (!t168) a0_0 l0_1)) else (spec_DropEdge.j0 k a1 true a0_0 l0_1))
end Go.Proofs.Ytplcclifmajcfaa.P
end
section
set_option linter.unusedVariables false
set_option linter.unusedSimpArgs false
namespace Go.Proofs.Ytplcclifmajcfaa.Pure
open Go.RowKit Go.Proofs.Ytplcclifmajcfaa.P Go.Proofs.YtplcclifmajcfaaW.PrintWords Go.Proofs.YtplcclifmajcfaaW.PrintLast Go.Proofs.YtplcclifmajcfaaW.PrintMore Go.Proofs.Ytplcclifmajcfaa.Base Go.Proofs.Ytplcclifmajcfaa.Bits Go.Proofs.Ytplcclifmajcfaa.Loops
theorem specDrop_ev (n : Int) (es : List S57) (hl : es.length ≤ 100) (d : Nat) (hd : d < es.length) (c : Bool) (hc : Ev (fun k => spec_GraphOk.f k n (es.take d ++ es.drop (d + 1))) c) :
    Ev (fun k => spec_DropEdge.l0 k (d : Int) es (es.length : Int) 0 n []) (if c then (n, es.take d ++ es.drop (d + 1), true) else (0, [], false)) := by
  have main : ∀ (rest : List S57) (i : Nat) (acc : List S57), es.drop i = rest → i ≤ es.length → acc.length ≤ i → acc ++ (if i ≤ d then rest.take (d - i) ++ rest.drop (d - i + 1) else rest) = es.take d ++ es.drop (d + 1) → Ev (fun k => spec_DropEdge.l0 k (d : Int) es (es.length : Int) (i : Int) n acc) (if c then (n, es.take d ++ es.drop (d + 1), true) else (0, [], false)) := by
    intro rest
    induction rest with
    | nil =>
      intro i acc hdr hi ha he
      have hnil := drop_nil hdr
      have he' : acc = es.take d ++ es.drop (d + 1) := by simpa using he
      refine ev_succ ?_
      simp only [spec_DropEdge.l0]
      refine ev_ifn (by omega) ?_
      rw [he']
      refine Ev.bind hc ?_
      cases c with
      | true => exact ev_ift rfl (Ev.now _)
      | false => exact ev_iff (Ev.now _)
    | cons x rest ih =>
      intro i acc hdr hi ha he
      have hlt := drop_lt hdr
      have hx : rd_T57 es (i : Int) = x := by unfold rd_T57; rw [Int.toNat_natCast]; exact get_drop hdr _
      refine ev_succ ?_
      simp only [spec_DropEdge.l0, hx, wrap_succ (show i < 4611686018427387904 by omega)]
      refine ev_ift (by omega) (ev_ift (by omega) (ev_ift (by omega) ?_))
      by_cases hid : i = d
      · subst hid
        refine ev_ift rfl ?_
        refine ih (i + 1) acc (drop_next hdr) (by omega) (by omega) ?_
        rw [if_neg (by omega)]
        rw [if_pos (by omega)] at he
        simpa using he
      · refine ev_ifn (by omega) (ev_ift (by omega) ?_)
        refine ih (i + 1) (acc ++ [x]) (drop_next hdr) (by omega) (by simp; omega) ?_
        rw [List.append_assoc, List.singleton_append]
        by_cases h : i ≤ d
        · rw [if_pos h] at he
          rw [if_pos (by omega), ← he]
          obtain ⟨m, rfl⟩ : ∃ m, d = i + (m + 1) := ⟨d - i - 1, by omega⟩
          rw [show i + (m + 1) - i = m + 1 by omega, show i + (m + 1) - (i + 1) = m by omega]
          simp
        · rw [if_neg h] at he
          rw [if_neg (by omega)]
          exact he
  exact main es 0 [] (by simp) (by omega) (by simp) (by simp)
theorem dropEdge_both (n : Int) (es : List S57) (i : Int) (hL : es.length < 4611686018427387904) :
    ∃ (m : Int) (r : List S57) (q : Bool), Ev (fun k => impl_DropEdge.f k n es i) (m, r, q) ∧ Ev (fun k => spec_DropEdge.f k n es i) (m, r, q) ∧ r.length ≤ 12 ∧
      ∀ d : Nat, (d : Int) = i → GraphP n es → d < es.length → GraphP n (es.take d ++ es.drop (d + 1)) → m = n ∧ r = es.take d ++ es.drop (d + 1) ∧ q = true := by
  obtain ⟨g, h1, h2, hg⟩ := graphOk_both n es hL
  have off1 : ∀ q : Bool, q = true → Ev (fun k => impl_DropEdge.j0 k i q n es) (0, [], false) := fun q hq => ev_succ (by
    simp only [impl_DropEdge.j0]
    exact ev_ift hq (Ev.now _))
  have off2 : ∀ q : Bool, q = true → Ev (fun k => spec_DropEdge.j0 k i q n es) (0, [], false) := fun q hq => ev_succ (by
    simp only [spec_DropEdge.j0]
    exact ev_ift hq (Ev.now _))
  have tt : true = true := rfl
  have none_ : ¬ (GraphP n es ∧ 0 ≤ i ∧ i < es.length) → ∀ d : Nat, (d : Int) = i → GraphP n es → d < es.length → GraphP n (es.take d ++ es.drop (d + 1)) → (0 : Int) = n ∧ ([] : List S57) = es.take d ++ es.drop (d + 1) ∧ false = true := fun hn d hd hG hlt _ => absurd ⟨hG, by omega, by omega⟩ hn
  have ew : wrap64 ((es.length : Int) - 1) = (es.length : Int) - 1 := by unfold wrap64; omega
  simp only [impl_DropEdge.f, spec_DropEdge.f, within_eq, in_eq, Option.bind_some, ew]
  cases g with
  | false => exact ⟨0, [], false, Ev.bind h1 (ev_iff (off1 _ rfl)), Ev.bind h2 (ev_iff (off2 _ rfl)), by simp, none_ (fun h => by have := hg.2 h.1; cases this)⟩
  | true =>
    have hG := hg.1 rfl
    obtain ⟨f1, f2, f3, f4⟩ := edgesB_facts hG.1
    by_cases hi : 0 ≤ i ∧ i ≤ (es.length : Int) - 1
    · obtain ⟨d, rfl⟩ := Int.eq_ofNat_of_zero_le hi.1
      have hd : d < es.length := by omega
      have hr : (es.take d ++ es.drop (d + 1)).length < 4611686018427387904 := by simp; omega
      obtain ⟨c, c1, c2, hc⟩ := graphOk_both n (es.take d ++ es.drop (d + 1)) hr
      rw [decide_eq_true hi]
      have e1 : Ev (fun k => spec_DropEdge.f k n es d) (if c then (n, es.take d ++ es.drop (d + 1), true) else (0, [], false)) := by
        simp only [spec_DropEdge.f, in_eq, Option.bind_some, ew]
        rw [decide_eq_true hi]
        refine Ev.bind h2 (ev_ift tt (ev_succ ?_))
        simp only [spec_DropEdge.j0, Bool.not_true, Bool.false_eq_true, if_false]
        exact specDrop_ev n es (by omega) d hd c c2
      have e2 : Ev (fun k => impl_DropEdge.f k n es d) (if c then (n, es.take d ++ es.drop (d + 1), true) else (0, [], false)) := by
        simp only [impl_DropEdge.f, within_eq, Option.bind_some, ew]
        rw [decide_eq_true hi]
        refine Ev.bind h1 (ev_ift tt (ev_succ ?_))
        have hcp : impl_copyGraph.f n es = some (n, es) := by
          unfold impl_copyGraph.f
          rw [if_pos (by simp; omega)]
          rfl
        have hdl : slices_Delete_Edge.f es (d : Int) ((d : Int) + 1) = some (es.take d ++ es.drop (d + 1)) := by
          unfold slices_Delete_Edge.f
          rw [if_pos (by omega)]
          rw [Int.toNat_natCast, show ((d : Int) + 1).toNat = d + 1 by omega]
        simp only [impl_DropEdge.j0, Bool.not_true, Bool.false_eq_true, if_false, hcp, Option.bind_some, wrap_succ (show d < 4611686018427387904 by omega)]
        rw [show ((d + 1 : Nat) : Int) = (d : Int) + 1 by omega]
        rw [hdl]
        simp only [Option.bind_some]
        refine Ev.bind c1 ?_
        cases c with
        | true => exact ev_ift rfl (Ev.now _)
        | false => exact ev_iff (Ev.now _)
      simp only [impl_DropEdge.f, spec_DropEdge.f, within_eq, in_eq, Option.bind_some, ew, decide_eq_true hi] at e1 e2
      cases c with
      | true => exact ⟨n, es.take d ++ es.drop (d + 1), true, e2, e1, by simp; omega, fun d' hd' _ _ _ => by
          obtain rfl : d' = d := by omega
          exact ⟨rfl, rfl, rfl⟩⟩
      | false => exact ⟨0, [], false, e2, e1, by simp, fun d' hd' _ _ h => by
          obtain rfl : d' = d := by omega
          have := hc.2 h
          cases this⟩
    · rw [decide_eq_false hi]
      exact ⟨0, [], false, Ev.bind h1 (ev_ift tt (off1 _ rfl)), Ev.bind h2 (ev_ift tt (off2 _ rfl)), by simp, none_ (fun h => hi (by omega))⟩
end Go.Proofs.Ytplcclifmajcfaa.Pure
end
section
set_option linter.unusedVariables false
set_option linter.unusedSimpArgs false
namespace Go.Proofs.Ytplcclifmajcfaa.Pure
open Go.RowKit Go.Proofs.Ytplcclifmajcfaa.P Go.Proofs.YtplcclifmajcfaaW.PrintWords Go.Proofs.YtplcclifmajcfaaW.PrintLast Go.Proofs.YtplcclifmajcfaaW.PrintMore Go.Proofs.Ytplcclifmajcfaa.Base Go.Proofs.Ytplcclifmajcfaa.Loops
theorem and255 (y : Int) : 0 ≤ Go.bits .and .i64 y 255 ∧ Go.bits .and .i64 y 255 ≤ 255 := by
  unfold Go.bits
  dsimp only
  have h : (BitVec.ofInt IntKind.i64.bits y &&& BitVec.ofInt IntKind.i64.bits 255).toNat ≤ 255 := by
    rw [BitVec.toNat_and]
    exact Nat.le_trans Nat.and_le_right (by decide +kernel)
  rw [IntKind.wrap_i64]
  omega
theorem byte_ex (s : List Int) (hs : s.length < 4611686018427387904) (i h : Int) (hi : 0 ≤ i) : ∃ x i' h', spec_l01Byte.f s i h = some (x, i', h') ∧ 0 ≤ x ∧ x ≤ 255 ∧ 0 ≤ i' := by
  unfold spec_l01Byte.f
  by_cases c : i < (s.length : Int)
  · rw [if_pos c, if_pos hi]
    refine ⟨_, _, _, rfl, (and255 _).1, (and255 _).2, ?_⟩
    unfold wrap64; omega
  · rw [if_neg c]
    exact ⟨_, _, _, rfl, (and255 _).1, (and255 _).2, hi⟩
theorem below_ex (s : List Int) (hs : s.length < 4611686018427387904) (i h : Int) (hi : 0 ≤ i) (n : Int) (hn : 0 < n) (hn2 : n ≤ 256) : ∃ x i' h', spec_l01Below.f s i h n = some (x, i', h') ∧ 0 ≤ x ∧ x < n ∧ 0 ≤ i' := by
  obtain ⟨x, i', h', e, x0, _, hi'⟩ := byte_ex s hs i h hi
  unfold spec_l01Below.f
  rw [if_neg (by omega), if_pos hn2, e]
  simp only [Option.bind_some]
  rw [if_neg (by omega)]
  exact ⟨_, _, _, rfl, Int.tmod_nonneg _ x0, Int.tmod_lt_of_pos _ hn, hi'⟩
theorem new_ex (code : List Int) (hc : code.length < 4611686018427387904) : ∃ h, Ev (fun k => spec_l01New.f k code) (code, 0, h) := by
  have main : ∀ (d i : Nat) (h : Int), i + d = code.length → ∃ h', Ev (fun k => spec_l01New.l0 k code h (i : Int)) (code, 0, h') := by
    intro d
    induction d with
    | zero =>
      intro i h hi
      refine ⟨h, ev_succ ?_⟩
      simp only [spec_l01New.l0]
      exact ev_ifn (by omega) (Ev.now _)
    | succ d ih =>
      intro i h hi
      obtain ⟨h', hh⟩ := ih (i + 1) (Go.bits .and .i64 (wrap64 ((wrap64 ((wrap64 (h * 97)) + (wrap64 (rd code i)))) + 7)) 1073741823) (by omega)
      by_cases c : i < 4000
      · refine ⟨h', ev_succ ?_⟩
        simp only [spec_l01New.l0, wrap_succ (show i < 4611686018427387904 by omega)]
        exact ev_ift (by omega) (ev_ift (by omega) (ev_ift (by omega) hh))
      · refine ⟨h, ev_succ ?_⟩
        simp only [spec_l01New.l0]
        exact ev_ift (by omega) (ev_ifn (by omega) (Ev.now _))
  unfold spec_l01New.f
  exact main code.length 0 _ (by omega)
def multN (es : List S57) (a b : Int) : Nat := es.countP fun e => decide (e.f0 = mn a b) && decide (e.f1 = mx a b)
def multI (n : Int) (es : List S57) (a b : Int) : Int := if 0 ≤ a ∧ a < n ∧ 0 ≤ b ∧ b < n ∧ a ≠ b then (multN es a b : Int) else 0
theorem mult_loop (es : List S57) (hl : es.length < 4611686018427387904) (a b : Int) (g : Nat → Int → Int → Option Int)
    (hg : ∀ k c i, g (k + 1) c i = if i < (es.length : Int) then (if 0 ≤ i then (if i < (es.length : Int) then (if ((rd_T57 es i).f0) = (mn a b) then (if ((rd_T57 es i).f1) = (mx a b) then (g k (wrap64 (c + 1)) (wrap64 (i + 1))) else (g k c (wrap64 (i + 1)))) else (g k c (wrap64 (i + 1)))) else (none)) else (none)) else (some c)) :
    Ev (fun k => g k 0 0) (multN es a b : Int) := by
  have h := ev_list es (fun k (c : Int) i => g k c i) (fun c r => c + (r.countP fun e => decide (e.f0 = mn a b) && decide (e.f1 = mx a b) : Nat)) (fun c r => 0 ≤ c ∧ c + r.length ≤ es.length) (fun s _ => ev1 fun k => ?_) (fun s e rest i hlt hd hinv => Or.inr ?_) es 0 0 (by omega) rfl (by simp)
  · simpa [multN] using h
  · rw [hg, if_neg (by omega)]; simp
  · simp only [List.length_cons] at hinv
    by_cases hc : e.f0 = mn a b ∧ e.f1 = mx a b
    · refine ⟨s + 1, by omega, ?_, 0, fun k _ => ?_⟩
      · rw [List.countP_cons_of_pos (by simp [hc])]; omega
      · rw [hg, if_pos (by omega), if_pos (by omega), if_pos (by omega), rd_IE hd, if_pos hc.1, if_pos hc.2, wrap_succ (by omega), wrap_id (by omega) (by omega)]
    · refine ⟨s, by omega, ?_, 0, fun k _ => ?_⟩
      · rw [List.countP_cons_of_neg (by simp; intro h1 h2; exact hc ⟨h1, h2⟩)]
      · rw [hg, if_pos (by omega), if_pos (by omega), if_pos (by omega), rd_IE hd, wrap_succ (by omega)]
        by_cases h1 : e.f0 = mn a b
        · rw [if_pos h1, if_neg (fun h2 => hc ⟨h1, h2⟩)]
        · rw [if_neg h1]
theorem spec_mult_ev (n : Int) (es : List S57) (hl : es.length < 4611686018427387904) (a b : Int) : Ev (fun k => spec_Multiplicity.f k n es a b) (multI n es a b) := by
  have hv : ∀ v, spec_l02Vert.f n es v = some (decide (0 ≤ v ∧ v < n)) := by
    intro v
    unfold spec_l02Vert.f
    by_cases h : v ≥ 0
    · rw [if_pos h]; simp; omega
    · rw [if_neg h]; simp; omega
  simp only [spec_Multiplicity.f, hv, Option.bind_some]
  have off : ∀ q : Bool, q = true → Ev (fun k => spec_Multiplicity.j0 k a b 0 q n es) 0 := fun q hq => ev1 fun k => by
    simp only [spec_Multiplicity.j0, hq, if_true]
  by_cases ha : 0 ≤ a ∧ a < n
  · by_cases hb : 0 ≤ b ∧ b < n
    · simp only [ha, hb, and_self, decide_true, if_true]
      by_cases hab : a = b
      · rw [multI, if_neg (by omega)]
        exact off _ (by simp [hab])
      · rw [multI, if_pos ⟨ha.1, ha.2, hb.1, hb.2, hab⟩]
        obtain ⟨K, hK⟩ := mult_loop es hl a b (fun k c i => spec_Multiplicity.l0 k a b c es (es.length : Int) i) (fun k c i => by simp only [spec_Multiplicity.l0])
        refine ⟨K + 1, fun k hk => ?_⟩
        obtain ⟨m, rfl⟩ : ∃ m, k = m + 1 := ⟨k - 1, by omega⟩
        have h2 := hK m (by omega)
        dsimp only at h2 ⊢
        simp only [spec_Multiplicity.j0]
        rw [if_neg (by simp [hab]), h2]
    · simp only [ha, and_self, decide_true, if_true, decide_eq_true_eq, if_neg hb]
      rw [multI, if_neg (by omega)]
      exact off _ rfl
  · simp only [decide_eq_true_eq, if_neg ha]
    rw [multI, if_neg (by omega)]
    exact off _ rfl
theorem impl_mult_ev (n : Int) (es : List S57) (hl : es.length < 4611686018427387904) (a b : Int) : Ev (fun k => impl_Multiplicity.f k n es a b) (multI n es a b) := by
  simp only [impl_Multiplicity.f]
  have off : ∀ q : Bool, q = true → Ev (fun k => impl_Multiplicity.j0 k a b q n es) 0 := fun q hq => ev1 fun k => by
    simp only [impl_Multiplicity.j0, hq, if_true]
  have e1 : mn a b < 0 ↔ (a < 0 ∨ b < 0) := by unfold mn; split <;> omega
  have e2 : mx a b ≥ n ↔ (a ≥ n ∨ b ≥ n) := by unfold mx; split <;> omega
  by_cases h1 : mn a b < 0
  · simp only [if_pos h1]
    rw [multI, if_neg (by omega)]
    exact off _ rfl
  · by_cases h2 : mx a b ≥ n
    · simp only [if_neg h1, if_pos h2]
      rw [multI, if_neg (by omega)]
      exact off _ rfl
    · simp only [if_neg h1, if_neg h2]
      by_cases hab : a = b
      · rw [multI, if_neg (by omega)]
        exact off _ (by simp [hab])
      · rw [multI, if_pos (by omega)]
        obtain ⟨K, hK⟩ := mult_loop es hl a b (fun k c i => impl_Multiplicity.l0 k a b c es (es.length : Int) i) (fun k c i => by simp only [impl_Multiplicity.l0])
        refine ⟨K + 1, fun k hk => ?_⟩
        obtain ⟨m, rfl⟩ : ∃ m, k = m + 1 := ⟨k - 1, by omega⟩
        have h2 := hK m (by omega)
        dsimp only at h2 ⊢
        simp only [impl_Multiplicity.j0]
        rw [if_neg (by simp [hab]), h2]
end Go.Proofs.Ytplcclifmajcfaa.Pure
end
section
set_option linter.unusedVariables false
set_option linter.unusedSimpArgs false
namespace Go.Proofs.Ytplcclifmajcfaa.Pure
open Go.RowKit Go.Proofs.Ytplcclifmajcfaa.P Go.Proofs.YtplcclifmajcfaaW.PrintWords Go.Proofs.YtplcclifmajcfaaW.PrintLast Go.Proofs.YtplcclifmajcfaaW.PrintMore Go.Proofs.Ytplcclifmajcfaa.Base Go.Proofs.Ytplcclifmajcfaa.Bits Go.Proofs.Ytplcclifmajcfaa.Loops
def treeT (av : List Nat) : List S57 := (List.range av.length).map fun i : Nat => ⟨(av.getD i 0 : Int), ((i + 1 : Nat) : Int)⟩
def treeOk (av : List Nat) : Prop := ∀ i, i < av.length → av.getD i 0 ≤ i
def repE (n : Nat) (T : List S57) (a b : Nat) : List S57 := List.replicate (multI n T a b).toNat ⟨(a : Int), (b : Int)⟩
def rowE (n : Nat) (T : List S57) (a b d : Nat) : List S57 := (List.range' b d).flatMap fun b => repE n T a b
def allE (n : Nat) (T : List S57) (a d : Nat) : List S57 := (List.range' a d).flatMap fun a => rowE n T a (a + 1) (n - (a + 1))
theorem treeT_snoc (av : List Nat) (a : Nat) : treeT (av ++ [a]) = treeT av ++ [⟨(a : Int), ((av.length + 1 : Nat) : Int)⟩] := by
  unfold treeT
  rw [List.length_append, List.length_singleton, List.range_succ, List.map_append]
  congr 1
  · refine List.map_congr_left fun i hi => ?_
    have := List.mem_range.1 hi
    rw [List.getD_eq_getElem?_getD, List.getD_eq_getElem?_getD, List.getElem?_append_left this]
  · simp
def goodG (n : Nat) (es : List S57) : Bool := edgesB n es && ((List.range es.length).all fun i => decide (i + 1 < es.length → ¬ ltE (es.getD (i + 1) z57) (es.getD i z57))) && ((List.range n).all fun v => decide (v = 0) || es.any fun e => decide (e.f1 = (v : Int)) && decide (0 ≤ e.f0) && decide (e.f0 < e.f1))
theorem goodG_graph {n : Nat} {es : List S57} (h : goodG n es = true) : GraphP n es := by
  simp only [goodG, Bool.and_eq_true, List.all_eq_true, List.mem_range, decide_eq_true_eq, Bool.or_eq_true, List.any_eq_true] at h
  obtain ⟨⟨h1, h2⟩, h3⟩ := h
  refine ⟨h1, fun i hi => h2 i (by omega) hi, fun P h0 hP v hv0 hv => ?_⟩
  have main : ∀ (u : Nat), u < n → P u := by
    intro u
    induction u using Nat.strongRecOn with
    | _ u ih =>
      intro hu
      rcases h3 u hu with rfl | ⟨e, he, ⟨e1, e2⟩, e3⟩
      · exact h0
      · rw [← e1]
        refine (hP e he).1 ?_
        have := ih e.f0.toNat (by omega) (by omega)
        rwa [Int.toNat_of_nonneg e2] at this
  have := main v.toNat (by omega)
  rwa [Int.toNat_of_nonneg hv0] at this
def goodT (av : List Nat) : Bool := goodG (av.length + 1) (allE (av.length + 1) (treeT av) 0 (av.length + 1)) && decide ((allE (av.length + 1) (treeT av) 0 (av.length + 1)).length ≤ 4)
theorem good_all (av : List Nat) (h : treeOk av) (h1 : 1 ≤ av.length) (h4 : av.length ≤ 4) : goodT av = true := by
  have g1 : ∀ a : Fin 1, goodT [a.val] = true := by decide +kernel
  have g2 : ∀ a : Fin 1, ∀ b : Fin 2, goodT [a.val, b.val] = true := by decide +kernel
  have g3 : ∀ a : Fin 1, ∀ b : Fin 2, ∀ c : Fin 3, goodT [a.val, b.val, c.val] = true := by decide +kernel
  have g4 : ∀ a : Fin 1, ∀ b : Fin 2, ∀ c : Fin 3, ∀ d : Fin 4, goodT [a.val, b.val, c.val, d.val] = true := by decide +kernel
  match av, h1, h4 with
  | [a], _, _ => exact g1 ⟨a, by have := h 0 (by simp); simp at this; omega⟩
  | [a, b], _, _ => exact g2 ⟨a, by have := h 0 (by simp); simp at this; omega⟩ ⟨b, by have := h 1 (by simp); simp at this; omega⟩
  | [a, b, c], _, _ => exact g3 ⟨a, by have := h 0 (by simp); simp at this; omega⟩ ⟨b, by have := h 1 (by simp); simp at this; omega⟩ ⟨c, by have := h 2 (by simp); simp at this; omega⟩
  | [a, b, c, d], _, _ => exact g4 ⟨a, by have := h 0 (by simp); simp at this; omega⟩ ⟨b, by have := h 1 (by simp); simp at this; omega⟩ ⟨c, by have := h 2 (by simp); simp at this; omega⟩ ⟨d, by have := h 3 (by simp); simp at this; omega⟩
  | _ :: _ :: _ :: _ :: _ :: _, _, h4 => exact absurd h4 (by simp)
theorem good_graph (av : List Nat) (h : treeOk av) (h1 : 1 ≤ av.length) (h4 : av.length ≤ 4) : GraphP ((av.length + 1 : Nat) : Int) (allE (av.length + 1) (treeT av) 0 (av.length + 1)) ∧ (allE (av.length + 1) (treeT av) 0 (av.length + 1)).length ≤ 4 := by
  have g := good_all av h h1 h4
  simp only [goodT, Bool.and_eq_true, decide_eq_true_eq] at g
  exact ⟨goodG_graph g.1, g.2⟩
structure DrawnG (n : Int) (es : List S57) : Prop where
  g : GraphP n es
  lo : 2 ≤ n
  hi : n ≤ 5
  len : es.length ≤ 8
theorem drawMore (s : List Int) (hs : s.length < 4611686018427387904) (n : Nat) (h2 : 2 ≤ n) (h5 : n ≤ 5) : ∀ (c : Nat) (i h : Int) (es : List S57), 0 ≤ i → GraphP n es → es.length + c ≤ 8 →
    ∃ es' i' h', Ev (fun k => spec_l02Draw.l4 k (n : Int) (c : Int) s i h (n : Int) es) ((n : Int), es', i', h') ∧ DrawnG n es' ∧ 0 ≤ i' := by
  intro c
  induction c with
  | zero =>
    intro i h es hi hg hl
    refine ⟨es, i, h, ev_succ ?_, ⟨hg, by omega, by omega, by omega⟩, hi⟩
    simp only [spec_l02Draw.l4]
    exact ev_ifn (by omega) (Ev.now _)
  | succ c ih =>
    intro i h es hi hg hl
    obtain ⟨x, i1, h1, e1, x0, x1, hi1⟩ := below_ex s hs i h hi n (by omega) (by omega)
    obtain ⟨y, i2, h2', e2, y0, y1, hi2⟩ := below_ex s hs i1 h1 hi1 (wrap64 ((n : Int) - 1)) (by unfold wrap64; omega) (by unfold wrap64; omega)
    have ew : wrap64 (((c + 1 : Nat) : Int) - 1) = (c : Int) := by unfold wrap64; omega
    rcases specAdd_ev n es x (Int.tmod (wrap64 ((wrap64 (x + 1)) + y)) n) (by omega) with ⟨_, _, _, _, h12, he, hg'⟩ | ⟨_, he⟩
    · obtain ⟨es', i', h', r1, r2, r3⟩ := ih i2 h2' _ hi2 hg' (by rw [insE_len]; omega)
      refine ⟨es', i', h', ev_succ ?_, r2, r3⟩
      simp only [spec_l02Draw.l4, e1, e2, Option.bind_some, ew]
      refine ev_ift (by omega) (ev_ifn (by omega) ?_)
      refine Ev.bind he ?_
      exact ev_ift rfl r1
    · obtain ⟨es', i', h', r1, r2, r3⟩ := ih i2 h2' es hi2 hg (by omega)
      refine ⟨es', i', h', ev_succ ?_, r2, r3⟩
      simp only [spec_l02Draw.l4, e1, e2, Option.bind_some, ew]
      refine ev_ift (by omega) (ev_ifn (by omega) ?_)
      refine Ev.bind he ?_
      exact ev_iff r1
section
variable (n : Nat) (s : List Int) (i h : Int) (T : List S57) (hT : T.length ≤ 4)
theorem draw3 (a b : Nat) (acc : List S57) (r : Int × List S57 × Int × Int) : ∀ (c : Nat) (acc : List S57), acc.length + c ≤ 1000 → Ev (fun k => spec_l02Draw.l2 k (n : Int) (a : Int) (wrap64 ((b : Int) + 1)) s i h (n : Int) T (n : Int) (acc ++ List.replicate c ⟨(a : Int), (b : Int)⟩)) r →
    Ev (fun k => spec_l02Draw.l3 k (n : Int) (a : Int) (b : Int) (c : Int) s i h (n : Int) T (n : Int) acc) r := by
  intro c
  induction c with
  | zero =>
    intro acc ha hr
    rw [List.replicate_zero, List.append_nil] at hr
    refine ev_succ ?_
    simp only [spec_l02Draw.l3]
    exact ev_ifn (by omega) hr
  | succ c ih =>
    intro acc ha hr
    have h1 := ih (acc ++ [⟨(a : Int), (b : Int)⟩]) (by simp; omega) (by rw [List.replicate_succ] at hr; simpa using hr)
    have ew : wrap64 (((c + 1 : Nat) : Int) - 1) = (c : Int) := by unfold wrap64; omega
    refine ev_succ ?_
    simp only [spec_l02Draw.l3, ew]
    exact ev_ift (by omega) (ev_ift (by omega) h1)
end
theorem multI_le (n : Int) (T : List S57) (a b : Int) : 0 ≤ multI n T a b ∧ multI n T a b ≤ T.length := by
  unfold multI
  split
  · unfold multN
    have := List.countP_le_length (p := fun e : S57 => decide (e.f0 = mn a b) && decide (e.f1 = mx a b)) (l := T)
    omega
  · omega
theorem rowE_succ (n : Nat) (T : List S57) (a b d : Nat) : rowE n T a b (d + 1) = repE n T a b ++ rowE n T a (b + 1) d := by
  unfold rowE
  rw [List.range'_succ, List.flatMap_cons]
theorem allE_succ (n : Nat) (T : List S57) (a d : Nat) : allE n T a (d + 1) = rowE n T a (a + 1) (n - (a + 1)) ++ allE n T (a + 1) d := by
  unfold allE
  rw [List.range'_succ, List.flatMap_cons]
theorem repE_len (n : Nat) (T : List S57) (hT : T.length ≤ 4) (a b : Nat) : (repE n T a b).length ≤ 4 := by
  have := multI_le n T a b
  unfold repE
  rw [List.length_replicate]
  omega
theorem rowE_len (n : Nat) (T : List S57) (hT : T.length ≤ 4) (a : Nat) : ∀ d b, (rowE n T a b d).length ≤ 4 * d := by
  intro d
  induction d with
  | zero => intro b; simp [rowE]
  | succ d ih =>
    intro b
    rw [rowE_succ, List.length_append]
    have := ih (b + 1)
    have := repE_len n T hT a b
    omega
theorem draw2 (n : Nat) (s : List Int) (i h : Int) (T : List S57) (hT : T.length ≤ 4) (hn : n ≤ 5) (a : Nat) (r : Int × List S57 × Int × Int) : ∀ (d b : Nat) (acc : List S57), b + d = n → acc.length + 4 * d ≤ 900 →
    Ev (fun k => spec_l02Draw.l1 k (n : Int) (wrap64 ((a : Int) + 1)) s i h (n : Int) T (n : Int) (acc ++ rowE n T a b d)) r → Ev (fun k => spec_l02Draw.l2 k (n : Int) (a : Int) (b : Int) s i h (n : Int) T (n : Int) acc) r := by
  intro d
  induction d with
  | zero =>
    intro b acc hb hl hr
    have e : rowE n T a b 0 = [] := rfl
    rw [e, List.append_nil] at hr
    refine ev_succ ?_
    simp only [spec_l02Draw.l2]
    exact ev_ifn (by omega) hr
  | succ d ih =>
    intro b acc hb hl hr
    have hm := multI_le n T a b
    have hc : ((multI n T a b).toNat : Int) = multI n T a b := Int.toNat_of_nonneg hm.1
    have me := spec_mult_ev n T (by omega) a b
    rw [← hc] at me
    rw [rowE_succ, ← List.append_assoc] at hr
    have h1 := ih (b + 1) (acc ++ repE n T a b) (by omega) (by have := repE_len n T hT a b; rw [List.length_append]; omega) hr
    rw [← wrap_succ (show b < 4611686018427387904 by omega)] at h1
    have h3 := draw3 n s i h T a b [] r (multI n T a b).toNat acc (by omega) h1
    refine ev_succ ?_
    simp only [spec_l02Draw.l2]
    exact ev_ift (by omega) (Ev.bind me h3)
theorem draw1 (n : Nat) (s : List Int) (hs : s.length < 4611686018427387904) (i h : Int) (hi : 0 ≤ i) (T : List S57) (hT : T.length ≤ 4) (h2 : 2 ≤ n) (hn : n ≤ 5) : ∀ (d a : Nat) (acc : List S57), a + d = n → acc.length + 20 * d ≤ 500 →
    GraphP n (acc ++ allE n T a d) → (acc ++ allE n T a d).length ≤ 4 → ∃ es' i' h', Ev (fun k => spec_l02Draw.l1 k (n : Int) (a : Int) s i h (n : Int) T (n : Int) acc) ((n : Int), es', i', h') ∧ DrawnG n es' ∧ 0 ≤ i' := by
  intro d
  induction d with
  | zero =>
    intro a acc ha hl hg h4
    have e : allE n T a 0 = [] := rfl
    rw [e, List.append_nil] at hg h4
    obtain ⟨x, i1, h1, e1, x0, x1, hi1⟩ := below_ex s hs i h hi 5 (by omega) (by omega)
    obtain ⟨es', i', h', r1, r2, r3⟩ := drawMore s hs n h2 hn x.toNat i1 h1 acc hi1 hg (by omega)
    rw [Int.toNat_of_nonneg x0] at r1
    refine ⟨es', i', h', ev_succ ?_, r2, r3⟩
    simp only [spec_l02Draw.l1, e1, Option.bind_some]
    exact ev_ifn (by omega) r1
  | succ d ih =>
    intro a acc ha hl hg h4
    rw [allE_succ, ← List.append_assoc] at hg h4
    have hrl := rowE_len n T hT a (n - (a + 1)) (a + 1)
    obtain ⟨es', i', h', r1, r2, r3⟩ := ih (a + 1) (acc ++ rowE n T a (a + 1) (n - (a + 1))) (by omega) (by rw [List.length_append]; omega) hg h4
    refine ⟨es', i', h', ev_succ ?_, r2, r3⟩
    rw [← wrap_succ (show a < 4611686018427387904 by omega)] at r1
    have hd := draw2 n s i h T hT hn a _ (n - (a + 1)) (a + 1) acc (by omega) (by omega) r1
    simp only [spec_l02Draw.l1, wrap_succ (show a < 4611686018427387904 by omega)]
    exact ev_ift (by omega) hd
theorem treeT_len (av : List Nat) : (treeT av).length = av.length := by simp [treeT]
theorem draw0 (n : Nat) (s : List Int) (hs : s.length < 4611686018427387904) (h2 : 2 ≤ n) (hn : n ≤ 5) : ∀ (d : Nat) (av : List Nat) (i h : Int), 0 ≤ i → av.length + 1 + d = n → treeOk av →
    ∃ es' i' h', Ev (fun k => spec_l02Draw.l0 k (n : Int) ((av.length + 1 : Nat) : Int) s i h ((av.length + 1 : Nat) : Int) (treeT av)) ((n : Int), es', i', h') ∧ DrawnG n es' ∧ 0 ≤ i' := by
  intro d
  induction d with
  | zero =>
    intro av i h hi ha ht
    obtain rfl : av.length + 1 = n := by omega
    obtain ⟨g1, g2⟩ := good_graph av ht (by omega) (by omega)
    obtain ⟨es', i', h', r1, r2, r3⟩ := draw1 (av.length + 1) s hs i h hi (treeT av) (by rw [treeT_len]; omega) h2 hn (av.length + 1) 0 [] (by omega) (by simp; omega) g1 g2
    refine ⟨es', i', h', ev_succ ?_, r2, r3⟩
    simp only [spec_l02Draw.l0]
    exact ev_ifn (by omega) r1
  | succ d ih =>
    intro av i h hi ha ht
    obtain ⟨x, i1, h1, e1, x0, x1, hi1⟩ := below_ex s hs i h hi ((av.length + 1 : Nat) : Int) (by omega) (by omega)
    obtain ⟨es', i', h', r1, r2, r3⟩ := ih (av ++ [x.toNat]) i1 h1 hi1 (by simp; omega) (fun j hj => by
      rw [List.length_append, List.length_singleton] at hj
      by_cases c : j < av.length
      · rw [List.getD_eq_getElem?_getD, List.getElem?_append_left c, ← List.getD_eq_getElem?_getD]
        exact ht j c
      · obtain rfl : j = av.length := by omega
        simp
        omega)
    refine ⟨es', i', h', ev_succ ?_, r2, r3⟩
    rw [treeT_snoc, Int.toNat_of_nonneg x0, List.length_append, List.length_singleton, ← wrap_succ (show av.length + 1 < 4611686018427387904 by omega)] at r1
    simp only [spec_l02Draw.l0, e1, Option.bind_some]
    have hl := treeT_len av
    exact ev_ift (by omega) (ev_ift (by omega) r1)
theorem makeGraph_ex (code : List Int) (hc : code.length < 4611686018427387904) : ∃ n es, Ev (fun k => spec_MakeGraph.f k code) (n, es) ∧ DrawnG n es := by
  obtain ⟨h, hn⟩ := new_ex code hc
  obtain ⟨t, i1, h1, e1, t0, t1, hi1⟩ := below_ex code hc 0 h (by omega) (wrap64 (5 - 1)) (by unfold wrap64; omega) (by unfold wrap64; omega)
  have ew : wrap64 (5 - 1) = 4 := by unfold wrap64; omega
  rw [ew] at e1 t1
  obtain ⟨es', i', h', r1, r2, r3⟩ := draw0 (2 + t.toNat) code hc (by omega) (by omega) (1 + t.toNat) [] i1 h1 hi1 (by simp; omega) (fun j hj => by simp at hj)
  have et : wrap64 (2 + t) = ((2 + t.toNat : Nat) : Int) := by unfold wrap64; omega
  refine ⟨_, es', ?_, r2⟩
  simp only [spec_MakeGraph.f, spec_l02Graph.f, spec_l02Draw.f]
  refine Ev.bind hn ?_
  have d1 : Ev (fun k => (spec_l01Below.f code 0 h (wrap64 (5 - 1))).bind fun bt => spec_l02Draw.l0 k (wrap64 (2 + bt.1)) 1 code bt.2.1 bt.2.2 1 []) (((2 + t.toNat : Nat) : Int), es', i', h') := by
    simp only [ew, e1, Option.bind_some, et]
    exact r1
  exact Ev.bind (Ev.bind d1 (Ev.now _)) (Ev.now _)
def okE (n : Nat) (e : S57) : Prop := 0 ≤ e.f0 ∧ e.f0 < e.f1 ∧ e.f1 < n
end Go.Proofs.Ytplcclifmajcfaa.Pure
end
section
set_option linter.unusedVariables false
set_option linter.unusedSimpArgs false
namespace Go.Proofs.Ytplcclifmajcfaa.Pure
open Go.RowKit Go.Proofs.Ytplcclifmajcfaa.P Go.Proofs.YtplcclifmajcfaaW.PrintWords Go.Proofs.YtplcclifmajcfaaW.PrintLast Go.Proofs.YtplcclifmajcfaaW.PrintMore Go.Proofs.Ytplcclifmajcfaa.Base Go.Proofs.Ytplcclifmajcfaa.Reduce Go.Proofs.Ytplcclifmajcfaa.Loops Go.Proofs.Ytplcclifmajcfaa.Bits
def mE (n : Nat) (es : List S57) : Nat → Nat → Int := fun v w => multI n es v w
theorem multI_self (n : Int) (es : List S57) (v : Int) : multI n es v v = 0 := by
  unfold multI
  rw [if_neg (by omega)]
theorem multI_cons (n : Nat) (es : List S57) (e : S57) (he : okE n e) (v w : Nat) (hv : v < n) (hw : w < n) :
    multI n (e :: es) v w = multI n es v w + (if (e.f0.toNat = v ∧ e.f1.toNat = w) ∨ (e.f1.toNat = v ∧ e.f0.toNat = w) then 1 else 0) := by
  obtain ⟨h0, h1, h2⟩ := he
  by_cases hvw : v = w
  · subst hvw
    rw [multI_self, multI_self, if_neg (by omega)]; rfl
  · have hr : 0 ≤ (v : Int) ∧ (v : Int) < n ∧ 0 ≤ (w : Int) ∧ (w : Int) < n ∧ (v : Int) ≠ w := by omega
    unfold multI multN
    rw [if_pos hr, if_pos hr, List.countP_cons]
    have hiff : (decide (e.f0 = mn v w) && decide (e.f1 = mx v w)) = true ↔ ((e.f0.toNat = v ∧ e.f1.toNat = w) ∨ (e.f1.toNat = v ∧ e.f0.toNat = w)) := by
      rw [Bool.and_eq_true, decide_eq_true_eq, decide_eq_true_eq]
      unfold mn mx
      split <;> split <;> omega
    by_cases c : (e.f0.toNat = v ∧ e.f1.toNat = w) ∨ (e.f1.toNat = v ∧ e.f0.toNat = w)
    · rw [if_pos c, if_pos (hiff.2 c)]; omega
    · rw [if_neg c, if_neg (fun h => c (hiff.1 h))]; omega
theorem sum_ind (n j : Nat) (F : Nat → Int) (hj : j < n) : sumN (fun w => (if w = j then 1 else 0) * F w) n = F j := by
  have h := sumN_upd (fun _ => (0 : Int)) n j (F j) hj
  rw [sumN_zero] at h
  rw [← sumN_congr (f := fun i => if i = j then F j else 0) (fun i _ => ?_), h]
  · omega
  · by_cases e : i = j
    · subst e; simp
    · simp [e]
theorem lap_cons (n : Nat) (es : List S57) (e : S57) (he : okE n e) (v : Nat) (hv : v < n) (F : Nat → Int) :
    sumN (fun w => mE n (e :: es) v w * F w) n = sumN (fun w => mE n es v w * F w) n + (if e.f0.toNat = v then F e.f1.toNat else 0) + (if e.f1.toNat = v then F e.f0.toNat else 0) := by
  have hc := multI_cons n es e he v
  obtain ⟨h0, h1, h2⟩ := he
  have split_ : ∀ j : Nat, j < n → (∀ w, w < n → (((e.f0.toNat = v ∧ e.f1.toNat = w) ∨ (e.f1.toNat = v ∧ e.f0.toNat = w)) ↔ w = j)) → sumN (fun w => mE n (e :: es) v w * F w) n = sumN (fun w => mE n es v w * F w) n + F j := by
    intro j hj hiff
    rw [← sum_ind n j F hj, ← sumN_add]
    refine sumN_congr fun w hw => ?_
    show multI n (e :: es) v w * F w = multI n es v w * F w + _
    rw [hc w hv hw]
    by_cases c : w = j
    · rw [if_pos ((hiff w hw).2 c), if_pos c, Int.add_mul]
    · rw [if_neg (fun h => c ((hiff w hw).1 h)), if_neg c, Int.add_mul]
  by_cases a : e.f0.toNat = v
  · rw [if_pos a, if_neg (by omega), split_ e.f1.toNat (by omega) (fun w hw => by omega)]; omega
  · by_cases b : e.f1.toNat = v
    · rw [if_neg a, if_pos b, split_ e.f0.toNat (by omega) (fun w hw => by omega)]; omega
    · rw [if_neg a, if_neg b]
      have : sumN (fun w => mE n (e :: es) v w * F w) n = sumN (fun w => mE n es v w * F w) n := sumN_congr fun w hw => by
        show multI n (e :: es) v w * F w = multI n es v w * F w
        rw [hc w hv hw, if_neg (by omega)]; congr 1; omega
      rw [this]; omega
theorem mE_nil (n : Nat) (v : Nat) (F : Nat → Int) : sumN (fun w => mE n ([] : List S57) v w * F w) n = 0 := by
  rw [← sumN_zero n]
  refine sumN_congr fun w _ => ?_
  show multI n [] v w * F w = 0
  unfold multI multN
  split <;> simp
end Go.Proofs.Ytplcclifmajcfaa.Pure
end
section
set_option linter.unusedVariables false
set_option linter.unusedSimpArgs false
namespace Go.Proofs.Ytplcclifmajcfaa.Pure
open Go.RowKit Go.Proofs.Ytplcclifmajcfaa.P Go.Proofs.YtplcclifmajcfaaW.PrintWords Go.Proofs.YtplcclifmajcfaaW.PrintLast Go.Proofs.YtplcclifmajcfaaW.PrintMore Go.Proofs.Ytplcclifmajcfaa.Base Go.Proofs.Ytplcclifmajcfaa.Loops
def valN (es : List S57) (v : Int) : Nat := es.countP fun e => decide (e.f0 = v) || decide (e.f1 = v)
def valI (n : Int) (es : List S57) (v : Int) : Int := if 0 ≤ v ∧ v < n then (valN es v : Int) else 0
theorem val_loop (es : List S57) (hl : es.length < 4611686018427387904) (v : Int) (g : Nat → Int → Int → Option Int)
    (hg : ∀ k c i, g (k + 1) c i = if i < (es.length : Int) then (if 0 ≤ i then (if i < (es.length : Int) then (if ((rd_T57 es i).f0) = v then (g k (wrap64 (c + 1)) (wrap64 (i + 1))) else (if ((rd_T57 es i).f1) = v then (g k (wrap64 (c + 1)) (wrap64 (i + 1))) else (g k c (wrap64 (i + 1))))) else (none)) else (none)) else (some c)) :
    Ev (fun k => g k 0 0) (valN es v : Int) := by
  have h := ev_list es (fun k (c : Int) i => g k c i) (fun c r => c + (r.countP fun e => decide (e.f0 = v) || decide (e.f1 = v) : Nat)) (fun c r => 0 ≤ c ∧ c + r.length ≤ es.length) (fun s _ => ev1 fun k => ?_) (fun s e rest i hlt hd hinv => Or.inr ?_) es 0 0 (by omega) rfl (by simp)
  · simpa [valN] using h
  · rw [hg, if_neg (by omega)]; simp
  · simp only [List.length_cons] at hinv
    by_cases hc : e.f0 = v ∨ e.f1 = v
    · refine ⟨s + 1, by omega, ?_, 0, fun k _ => ?_⟩
      · rw [List.countP_cons_of_pos (by simp [hc])]; omega
      · rw [hg, if_pos (by omega), if_pos (by omega), if_pos (by omega), rd_IE hd, wrap_succ (by omega), wrap_id (by omega) (by omega)]
        by_cases h1 : e.f0 = v
        · rw [if_pos h1]
        · rw [if_neg h1, if_pos (by omega)]
    · refine ⟨s, by omega, ?_, 0, fun k _ => ?_⟩
      · rw [List.countP_cons_of_neg (by simp; omega)]
      · rw [hg, if_pos (by omega), if_pos (by omega), if_pos (by omega), rd_IE hd, wrap_succ (by omega), if_neg (by omega), if_neg (by omega)]
theorem impl_val_ev (n : Int) (es : List S57) (hl : es.length < 4611686018427387904) (v : Int) : Ev (fun k => impl_Valence.f k n es v) (valI n es v) := by
  simp only [impl_Valence.f]
  have off : ∀ q : Bool, q = true → Ev (fun k => impl_Valence.j0 k v q n es) 0 := fun q hq => ev1 fun k => by
    simp only [impl_Valence.j0, hq, if_true]
  by_cases h1 : v < 0
  · simp only [if_pos h1]
    rw [valI, if_neg (by omega)]
    exact off _ rfl
  · simp only [if_neg h1]
    by_cases h2 : v ≥ n
    · rw [valI, if_neg (by omega)]
      exact off _ (by simp; omega)
    · rw [valI, if_pos (by omega)]
      obtain ⟨K, hK⟩ := val_loop es hl v (fun k c i => impl_Valence.l0 k v c es (es.length : Int) i) (fun k c i => by simp only [impl_Valence.l0])
      refine ⟨K + 1, fun k hk => ?_⟩
      obtain ⟨m, rfl⟩ : ∃ m, k = m + 1 := ⟨k - 1, by omega⟩
      have h2 := hK m (by omega)
      dsimp only at h2 ⊢
      simp only [impl_Valence.j0]
      rw [if_neg (by simp; omega), h2]
end Go.Proofs.Ytplcclifmajcfaa.Pure
end
