/- Functions of the program as plain Lean functions and that the machine's calls answer as they do, the words of the print that these use, lemmas and plain proofs of laws. Put together by a program of this work that leaves out what nothing uses; Lean checks it. -/
import Derived.Test.YtbcfccdoffbncaaG9c6b992078
import Derived.Test.YtbcfccdoffbncaaGc83b03f08c
import Derived.Test.YtbcfccdoffbncaaG1633c61cc1
import Derived.Test.YtbcfccdoffbncaaG4ecab7aab0
import Derived.Test.YtbcfccdoffbncaaGa6b61c0ea3
section
namespace Go.Proofs.Ytbcfccdoffbncaa.P
open Go.RowKit Go.Proofs.YtbcfccdoffbncaaW.PrintWords Go.Proofs.YtbcfccdoffbncaaW.PrintLast Go.Proofs.YtbcfccdoffbncaaW.PrintMore
attribute [local go_sem] max2_int min2_int max_two min_two max_three min_three max_four min_four
set_option linter.unusedVariables false
set_option linter.unusedSimpArgs false
def spec_MakeScript.l0 : Nat → List Int → Int → Int → List (S67) → List Int → Int → Int → Option (List Int)
 | 0, _, _, _, _, _, _, _ => none
 | k + 1, x8, x9, x799000, x799001, x803000, x803001, x803002 => if x9 < x799000 then ((spec_l01Below.f x803000 x803001 x803002 7).bind fun bt806 => (if x8.length < 17592186044416 then (spec_MakeScript.l0 k (x8 ++ [wrap64 (bt806.1 - 3)]) (wrap64 (x9 + 1)) x799000 x799001 x803000 bt806.2.1 bt806.2.2) else (none))) else (some x8)
def spec_MakeScript.f (k : Nat) (l0 : List Int) (a1 : Int) (a2_0 : Int) (l2_1 : List (S67)) : Option (List Int) := (spec_l21New.f k l0 a1).bind fun bt799 => (spec_MakeScript.l0 k (([] : List Int)) 0 a2_0 l2_1 bt799.1 bt799.2.1 bt799.2.2)
set_option maxHeartbeats 8000000 in
set_option maxRecDepth 100000 in
theorem spec_MakeScript.calls (k : Nat) (A0 : Option Addr) (c0 : Nat) (l0 : List Int) (a1 : Int) (a2_0 : Int) (A2_1 : Option Addr) (c2_1 : Nat) (l2_1 : List (S67)) (r : List Int) (w : World) (hr0 : Kd.C (Kd.int .u8) w A0 l0.length l0) (hc0 : l0.length ≤ c0) (hr2_1 : Kd.C k67 w A2_1 l2_1.length l2_1) (hc2_1 : l2_1.length ≤ c2_1) (h : spec_MakeScript.f k l0 a1 a2_0 l2_1 = some r) :
  Calls Try.prog 30 #[.slice A0 l0.length c0, .int .i64 a1, .agg #[.int .i64 a2_0, .slice A2_1 l2_1.length c2_1]] w fun e w' => ∃ v0_ : Value, e = .returned (v0_) ∧ Kd.R (Kd.int .i64) 3 w' w.heap.size (fun _ => True) v0_ r ∧ Below w.heap.size w w' := by
 have hu31 := Try.underlying31
 have HR0 := Aside0.mk hr0
 have HC0 := Aside0.mk hc0
 clear hr0 hc0
 have HR2_1 := Aside0.mk hr2_1
 have HC2_1 := Aside0.mk hc2_1
 clear hr2_1 hc2_1
 have HB := Aside0.mk (Below.refl w.heap.size w)
 have H : ((spec_l21New.f k l0 a1).bind fun bt799 => (spec_MakeScript.l0 k (([] : List Int)) 0 a2_0 l2_1 bt799.1 bt799.2.1 bt799.2.2)) = some r := h
 clear h
 replace H := Option.bind_eq_some_iff.mp H
 obtain ⟨⟨t799, t800, t801⟩, A40, H⟩ := H
 replace H : (spec_MakeScript.l0 k (([] : List Int)) 0 a2_0 l2_1 t799 t800 t801) = some r := H
 have A4 := Aside0.mk A40
 clear A40
 obtain ⟨y803, hy803⟩ : ∃ y_ : List Int, y_ = (([] : List Int)) := ⟨_, rfl⟩
 replace H : (spec_MakeScript.l0 k y803 0 a2_0 l2_1 t799 t800 t801) = some r := by first | (rw [hy803]; with_reducible exact H) | (have H2_ := (Option.bind_some _ _).symm.trans H; rw [hy803]; with_reducible exact H2_) | (have H2_ := (Option.bind_some _ _).symm.trans H; with_reducible exact H2_) | with_reducible exact H | (rw [hy803]; exact H) | exact H
 have Ny803 := Aside0.mk hy803
 clear hy803
 have H' := Aside0.mk H
 clear H
 go_enter Try.func30, Try.ntmps30
 go_wp2_with (first | ((with_reducible refine gate_dst (N := 5) rfl ?_); refine box_event ?hg (N := 5) ?hd (cs := #[.int .i64 a2_0, .slice A2_1 l2_1.length c2_1]) (t := 31) ?hr ?_; (case hd => rfl); (case hg => rfl); (case hr => first | (go_simp; done) | (go_simp; rfl)); intro gb798 hg w5 hbox hb; have BK798 := Aside0.mk (hbox); have GW798 := Aside0.mk ((by rw [hg]; exact (below_size (Lz HB)) : w.heap.size ≤ gb798)); have GE798 := Aside0.mk ((by rw [hg]; exact (below_size (Lz HB)) : w.heap.size ≤ gb798)); replace HB := Aside0.mk (below_step (Lz HB) hb); clear hb hbox hg) | ((with_reducible refine gate_callee (f := 69) rfl ?_); refine goesM_ (some 12) rfl rfl Try.func69 (by kernel_rfl) rfl #[.slice A0 l0.length c0, .int .i64 a1] rfl ?_; (with_reducible refine (spec_l21New.calls k _ _ l0 a1 t799 t800 t801 w _ ?side1 ?side2 ?side3 A4.out).mono ?_); (case side1 => exact Lz1 HB GE798); (case side2 => exact HR0.out); (case side3 => exact HC0.out); rintro e w6 ⟨g802, rfl, hi, hb, hb2⟩; refine ⟨_, rfl, ?_⟩; replace HB := Aside0.mk (hb); have HI802 := Aside0.mk (hi); have NB802_798 := Aside0.mk (IsS101.ne_blk hi (blk_below (g := gb798) (o := .cells #[.int .i64 a2_0, .slice A2_1 l2_1.length c2_1] 31 (0, 0)) (Bz BK798) hb2) (by decide)); have NB798_802 := Aside0.mk (Ne.symm (IsS101.ne_blk hi (blk_below (g := gb798) (o := .cells #[.int .i64 a2_0, .slice A2_1 l2_1.length c2_1] 31 (0, 0)) (Bz BK798) hb2) (by decide))); replace BK798 := Aside0.mk (blk_below (g := gb798) (o := .cells #[.int .i64 a2_0, .slice A2_1 l2_1.length c2_1] 31 (0, 0)) (Bz BK798) hb2); (try clear hb); (try clear hb2); (try clear hk); (try clear hi)) | ((with_reducible refine gate_dst (N := 13) rfl ?_); refine Kd.R_lit (Kd.int .i64) _ 3 ?hg (N := 13) ?hd (xs := ([] : List Int)) (inner := []) (ok := fun _ => True) (okp := fun _ => True) ?hr ?hp (fun _ hk => hk) trivial (Below.refl _ _) (Nat.le_refl _) (by simp) ?_; (case hd => rfl); (case hg => rfl); (case hr => first | (go_simp; done) | (go_simp; rfl)); (case hp => exact (Reps.none _ _)); intro v804 w7 ho8 hb hg_ hnew_; clear hg_ hnew_; (first | rw [← Ny803.out] at ho8 | (simp only [Int.reduceToNat] at ho8; rw [← Ny803.out] at ho8)); have HO805 := Aside0.mk (Kd.R_lower ho8 (below_size (by repeat (first | (with_reducible first | exact HB.out | apply below_alloc | apply pw_below_drewN | apply below_drew1 | refine below_set ?_ (IsS101.ge HI802.out) | refine below_set ?_ GE798.out) | exact HB.out)))); replace BK798 := Aside0.mk (blk_below (g := gb798) (o := .cells #[.int .i64 a2_0, .slice A2_1 l2_1.length c2_1] 31 (0, 0)) (Bz BK798) hb); replace HB := Aside0.mk (below_step (by repeat (first | (with_reducible first | exact HB.out | apply below_alloc | apply pw_below_drewN | apply below_drew1 | refine below_set ?_ (IsS101.ge HI802.out) | refine below_set ?_ GE798.out) | exact HB.out)) hb); replace HI802 := Aside0.mk (IsS101.below (by repeat (first | (with_reducible first | exact HI802.out | apply IsS101.alloc | apply IsS101.drewN | apply IsS101.drew | apply IsS101.set_1 | apply IsS101.set_2 | refine IsS101.far ?_ NB802_798.out _) | exact HI802.out)) hb); clear hb ho8))
 go_loopg [8, 9] k (fun kq v8 v9 w' => ∃ (x8_1 : List Int) (x9_1 : Int) (x803001_1 : Int) (x803002_1 : Int), v9 = .int .i64 x9_1 ∧ Aside0 (spec_MakeScript.l0 kq x8_1 x9_1 a2_0 l2_1 t799 x803001_1 x803002_1 = some r) ∧ Aside0 (kq ≤ k) ∧ Aside0 (Kd.R (Kd.int .i64) 3 w' w.heap.size (fun _ => True) v8 x8_1) ∧ Aside0 (w'.heap[gb798]? = some (.cells #[.int .i64 a2_0, (.slice A2_1 l2_1.length c2_1)] 31 (0, 0))) ∧ Aside0 (IsS101 w w' g802 t799 x803001_1 x803002_1) ∧ Aside0 (Below w.heap.size w w'))
 case atStart => exact ⟨(y803), (0), (t800), (t801), eqA, H', ⟨Nat.le_refl _⟩, ⟨by exact Rz HO805⟩, ⟨by exact Bz BK798⟩, ⟨by repeat (first | (with_reducible first | exact HI802.out | apply IsS101.alloc | apply IsS101.drewN | apply IsS101.drew | apply IsS101.set_1 | apply IsS101.set_2 | refine IsS101.far ?_ NB802_798.out _) | exact HI802.out)⟩, ⟨by repeat (first | (with_reducible first | exact HB.out | apply below_alloc | apply pw_below_drewN | apply below_drew1 | refine below_set ?_ (IsS101.ge HI802.out) | refine below_set ?_ GE798.out) | exact HB.out)⟩⟩
 case round =>
  clear H'
  obtain ⟨x8_1, x9_1, x803001_1, x803002_1, rfl, HA, HK1, HO_8, BK798, HI802, HB⟩ := hrel
  cases gk with
  | zero => exact absurd HA.out (by simp [spec_MakeScript.l0])
  | succ k1 =>
   have H := HA.out
   clear HA
   simp only [spec_MakeScript.l0] at H
   by_cases c9 : x9_1 < a2_0
   ·rw [if_pos c9] at H
    have c9b0 : decide (x9_1 < a2_0) = true := decide_eq_true c9
    clear c9
    replace H := Option.bind_eq_some_iff.mp H
    obtain ⟨⟨t806, t807, t808⟩, A100, H⟩ := H
    replace H : (if x8_1.length < 17592186044416 then (spec_MakeScript.l0 k1 (x8_1 ++ [wrap64 (t806 - 3)]) (wrap64 (x9_1 + 1)) a2_0 l2_1 t799 t807 t808) else (none)) = some r := H
    have A10 := Aside0.mk A100
    clear A100
    by_cases c11 : x8_1.length < 17592186044416
    ·rw [if_pos c11] at H
     have LMc11 := Aside0.mk c11
     clear c11
     obtain ⟨y809, hy809⟩ : ∃ y_ : List Int, y_ = (x8_1 ++ [wrap64 (t806 - 3)]) := ⟨_, rfl⟩
     replace H : (spec_MakeScript.l0 k1 y809 (wrap64 (x9_1 + 1)) a2_0 l2_1 t799 t807 t808) = some r := by first | (rw [hy809]; with_reducible exact H) | (have H2_ := (Option.bind_some _ _).symm.trans H; rw [hy809]; with_reducible exact H2_) | (have H2_ := (Option.bind_some _ _).symm.trans H; with_reducible exact H2_) | with_reducible exact H | (rw [hy809]; exact H) | exact H
     have Ny809 := Aside0.mk hy809
     clear hy809
     have H' := Aside0.mk H
     clear H
     have hnb12 := NB798_802.out
     have hnc12 := NB802_798.out
     have hcz13_0 : wr.cell? ⟨gb798, 0, none⟩ = some (.int .i64 a2_0) := (blk_cell BK798.out 0).trans rfl
     have hcz13_1 : wr.cell? ⟨gb798, 1, none⟩ = some (.slice A2_1 l2_1.length c2_1) := (blk_cell BK798.out 1).trans rfl
     have hfz13_0 := blk_frozen BK798.out 0
     have hfz13_1 := blk_frozen BK798.out 1
     go_wp2_with (first | ((with_reducible refine gate_callee (f := 75) rfl ?_); refine goesM_ (some 22) rfl rfl Try.func75 (by kernel_rfl) rfl #[.pointer (some ⟨g802, 0, none⟩), .int .i64 7] rfl ?_; (with_reducible refine (spec_l01Below.calls g802 t799 x803001_1 x803002_1 7 t806 t807 t808 w _ ?side1 ?side2 A10.out).mono ?_); (case side1 => repeat (first | (with_reducible first | exact HI802.out | apply IsS101.alloc | apply IsS101.drewN | apply IsS101.drew | apply IsS101.set_1 | apply IsS101.set_2 | refine IsS101.far ?_ NB802_798.out _) | exact HI802.out)); (case side2 => repeat (first | (with_reducible first | exact HB.out | apply below_alloc | apply pw_below_drewN | apply below_drew1 | refine below_set ?_ (IsS101.ge HI802.out) | refine below_set ?_ GE798.out) | exact HB.out)); rintro e w14 ⟨rfl, hi, hb, hk⟩; refine ⟨_, rfl, ?_⟩; replace HO_8 := Aside0.mk (Kd.R_mono (Kd.R_keep (IsS101.apart (show IsS101 w _ g802 t799 x803001_1 x803002_1 from by repeat (first | (with_reducible first | exact HI802.out | apply IsS101.alloc | apply IsS101.drewN | apply IsS101.drew | apply IsS101.set_1 | apply IsS101.set_2 | refine IsS101.far ?_ NB802_798.out _) | exact HI802.out)) (Rz HO_8) (by decide)) hk (fun _ h => h.2)) (fun _ h => h.1)); replace BK798 := Aside0.mk (KeepBut.blk hk (g' := gb798) (o := .cells #[.int .i64 a2_0, .slice A2_1 l2_1.length c2_1] 31 (0, 0)) (Bz BK798) NB798_802.out (by simp)); replace HB := Aside0.mk (hb); replace HI802 := Aside0.mk (hi); (try clear hb); (try clear hb2); (try clear hk); (try clear hi)) | ((with_reducible refine gate_builtin (b := .append) (xs := #[.tmp 20, .tmp 24]) rfl ?_); at_builtin; refine Kd.R_append (Kd.int .i64) (w0 := w) w.heap.size rfl (.tmp 20) (.tmp 24) 25 3 (.int .i64 0) 8 rfl Try.underlying25 info3 rfl (by decide) (by omega) u8 x8_1 (wrap64 (t806 - 3)) [.int .i64 (wrap64 (t806 - 3))] (fun _ => True) (fun _ => False) rfl rfl ?aP (fun _ hk => hk.elim) ?aF ?aO ?aB ?aS ?aL ?_; (case aP => exact rfl); (case aB => exact (by repeat (first | (with_reducible first | exact HB.out | apply below_alloc | apply pw_below_drewN | apply below_drew1 | refine below_set ?_ (IsS101.ge HI802.out) | refine below_set ?_ GE798.out) | exact HB.out))); (case aF => exact (fun _ _ => trivial)); (case aO => exact (Rz HO_8)); (case aS => exact (below_size (by repeat (first | (with_reducible first | exact HB.out | apply below_alloc | apply pw_below_drewN | apply below_drew1 | refine below_set ?_ (IsS101.ge HI802.out) | refine below_set ?_ GE798.out) | exact HB.out)))); (case aL => have := LMc11.out; omega); intro v810 w15 ho hb hg hat; rw [← Ny809.out] at ho; replace BK798 := Aside0.mk (blk_grown (g := gb798) (o := .cells #[.int .i64 a2_0, .slice A2_1 l2_1.length c2_1] 31 (0, 0)) (Bz BK798) hg (Kd.R_ne HO_8.out BK798.out (by decide))); replace HI802 := Aside0.mk (IsS101.grownF HI802.out (by repeat (first | (with_reducible first | exact HI802.out | apply IsS101.alloc | apply IsS101.drewN | apply IsS101.drew | apply IsS101.set_1 | apply IsS101.set_2 | refine IsS101.far ?_ NB802_798.out _) | exact HI802.out)) hg (IsS101.own_ne HI802.out HO_8.out (by decide))); replace HB := Aside0.mk (hb); have HO811 := Aside0.mk (ho); clear HO_8; clear ho hb hg hat))
     go_roundg k1
     case measure => have := HK1.out; omega
     case rel => exact ⟨(y809), (wrap64 (x9_1 + 1)), (t807), (t808), eqA, H', ⟨by have := HK1.out; omega⟩, ⟨by exact Rz HO811⟩, ⟨by exact Bz BK798⟩, ⟨by repeat (first | (with_reducible first | exact HI802.out | apply IsS101.alloc | apply IsS101.drewN | apply IsS101.drew | apply IsS101.set_1 | apply IsS101.set_2 | refine IsS101.far ?_ NB802_798.out _) | exact HI802.out)⟩, ⟨by repeat (first | (with_reducible first | exact HB.out | apply below_alloc | apply pw_below_drewN | apply below_drew1 | refine below_set ?_ (IsS101.ge HI802.out) | refine below_set ?_ GE798.out) | exact HB.out)⟩⟩
    rw [if_neg c11] at H
    exact absurd H (by simp)
   rw [if_neg c9] at H
   have c9b0 : decide (x9_1 < a2_0) = false := decide_eq_false c9
   clear c9
   obtain rfl := Option.some.inj H
   have hnb16 := NB798_802.out
   have hnc16 := NB802_798.out
   have hcz17_0 : wr.cell? ⟨gb798, 0, none⟩ = some (.int .i64 a2_0) := (blk_cell BK798.out 0).trans rfl
   have hcz17_1 : wr.cell? ⟨gb798, 1, none⟩ = some (.slice A2_1 l2_1.length c2_1) := (blk_cell BK798.out 1).trans rfl
   have hfz17_0 := blk_frozen BK798.out 0
   have hfz17_1 := blk_frozen BK798.out 1
   go_wp2
   go_ret
   exact ⟨_, by first | rfl | (simp [errW_none, errW_some] <;> rfl) | (simp [*, errW_none, errW_some] <;> rfl), by exact Rz HO_8, by repeat (first | (with_reducible first | exact HB.out | apply below_alloc | apply pw_below_drewN | apply below_drew1 | refine below_set ?_ (IsS101.ge HI802.out) | refine below_set ?_ GE798.out) | exact HB.out)⟩
mutual
def laws_FnReduced.j0 : Nat → List Int → Option (Bool)
 | 0, _ => none
 | k + 1, x0 => (spec_MakeGraph.f k x0).bind fun bt828 => ((spec_MakeDivisor.f k x0 20 bt828.1 bt828.2).bind fun t833 => ((spec_MakeNum.f k x0 60).bind fun t836 => (if bt828.1 = 0 then (none) else ((impl_ReducedOf.f k bt828.1 bt828.2 t833 (Int.tmod t836 bt828.1)).bind fun bt837 => ((impl_ReducingScript.f k bt828.1 bt828.2 t833 (Int.tmod t836 bt828.1)).bind fun bt841 => ((impl_FireScript.f k bt828.1 bt828.2 t833 bt841.1).bind fun bt845 => (if bt837.2 = true then (if bt841.2 = true then (if bt845.2 = true then (if (bt841.1.length : Int) = bt828.1 then (if (bt837.1.length : Int) = bt828.1 then (if 0 ≤ (Int.tmod t836 bt828.1) then (if (Int.tmod t836 bt828.1) < (bt841.1.length : Int) then (if (rd bt841.1 (Int.tmod t836 bt828.1)) = 0 then ((laws_same.f k bt845.1 bt837.1).bind fun t850 => (if t850 = true then ((impl_IsReduced.f k bt828.1 bt828.2 bt837.1 (Int.tmod t836 bt828.1)).bind fun t851 => (laws_FnReduced.j1 k x0 t833 (Int.tmod t836 bt828.1) bt837.1 (!t851) bt828.1 bt828.2)) else (laws_FnReduced.j1 k x0 t833 (Int.tmod t836 bt828.1) bt837.1 true bt828.1 bt828.2))) else (laws_FnReduced.j1 k x0 t833 (Int.tmod t836 bt828.1) bt837.1 true bt828.1 bt828.2)) else (none)) else (none)) else (laws_FnReduced.j1 k x0 t833 (Int.tmod t836 bt828.1) bt837.1 true bt828.1 bt828.2)) else (laws_FnReduced.j1 k x0 t833 (Int.tmod t836 bt828.1) bt837.1 true bt828.1 bt828.2)) else (laws_FnReduced.j1 k x0 t833 (Int.tmod t836 bt828.1) bt837.1 true bt828.1 bt828.2)) else (laws_FnReduced.j1 k x0 t833 (Int.tmod t836 bt828.1) bt837.1 true bt828.1 bt828.2)) else (laws_FnReduced.j1 k x0 t833 (Int.tmod t836 bt828.1) bt837.1 true bt828.1 bt828.2))))))))
def laws_FnReduced.j1 : Nat → List Int → List Int → Int → List Int → Bool → Int → List (S67) → Option (Bool)
 | 0, _, _, _, _, _, _, _ => none
 | k + 1, x0, x4, x5, x6, x95, x833000, x833001 => if x95 = true then (some false) else (laws_FnReduced.j2 k x0 x4 x5 x6 x833000 x833001)
def laws_FnReduced.j2 : Nat → List Int → List Int → Int → List Int → Int → List (S67) → Option (Bool)
 | 0, _, _, _, _, _, _ => none
 | k + 1, x0, x4, x5, x6, x833000, x833001 => (spec_MakeScript.f k x0 40 x833000 x833001).bind fun t852 => ((impl_FireScript.f k x833000 x833001 x4 t852).bind fun bt855 => ((impl_ReducedOf.f k x833000 x833001 bt855.1 x5).bind fun bt859 => ((impl_ChipsAt.f k x833000 x833001 x4 x5).bind fun bt863 => (if bt855.2 = true then (if bt859.2 = true then (if bt863.2 = true then ((laws_same.f k bt859.1 x6).bind fun t865 => (if t865 = true then (if 0 ≤ x5 then (if x5 < (x6.length : Int) then (if bt863.1 = (rd x6 x5) then ((impl_MostLegalSet.f k x833000 x833001 x6 x5).bind fun t867 => (some ((t867.length : Int) == 0))) else (some false)) else (none)) else (none)) else (some false))) else (some false)) else (some false)) else (some false)))))
end
def laws_FnReduced.f (k : Nat) (l0 : List Int) : Option (Bool) := if (l0.length : Int) > 1048576 then (some true) else (laws_FnReduced.j0 k l0)
def laws_FnReduced.T11 : Bool × List (List Nat × List Nat) := (true, [([], []), ([], []), ([], []), ([], []), ([2, 3], [2, 3]), ([0, 1, 4, 4], [0, 1, 4]), ([5], [5]), ([6], [6]), ([6], [6]), ([7, 5, 0, 1, 2, 3, 4, 5, 6, 7], [7]), ([8, 9, 0, 1, 2, 3, 4, 5, 6, 7, 8, 9], [8])])
def laws_FnReduced.B11 : List Nat := [0, 0, 0, 0, 12, 31, 63, 127, 127, 255, 1023]
theorem laws_FnReduced.tab11 : rtab .any (opsOf Try.f5 11) = laws_FnReduced.T11 := by kernel_rfl
theorem laws_FnReduced.bits11 : waitsOk laws_FnReduced.T11.2 laws_FnReduced.B11 = true := by kernel_rfl
set_option maxHeartbeats 8000000 in
set_option maxRecDepth 100000 in
theorem laws_FnReduced.calls (k : Nat) (A0 : Option Addr) (c0 : Nat) (l0 : List Int) (r : Bool) (w : World) (hr0 : Kd.C (Kd.int .u8) w A0 l0.length l0) (hc0 : l0.length ≤ c0) (h : laws_FnReduced.f k l0 = some r) (hR_ : r = true := by rfl) :
  Calls Try.prog 5 #[.slice A0 l0.length c0] w fun e w' => e = .returned (.bool r) ∧ Below w.heap.size w w' := by
 have HR_ := Aside0.mk hR_
 clear hR_
 have hu31 := Try.underlying31
 have HR0 := Aside0.mk hr0
 have HC0 := Aside0.mk hc0
 clear hr0 hc0
 have HB := Aside0.mk (Below.refl w.heap.size w)
 have H : (if (l0.length : Int) > 1048576 then (some true) else (laws_FnReduced.j0 k l0)) = some r := h
 clear h
 have HC2 := Aside0.mk H
 clear H
 go_enter Try.func5, Try.ntmps5
 go_upto_if 20 with (fail)
 go_cut [] (fun wc => ∃ (kq : Nat), Aside0 (laws_FnReduced.j0 kq l0 = some r) ∧ Aside0 (kq ≤ k) ∧ Aside0 (Below w.heap.size w wc))
 case first =>
  have H := HC2.out
  clear HC2
  by_cases c3 : (l0.length : Int) > 1048576
  ·rw [if_pos c3] at H
   have c3b0 : decide (1048576 < (l0.length : Int)) = true := decide_eq_true c3
   have c3b1 : decide (1048576 < l0.length) = true := decide_eq_true (by omega)
   clear c3
   (first | rw [c3b0] | (simp only [i64_w, i32_w]; rw [c3b0]) | skip)
   obtain rfl := Option.some.inj H
   go_wp2
   go_ret
   exact ⟨by first | rfl | (simp [errW_none, errW_some] <;> rfl) | (simp [*, errW_none, errW_some] <;> rfl), by exact Lz HB⟩
  rw [if_neg c3] at H
  have c3b0 : decide (1048576 < (l0.length : Int)) = false := decide_eq_false c3
  have c3b1 : decide (1048576 < l0.length) = false := decide_eq_false (by omega)
  clear c3
  (first | rw [c3b0] | (simp only [i64_w, i32_w]; rw [c3b0]) | skip)
  have H' := Aside0.mk H
  clear H
  go_wp2
  (try subst hji32)
  (try subst hji62)
  go_meet
  case rel => exact ⟨_, H', ⟨by first | omega | exact Nat.le_refl _⟩, ⟨by exact Lz HB⟩⟩
 case rest =>
  clear HC2
  try clear c3
  try clear c3b0
  try clear c3b1
  obtain ⟨kq, HA, HJ1, HB⟩ := hcut
  cases kq with
  | zero => exact absurd HA.out (by simp [laws_FnReduced.j0])
  | succ kj1 =>
   have H := HA.out
   clear HA
   simp only [laws_FnReduced.j0] at H
   replace H := Option.bind_eq_some_iff.mp H
   obtain ⟨⟨t828, t829⟩, A40, H⟩ := H
   replace H : ((spec_MakeDivisor.f kj1 l0 20 t828 t829).bind fun t833 => ((spec_MakeNum.f kj1 l0 60).bind fun t836 => (if t828 = 0 then (none) else ((impl_ReducedOf.f kj1 t828 t829 t833 (Int.tmod t836 t828)).bind fun bt837 => ((impl_ReducingScript.f kj1 t828 t829 t833 (Int.tmod t836 t828)).bind fun bt841 => ((impl_FireScript.f kj1 t828 t829 t833 bt841.1).bind fun bt845 => (if bt837.2 = true then (if bt841.2 = true then (if bt845.2 = true then (if (bt841.1.length : Int) = t828 then (if (bt837.1.length : Int) = t828 then (if 0 ≤ (Int.tmod t836 t828) then (if (Int.tmod t836 t828) < (bt841.1.length : Int) then (if (rd bt841.1 (Int.tmod t836 t828)) = 0 then ((laws_same.f kj1 bt845.1 bt837.1).bind fun t850 => (if t850 = true then ((impl_IsReduced.f kj1 t828 t829 bt837.1 (Int.tmod t836 t828)).bind fun t851 => (laws_FnReduced.j1 kj1 l0 t833 (Int.tmod t836 t828) bt837.1 (!t851) t828 t829)) else (laws_FnReduced.j1 kj1 l0 t833 (Int.tmod t836 t828) bt837.1 true t828 t829))) else (laws_FnReduced.j1 kj1 l0 t833 (Int.tmod t836 t828) bt837.1 true t828 t829)) else (none)) else (none)) else (laws_FnReduced.j1 kj1 l0 t833 (Int.tmod t836 t828) bt837.1 true t828 t829)) else (laws_FnReduced.j1 kj1 l0 t833 (Int.tmod t836 t828) bt837.1 true t828 t829)) else (laws_FnReduced.j1 kj1 l0 t833 (Int.tmod t836 t828) bt837.1 true t828 t829)) else (laws_FnReduced.j1 kj1 l0 t833 (Int.tmod t836 t828) bt837.1 true t828 t829)) else (laws_FnReduced.j1 kj1 l0 t833 (Int.tmod t836 t828) bt837.1 true t828 t829)))))))) = some r := H
   have A4 := Aside0.mk A40
   clear A40
   replace H := Option.bind_eq_some_iff.mp H
   obtain ⟨t833, A50, H⟩ := H
   replace H : ((spec_MakeNum.f kj1 l0 60).bind fun t836 => (if t828 = 0 then (none) else ((impl_ReducedOf.f kj1 t828 t829 t833 (Int.tmod t836 t828)).bind fun bt837 => ((impl_ReducingScript.f kj1 t828 t829 t833 (Int.tmod t836 t828)).bind fun bt841 => ((impl_FireScript.f kj1 t828 t829 t833 bt841.1).bind fun bt845 => (if bt837.2 = true then (if bt841.2 = true then (if bt845.2 = true then (if (bt841.1.length : Int) = t828 then (if (bt837.1.length : Int) = t828 then (if 0 ≤ (Int.tmod t836 t828) then (if (Int.tmod t836 t828) < (bt841.1.length : Int) then (if (rd bt841.1 (Int.tmod t836 t828)) = 0 then ((laws_same.f kj1 bt845.1 bt837.1).bind fun t850 => (if t850 = true then ((impl_IsReduced.f kj1 t828 t829 bt837.1 (Int.tmod t836 t828)).bind fun t851 => (laws_FnReduced.j1 kj1 l0 t833 (Int.tmod t836 t828) bt837.1 (!t851) t828 t829)) else (laws_FnReduced.j1 kj1 l0 t833 (Int.tmod t836 t828) bt837.1 true t828 t829))) else (laws_FnReduced.j1 kj1 l0 t833 (Int.tmod t836 t828) bt837.1 true t828 t829)) else (none)) else (none)) else (laws_FnReduced.j1 kj1 l0 t833 (Int.tmod t836 t828) bt837.1 true t828 t829)) else (laws_FnReduced.j1 kj1 l0 t833 (Int.tmod t836 t828) bt837.1 true t828 t829)) else (laws_FnReduced.j1 kj1 l0 t833 (Int.tmod t836 t828) bt837.1 true t828 t829)) else (laws_FnReduced.j1 kj1 l0 t833 (Int.tmod t836 t828) bt837.1 true t828 t829)) else (laws_FnReduced.j1 kj1 l0 t833 (Int.tmod t836 t828) bt837.1 true t828 t829))))))) = some r := H
   have A5 := Aside0.mk A50
   clear A50
   replace H := Option.bind_eq_some_iff.mp H
   obtain ⟨t836, A60, H⟩ := H
   replace H : (if t828 = 0 then (none) else ((impl_ReducedOf.f kj1 t828 t829 t833 (Int.tmod t836 t828)).bind fun bt837 => ((impl_ReducingScript.f kj1 t828 t829 t833 (Int.tmod t836 t828)).bind fun bt841 => ((impl_FireScript.f kj1 t828 t829 t833 bt841.1).bind fun bt845 => (if bt837.2 = true then (if bt841.2 = true then (if bt845.2 = true then (if (bt841.1.length : Int) = t828 then (if (bt837.1.length : Int) = t828 then (if 0 ≤ (Int.tmod t836 t828) then (if (Int.tmod t836 t828) < (bt841.1.length : Int) then (if (rd bt841.1 (Int.tmod t836 t828)) = 0 then ((laws_same.f kj1 bt845.1 bt837.1).bind fun t850 => (if t850 = true then ((impl_IsReduced.f kj1 t828 t829 bt837.1 (Int.tmod t836 t828)).bind fun t851 => (laws_FnReduced.j1 kj1 l0 t833 (Int.tmod t836 t828) bt837.1 (!t851) t828 t829)) else (laws_FnReduced.j1 kj1 l0 t833 (Int.tmod t836 t828) bt837.1 true t828 t829))) else (laws_FnReduced.j1 kj1 l0 t833 (Int.tmod t836 t828) bt837.1 true t828 t829)) else (none)) else (none)) else (laws_FnReduced.j1 kj1 l0 t833 (Int.tmod t836 t828) bt837.1 true t828 t829)) else (laws_FnReduced.j1 kj1 l0 t833 (Int.tmod t836 t828) bt837.1 true t828 t829)) else (laws_FnReduced.j1 kj1 l0 t833 (Int.tmod t836 t828) bt837.1 true t828 t829)) else (laws_FnReduced.j1 kj1 l0 t833 (Int.tmod t836 t828) bt837.1 true t828 t829)) else (laws_FnReduced.j1 kj1 l0 t833 (Int.tmod t836 t828) bt837.1 true t828 t829)))))) = some r := H
   have A6 := Aside0.mk A60
   clear A60
   by_cases c7 : t828 = 0
   ·rw [if_pos c7] at H
    exact absurd H (by simp)
   rw [if_neg c7] at H
   have c7b0 : (t828 == 0) = false := beq_eq_false_iff_ne.mpr c7
   have c7b1 : (t828 != 0) = true := bne_iff_ne.mpr c7
   replace H := Option.bind_eq_some_iff.mp H
   obtain ⟨⟨t837, t840⟩, A80, H⟩ := H
   replace H : ((impl_ReducingScript.f kj1 t828 t829 t833 (Int.tmod t836 t828)).bind fun bt841 => ((impl_FireScript.f kj1 t828 t829 t833 bt841.1).bind fun bt845 => (if t840 = true then (if bt841.2 = true then (if bt845.2 = true then (if (bt841.1.length : Int) = t828 then (if (t837.length : Int) = t828 then (if 0 ≤ (Int.tmod t836 t828) then (if (Int.tmod t836 t828) < (bt841.1.length : Int) then (if (rd bt841.1 (Int.tmod t836 t828)) = 0 then ((laws_same.f kj1 bt845.1 t837).bind fun t850 => (if t850 = true then ((impl_IsReduced.f kj1 t828 t829 t837 (Int.tmod t836 t828)).bind fun t851 => (laws_FnReduced.j1 kj1 l0 t833 (Int.tmod t836 t828) t837 (!t851) t828 t829)) else (laws_FnReduced.j1 kj1 l0 t833 (Int.tmod t836 t828) t837 true t828 t829))) else (laws_FnReduced.j1 kj1 l0 t833 (Int.tmod t836 t828) t837 true t828 t829)) else (none)) else (none)) else (laws_FnReduced.j1 kj1 l0 t833 (Int.tmod t836 t828) t837 true t828 t829)) else (laws_FnReduced.j1 kj1 l0 t833 (Int.tmod t836 t828) t837 true t828 t829)) else (laws_FnReduced.j1 kj1 l0 t833 (Int.tmod t836 t828) t837 true t828 t829)) else (laws_FnReduced.j1 kj1 l0 t833 (Int.tmod t836 t828) t837 true t828 t829)) else (laws_FnReduced.j1 kj1 l0 t833 (Int.tmod t836 t828) t837 true t828 t829)))) = some r := H
   have A8 := Aside0.mk A80
   clear A80
   replace H := Option.bind_eq_some_iff.mp H
   obtain ⟨⟨t841, t844⟩, A90, H⟩ := H
   replace H : ((impl_FireScript.f kj1 t828 t829 t833 t841).bind fun bt845 => (if t840 = true then (if t844 = true then (if bt845.2 = true then (if (t841.length : Int) = t828 then (if (t837.length : Int) = t828 then (if 0 ≤ (Int.tmod t836 t828) then (if (Int.tmod t836 t828) < (t841.length : Int) then (if (rd t841 (Int.tmod t836 t828)) = 0 then ((laws_same.f kj1 bt845.1 t837).bind fun t850 => (if t850 = true then ((impl_IsReduced.f kj1 t828 t829 t837 (Int.tmod t836 t828)).bind fun t851 => (laws_FnReduced.j1 kj1 l0 t833 (Int.tmod t836 t828) t837 (!t851) t828 t829)) else (laws_FnReduced.j1 kj1 l0 t833 (Int.tmod t836 t828) t837 true t828 t829))) else (laws_FnReduced.j1 kj1 l0 t833 (Int.tmod t836 t828) t837 true t828 t829)) else (none)) else (none)) else (laws_FnReduced.j1 kj1 l0 t833 (Int.tmod t836 t828) t837 true t828 t829)) else (laws_FnReduced.j1 kj1 l0 t833 (Int.tmod t836 t828) t837 true t828 t829)) else (laws_FnReduced.j1 kj1 l0 t833 (Int.tmod t836 t828) t837 true t828 t829)) else (laws_FnReduced.j1 kj1 l0 t833 (Int.tmod t836 t828) t837 true t828 t829)) else (laws_FnReduced.j1 kj1 l0 t833 (Int.tmod t836 t828) t837 true t828 t829))) = some r := H
   have A9 := Aside0.mk A90
   clear A90
   replace H := Option.bind_eq_some_iff.mp H
   obtain ⟨⟨t845, t848⟩, A100, H⟩ := H
   replace H : (if t840 = true then (if t844 = true then (if t848 = true then (if (t841.length : Int) = t828 then (if (t837.length : Int) = t828 then (if 0 ≤ (Int.tmod t836 t828) then (if (Int.tmod t836 t828) < (t841.length : Int) then (if (rd t841 (Int.tmod t836 t828)) = 0 then ((laws_same.f kj1 t845 t837).bind fun t850 => (if t850 = true then ((impl_IsReduced.f kj1 t828 t829 t837 (Int.tmod t836 t828)).bind fun t851 => (laws_FnReduced.j1 kj1 l0 t833 (Int.tmod t836 t828) t837 (!t851) t828 t829)) else (laws_FnReduced.j1 kj1 l0 t833 (Int.tmod t836 t828) t837 true t828 t829))) else (laws_FnReduced.j1 kj1 l0 t833 (Int.tmod t836 t828) t837 true t828 t829)) else (none)) else (none)) else (laws_FnReduced.j1 kj1 l0 t833 (Int.tmod t836 t828) t837 true t828 t829)) else (laws_FnReduced.j1 kj1 l0 t833 (Int.tmod t836 t828) t837 true t828 t829)) else (laws_FnReduced.j1 kj1 l0 t833 (Int.tmod t836 t828) t837 true t828 t829)) else (laws_FnReduced.j1 kj1 l0 t833 (Int.tmod t836 t828) t837 true t828 t829)) else (laws_FnReduced.j1 kj1 l0 t833 (Int.tmod t836 t828) t837 true t828 t829)) = some r := H
   have A10 := Aside0.mk A100
   clear A100
   have HC11 := Aside0.mk H
   clear H
   try go_wp2_with (first | ((with_reducible refine gate_callee (f := 22) rfl ?_); refine goesM_ (some 22) rfl rfl Try.func22 (by kernel_rfl) rfl #[.slice A0 l0.length c0] rfl ?_; (with_reducible refine (spec_MakeGraph.calls kj1 _ _ l0 t828 t829 _ ?side1 ?side2 A4.out).mono ?_); (case side1 => exact Cz ((Kd.C_below HR0.out HB.out))); (case side2 => exact HC0.out); rintro e w12 ⟨v830, rfl, ho0, hb⟩; refine ⟨_, rfl, ?_⟩; have HO831 := Aside0.mk (Kd.R_lower ho0 (below_size (Lz HB))); replace HB := Aside0.mk (below_step (Lz HB) hb); (try clear hb); (try clear ho0)) | ((with_reducible refine gate_dst (N := 3) rfl ?_); (try (refine gate_guard (by rfl) ?_; dsimp only)); refine box_event ?hg (N := 3) ?hd (cs := #[.int .i64 0, .slice none 0 0]) (t := 31) ?hr ?_; (case hd => rfl); (case hg => rfl); (case hr => first | (go_simp; done) | (go_simp; rfl)); intro gb832 hg w13 hbox hb; replace HO831 := Aside0.mk (Kd.R_below (Rz HO831) hb); have BK832 := Aside0.mk (hbox); have GW832 := Aside0.mk ((by rw [hg]; exact (below_size (Lz HB)) : w.heap.size ≤ gb832)); have GE832 := Aside0.mk ((by rw [hg]; exact (below_size (Lz HB)) : w.heap.size ≤ gb832)); replace HB := Aside0.mk (below_step (Lz HB) hb); clear hb hbox hg; have hcz14_0 : w13.cell? ⟨gb832, 0, none⟩ = some (.int .i64 0) := (blk_cell BK832.out 0).trans rfl; have hcz14_1 : w13.cell? ⟨gb832, 1, none⟩ = some (.slice none 0 0) := (blk_cell BK832.out 1).trans rfl; have hfz14_0 := blk_frozen BK832.out 0; have hfz14_1 := blk_frozen BK832.out 1; obtain ⟨Ao15, co15, eo15⟩ := Kd.R_slice HO831.out; subst eo15) | ((with_reducible refine gate_callee (f := 23) rfl ?_); refine goesM_ (some 25) rfl rfl Try.func23 (by kernel_rfl) rfl #[.slice A0 l0.length c0, .int .i64 20, .agg #[.int .i64 t828, .slice Ao15 t829.length co15]] rfl ?_; (with_reducible refine (spec_MakeDivisor.calls kj1 _ _ l0 20 t828 _ _ t829 t833 _ ?side1 ?side2 ?side3 ?side4 A5.out).mono ?_); (case side1 => exact Kd.C_below HR0.out (by exact Lz1 HB GE832)); (case side2 => exact HC0.out); (case side3 => refine (Kd.R_reads' (e := 67) (base := w.heap.size) (ok := fun k_ => True) (n := t829.length) (c := co15) ?_).2.2; exact (by (with_reducible repeat (first | apply Kd.R_alloc | apply Kd.R_drewN | apply Kd.R_drew)); exact (Kd.R_mono (Kd.R_far (p := ⟨gb832, 1, none⟩) (Kd.R_far (p := ⟨gb832, 0, none⟩) (Kd.R_types HO831.out BK832.out (by decide)) (fun _ hk => hk.2) (.int .i64 t828)) (fun _ hk => hk.2) (.slice Ao15 t829.length co15)) (fun _ h_ => h_.1)))); (case side4 => exact (Kd.R_reads' HO831.out).2.1); rintro e w16 ⟨v834, rfl, ho0, hb⟩; refine ⟨_, rfl, ?_⟩; replace HO831 := Aside0.mk (Kd.R_below (by (with_reducible repeat (first | apply Kd.R_alloc | apply Kd.R_drewN | apply Kd.R_drew)); exact (Kd.R_mono (Kd.R_far (p := ⟨gb832, 1, none⟩) (Kd.R_far (p := ⟨gb832, 0, none⟩) (Kd.R_types HO831.out BK832.out (by decide)) (fun _ hk => hk.2) (.int .i64 t828)) (fun _ hk => hk.2) (.slice Ao15 t829.length co15)) (fun _ h_ => h_.1))) hb); have HO835 := Aside0.mk (Kd.R_lower ho0 (below_size (by exact Lz1 HB GE832))); replace BK832 := Aside0.mk (blk_below (g := gb832) (o := .cells #[.int .i64 t828, .slice Ao15 t829.length co15] 31 (0, 0)) (by (with_reducible repeat (first | refine blk_drewN ?_ _ | refine blk_drew ?_ | refine blk_alloc ?_ _)); refine blk_put (cs := #[.int .i64 t828, .slice none 0 0]) ?_ 1 _ rfl; (with_reducible repeat (first | refine blk_drewN ?_ _ | refine blk_drew ?_ | refine blk_alloc ?_ _)); refine blk_put (cs := #[.int .i64 0, .slice none 0 0]) ?_ 0 _ rfl; exact Bz BK832) hb); replace HB := Aside0.mk (below_step (by exact Lz1 HB GE832) hb); (try clear hb); (try clear ho0)))
   replace HO831 := Aside0.mk (Kd.R_drew HO831.out)
   replace HO835 := Aside0.mk (Kd.R_drew HO835.out)
   replace BK832 := Aside0.mk (blk_drew BK832.out)
   replace HB := Aside0.mk (below_drew1 HB.out)
   refine start_ (n := 6) (S := fun w' => w'.cell? ⟨gb832, 0, none⟩ = some (.int .i64 t828) ∧ w'.cell? ⟨gb832, 1, none⟩ = some (.slice Ao15 t829.length co15)) (ds := []) #[false, false, false, false, false, false] (by kernel_rfl) rfl rfl ⟨(blk_cell BK832.out 0).trans rfl, (blk_cell BK832.out 1).trans rfl⟩ (fun hHeld => ?_)
   generalize w16.drew = w17 at HO831 HO835 BK832 HB hHeld ⊢
   refine pure_ (i := 0) (N := some 26) (v := ?_) (a' := ?_) #[true, false, false, false, false, false] rfl rfl (by kernel_rfl) (fun _ _ _ h => h) (Or.inl ⟨by rfl, ?_⟩) ?_ ?_
   rotate_left
   ·intro w'
    go_simp
    with_reducible rfl
   rotate_left
   ·simp only [Act.put, List.setIfInBounds_toArray, List.set_cons_zero, List.set_cons_succ, i64_w, i32_w]
    rfl
   refine pure_ (i := 2) (N := some 28) (v := ?_) (a' := ?_) #[true, false, true, false, false, false] rfl rfl (by kernel_rfl) (fun _ _ _ h => h) (Or.inl ⟨by rfl, ?_⟩) ?_ ?_
   rotate_left
   ·intro w'
    go_simp
    with_reducible rfl
   rotate_left
   ·simp only [Act.put, List.setIfInBounds_toArray, List.set_cons_zero, List.set_cons_succ, i64_w, i32_w]
    rfl
   refine take_ (i := 3) (N := some 29) (v := ?_) (a' := ?_) #[true, false, true, true, false, false] rfl rfl (by kernel_rfl) (fun _ _ _ h => h) (Or.inl ⟨by rfl, ?_⟩) hHeld ?_ ?_
   rotate_left
   ·rintro w' ⟨s0, s1⟩
    go_simp
    with_reducible rfl
   rotate_left
   ·simp only [Act.put, List.setIfInBounds_toArray, List.set_cons_zero, List.set_cons_succ, i64_w, i32_w]
    rfl
   refine one_ (i := 1) (N := some 27) #[true, true, true, true, false, false] rfl rfl (by kernel_rfl) (by decide) (fun K hK => ?_)
   refine goes_ Try.func24 (by kernel_rfl) rfl #[.slice A0 l0.length c0, .int .i64 60] (by rfl) rfl rfl (by (try simp only [List.map_toArray, List.map_cons, List.map_nil]); first | done | rfl | (simp only [List.length_drop, List.length_take]; rfl)) ?_
   with_reducible refine (spec_MakeNum.calls kj1 _ _ l0 60 t836 _ ?side1 ?side2 A6.out).mono ?_
   (case side1 => exact Cz ((Kd.C_below HR0.out HB.out)))
   (case side2 => exact HC0.out)
   rintro e w18 ⟨rfl, hb⟩
   refine ⟨_, rfl, ?_⟩
   replace HO831 := Aside0.mk (Kd.R_below (Rz HO831) hb)
   replace HO835 := Aside0.mk (Kd.R_below (Rz HO835) hb)
   replace BK832 := Aside0.mk (blk_below (g := gb832) (o := .cells #[.int .i64 t828, .slice Ao15 t829.length co15] 31 (0, 0)) (Bz BK832) hb)
   replace HB := Aside0.mk (below_step (by exact Lz1 HB GE832) hb)
   (try clear hb)
   (try clear hb2)
   (try clear hk)
   (try clear hi)
   refine hK.out _ _ ⟨(blk_cell BK832.out 0).trans rfl, (blk_cell BK832.out 1).trans rfl⟩ (fun hHeld => ?_)
   clear hK K
   refine norm_ (a' := ?_) ?_ ?_
   rotate_left
   ·show Act.put _ (some 27) _ = _
    simp only [Act.put, List.setIfInBounds_toArray, List.set_cons_zero, List.set_cons_succ, i64_w, i32_w]
    rfl
   refine pure_ (i := 4) (N := some 30) (v := ?_) (a' := ?_) #[true, true, true, true, true, false] rfl rfl (by kernel_rfl) (fun _ _ _ h => h) (Or.inl ⟨by rfl, ?_⟩) ?_ ?_
   rotate_left
   ·intro w'
    go_simp
    with_reducible rfl
   rotate_left
   ·simp only [Act.put, List.setIfInBounds_toArray, List.set_cons_zero, List.set_cons_succ, i64_w, i32_w]
    rfl
   refine pure_ (i := 5) (N := some 5) (v := ?_) (a' := ?_) #[true, true, true, true, true, true] rfl rfl (by kernel_rfl) (fun _ _ _ h => h) (Or.inl ⟨by rfl, ?_⟩) ?_ ?_
   rotate_left
   ·intro w'
    go_simp
    with_reducible rfl
   rotate_left
   ·simp only [Act.put, List.setIfInBounds_toArray, List.set_cons_zero, List.set_cons_succ, i64_w, i32_w]
    rfl
   refine done_ (by kernel_rfl) ?_
   have hcz19_0 : w18.cell? ⟨gb832, 0, none⟩ = some (.int .i64 t828) := (blk_cell BK832.out 0).trans rfl
   have hcz19_1 : w18.cell? ⟨gb832, 1, none⟩ = some (.slice Ao15 t829.length co15) := (blk_cell BK832.out 1).trans rfl
   have hfz19_0 := blk_frozen BK832.out 0
   have hfz19_1 := blk_frozen BK832.out 1
   obtain ⟨Ao20, co20, eo20⟩ := Kd.R_slice HO835.out
   subst eo20
   go_upto_region 9 with (first | ((with_reducible refine gate_callee (f := 25) rfl ?_); refine goesM_ (some 35) rfl rfl Try.func25 (by kernel_rfl) rfl #[.agg #[.int .i64 t828, .slice Ao15 t829.length co15], .slice Ao20 t833.length co20, .int .i64 (Int.tmod t836 t828)] rfl ?_; (with_reducible refine (impl_ReducedOf.calls kj1 t828 _ _ t829 _ _ t833 (Int.tmod t836 t828) t837 t840 _ ?side1 ?side2 ?side3 ?side4 A8.out).mono ?_); (case side1 => exact Cz ((Kd.R_reads' HO831.out).2.2)); (case side2 => exact (Kd.R_reads' HO831.out).2.1); (case side3 => exact Cz ((Kd.R_reads' HO835.out).2.2)); (case side4 => exact (Kd.R_reads' HO835.out).2.1); rintro e w21 ⟨v838, rfl, ho0, hb⟩; refine ⟨_, rfl, ?_⟩; replace HO831 := Aside0.mk (Kd.R_below (Rz HO831) hb); have HO839 := Aside0.mk (Kd.R_lower (Kd.R_new' ho0 (Kd.R_lt (Rz HO835))) (below_size (by exact Lz1 HB GE832))); replace HO835 := Aside0.mk (Kd.R_elder' (Rz HO835) (Kd.R_base ho0) hb); replace BK832 := Aside0.mk (blk_below (g := gb832) (o := .cells #[.int .i64 t828, .slice Ao15 t829.length co15] 31 (0, 0)) (Bz BK832) hb); replace HB := Aside0.mk (below_step (by exact Lz1 HB GE832) hb); (try clear hb); (try clear ho0); have hcz22_0 : w21.cell? ⟨gb832, 0, none⟩ = some (.int .i64 t828) := (blk_cell BK832.out 0).trans rfl; have hcz22_1 : w21.cell? ⟨gb832, 1, none⟩ = some (.slice Ao15 t829.length co15) := (blk_cell BK832.out 1).trans rfl; have hfz22_0 := blk_frozen BK832.out 0; have hfz22_1 := blk_frozen BK832.out 1) | ((with_reducible refine gate_callee (f := 26) rfl ?_); refine goesM_ (some 42) rfl rfl Try.func26 (by kernel_rfl) rfl #[.agg #[.int .i64 t828, .slice Ao15 t829.length co15], .slice Ao20 t833.length co20, .int .i64 (Int.tmod t836 t828)] rfl ?_; (with_reducible refine (impl_ReducingScript.calls kj1 t828 _ _ t829 _ _ t833 (Int.tmod t836 t828) t841 t844 _ ?side1 ?side2 ?side3 ?side4 A9.out).mono ?_); (case side1 => exact Cz ((Kd.R_reads' HO831.out).2.2)); (case side2 => exact (Kd.R_reads' HO831.out).2.1); (case side3 => exact Cz ((Kd.R_reads' HO835.out).2.2)); (case side4 => exact (Kd.R_reads' HO835.out).2.1); rintro e w23 ⟨v842, rfl, ho0, hb⟩; refine ⟨_, rfl, ?_⟩; replace HO831 := Aside0.mk (Kd.R_below (Rz HO831) hb); have HO843 := Aside0.mk (Kd.R_lower (Kd.R_new' (Kd.R_new' ho0 (Kd.R_lt (Rz HO835))) (Kd.R_lt (Rz HO839))) (below_size (by exact Lz1 HB GE832))); replace HO835 := Aside0.mk (Kd.R_elder' (Rz HO835) (Kd.R_base ho0) hb); replace HO839 := Aside0.mk (Kd.R_elder' (Rz HO839) (Kd.R_base ho0) hb); replace BK832 := Aside0.mk (blk_below (g := gb832) (o := .cells #[.int .i64 t828, .slice Ao15 t829.length co15] 31 (0, 0)) (Bz BK832) hb); replace HB := Aside0.mk (below_step (by exact Lz1 HB GE832) hb); (try clear hb); (try clear ho0); have hcz24_0 : w23.cell? ⟨gb832, 0, none⟩ = some (.int .i64 t828) := (blk_cell BK832.out 0).trans rfl; have hcz24_1 : w23.cell? ⟨gb832, 1, none⟩ = some (.slice Ao15 t829.length co15) := (blk_cell BK832.out 1).trans rfl; have hfz24_0 := blk_frozen BK832.out 0; have hfz24_1 := blk_frozen BK832.out 1; obtain ⟨Ao25, co25, eo25⟩ := Kd.R_slice HO843.out; subst eo25) | ((with_reducible refine gate_callee (f := 27) rfl ?_); refine goesM_ (some 49) rfl rfl Try.func27 (by kernel_rfl) rfl #[.agg #[.int .i64 t828, .slice Ao15 t829.length co15], .slice Ao20 t833.length co20, .slice Ao25 t841.length co25] rfl ?_; (with_reducible refine (impl_FireScript.calls kj1 t828 _ _ t829 _ _ t833 _ _ t841 t845 t848 _ ?side1 ?side2 ?side3 ?side4 ?side5 ?side6 A10.out).mono ?_); (case side1 => exact Cz ((Kd.R_reads' HO831.out).2.2)); (case side2 => exact (Kd.R_reads' HO831.out).2.1); (case side3 => exact Cz ((Kd.R_reads' HO835.out).2.2)); (case side4 => exact (Kd.R_reads' HO835.out).2.1); (case side5 => exact Cz ((Kd.R_reads' HO843.out).2.2)); (case side6 => exact (Kd.R_reads' HO843.out).2.1); rintro e w26 ⟨v846, rfl, ho0, hb⟩; refine ⟨_, rfl, ?_⟩; replace HO831 := Aside0.mk (Kd.R_below (Rz HO831) hb); have HO847 := Aside0.mk (Kd.R_lower (Kd.R_new' (Kd.R_new' (Kd.R_new' ho0 (Kd.R_lt (Rz HO835))) (Kd.R_lt (Rz HO839))) (Kd.R_lt (Rz HO843))) (below_size (by exact Lz1 HB GE832))); replace HO835 := Aside0.mk (Kd.R_elder' (Rz HO835) (Kd.R_base ho0) hb); replace HO839 := Aside0.mk (Kd.R_elder' (Rz HO839) (Kd.R_base ho0) hb); replace HO843 := Aside0.mk (Kd.R_elder' (Rz HO843) (Kd.R_base ho0) hb); replace BK832 := Aside0.mk (blk_below (g := gb832) (o := .cells #[.int .i64 t828, .slice Ao15 t829.length co15] 31 (0, 0)) (Bz BK832) hb); replace HB := Aside0.mk (below_step (by exact Lz1 HB GE832) hb); (try clear hb); (try clear ho0)))
   (try simp only [Act.put, List.setIfInBounds_toArray, List.set_cons_zero, List.set_cons_succ])
   go_cut [95] (fun v95 wc => ∃ (kq : Nat) (x95_10 : Bool), v95 = .bool x95_10 ∧ Aside0 (laws_FnReduced.j1 kq l0 t833 (Int.tmod t836 t828) t837 x95_10 t828 t829 = some r) ∧ Aside0 (kq ≤ kj1) ∧ Aside0 (Kd.R (Kd.int .i64) 3 wc w.heap.size (fun k_ => some k_ ≠ (v838 : Value).ownBlock) (.slice Ao20 t833.length co20) t833) ∧ Aside0 (Kd.R (Kd.int .i64) 3 wc w.heap.size (fun k_ => some k_ ≠ ((.slice Ao20 t833.length co20) : Value).ownBlock) v838 t837) ∧ Aside0 (Kd.R k67 67 wc w.heap.size (fun _ => True) (.slice Ao15 t829.length co15) t829) ∧ Aside0 (wc.heap[gb832]? = some (.cells #[.int .i64 t828, (.slice Ao15 t829.length co15)] 31 (0, 0))) ∧ Aside0 (Below w.heap.size w wc))
   case first =>
    have H := HC11.out
    clear HC11
    by_cases c27 : t840 = true
    ·subst c27
     have H1 : (if t844 = true then (if t848 = true then (if (t841.length : Int) = t828 then (if (t837.length : Int) = t828 then (if 0 ≤ (Int.tmod t836 t828) then (if (Int.tmod t836 t828) < (t841.length : Int) then (if (rd t841 (Int.tmod t836 t828)) = 0 then ((laws_same.f kj1 t845 t837).bind fun t850 => (if t850 = true then ((impl_IsReduced.f kj1 t828 t829 t837 (Int.tmod t836 t828)).bind fun t851 => (laws_FnReduced.j1 kj1 l0 t833 (Int.tmod t836 t828) t837 (!t851) t828 t829)) else (laws_FnReduced.j1 kj1 l0 t833 (Int.tmod t836 t828) t837 true t828 t829))) else (laws_FnReduced.j1 kj1 l0 t833 (Int.tmod t836 t828) t837 true t828 t829)) else (none)) else (none)) else (laws_FnReduced.j1 kj1 l0 t833 (Int.tmod t836 t828) t837 true t828 t829)) else (laws_FnReduced.j1 kj1 l0 t833 (Int.tmod t836 t828) t837 true t828 t829)) else (laws_FnReduced.j1 kj1 l0 t833 (Int.tmod t836 t828) t837 true t828 t829)) else (laws_FnReduced.j1 kj1 l0 t833 (Int.tmod t836 t828) t837 true t828 t829)) = some r := by rw [if_pos rfl] at H; exact H
     clear H
     have H := H1
     clear H1
     by_cases c28 : t844 = true
     ·subst c28
      have H1 : (if t848 = true then (if (t841.length : Int) = t828 then (if (t837.length : Int) = t828 then (if 0 ≤ (Int.tmod t836 t828) then (if (Int.tmod t836 t828) < (t841.length : Int) then (if (rd t841 (Int.tmod t836 t828)) = 0 then ((laws_same.f kj1 t845 t837).bind fun t850 => (if t850 = true then ((impl_IsReduced.f kj1 t828 t829 t837 (Int.tmod t836 t828)).bind fun t851 => (laws_FnReduced.j1 kj1 l0 t833 (Int.tmod t836 t828) t837 (!t851) t828 t829)) else (laws_FnReduced.j1 kj1 l0 t833 (Int.tmod t836 t828) t837 true t828 t829))) else (laws_FnReduced.j1 kj1 l0 t833 (Int.tmod t836 t828) t837 true t828 t829)) else (none)) else (none)) else (laws_FnReduced.j1 kj1 l0 t833 (Int.tmod t836 t828) t837 true t828 t829)) else (laws_FnReduced.j1 kj1 l0 t833 (Int.tmod t836 t828) t837 true t828 t829)) else (laws_FnReduced.j1 kj1 l0 t833 (Int.tmod t836 t828) t837 true t828 t829)) = some r := by rw [if_pos rfl] at H; exact H
      clear H
      have H := H1
      clear H1
      by_cases c29 : t848 = true
      ·subst c29
       have H1 : (if (t841.length : Int) = t828 then (if (t837.length : Int) = t828 then (if 0 ≤ (Int.tmod t836 t828) then (if (Int.tmod t836 t828) < (t841.length : Int) then (if (rd t841 (Int.tmod t836 t828)) = 0 then ((laws_same.f kj1 t845 t837).bind fun t850 => (if t850 = true then ((impl_IsReduced.f kj1 t828 t829 t837 (Int.tmod t836 t828)).bind fun t851 => (laws_FnReduced.j1 kj1 l0 t833 (Int.tmod t836 t828) t837 (!t851) t828 t829)) else (laws_FnReduced.j1 kj1 l0 t833 (Int.tmod t836 t828) t837 true t828 t829))) else (laws_FnReduced.j1 kj1 l0 t833 (Int.tmod t836 t828) t837 true t828 t829)) else (none)) else (none)) else (laws_FnReduced.j1 kj1 l0 t833 (Int.tmod t836 t828) t837 true t828 t829)) else (laws_FnReduced.j1 kj1 l0 t833 (Int.tmod t836 t828) t837 true t828 t829)) = some r := by rw [if_pos rfl] at H; exact H
       clear H
       have H := H1
       clear H1
       by_cases c30 : (t841.length : Int) = t828
       ·rw [if_pos c30] at H
        have c30b0 : ((t841.length : Int) == t828) = true := beq_iff_eq.mpr c30
        have c30b1 : ((t841.length : Int) != t828) = false := bne_eq_false_iff_eq.mpr c30
        clear c30
        (first | rw [c30b0] | (simp only [i64_w, i32_w]; rw [c30b0]) | skip)
        by_cases c31 : (t837.length : Int) = t828
        ·rw [if_pos c31] at H
         have c31b0 : ((t837.length : Int) == t828) = true := beq_iff_eq.mpr c31
         have c31b1 : ((t837.length : Int) != t828) = false := bne_eq_false_iff_eq.mpr c31
         clear c31
         obtain ⟨ji32, hji32⟩ : ∃ j_ : Int, (Int.tmod t836 t828) = j_ := ⟨_, rfl⟩
         replace H : (if 0 ≤ (ji32) then (if (ji32) < (t841.length : Int) then (if (rd t841 (ji32)) = 0 then ((laws_same.f kj1 t845 t837).bind fun t850 => (if t850 = true then ((impl_IsReduced.f kj1 t828 t829 t837 (ji32)).bind fun t851 => (laws_FnReduced.j1 kj1 l0 t833 ji32 t837 (!t851) t828 t829)) else (laws_FnReduced.j1 kj1 l0 t833 ji32 t837 true t828 t829))) else (laws_FnReduced.j1 kj1 l0 t833 ji32 t837 true t828 t829)) else (none)) else (none)) = some r := by first | (rw [hji32] at H; exact H) | (simp only [hji32] at H ⊢; exact H)
         by_cases c33 : 0 ≤ (ji32)
         ·rw [if_pos c33] at H
          have c33b0 : decide (0 ≤ (ji32)) = true := decide_eq_true c33
          clear c33
          by_cases c34 : (ji32) < (t841.length : Int)
          ·rw [if_pos c34] at H
           have c34b0 : decide ((ji32) < (t841.length : Int)) = true := decide_eq_true c34
           clear c34
           by_cases c35 : (rd t841 (ji32)) = 0
           ·rw [if_pos c35] at H
            have c35b0 : ((rd t841 (ji32)) == 0) = true := beq_iff_eq.mpr c35
            have c35b1 : ((rd t841 (ji32)) != 0) = false := bne_eq_false_iff_eq.mpr c35
            clear c35
            replace H := Option.bind_eq_some_iff.mp H
            obtain ⟨t850, A360, H⟩ := H
            replace H : (if t850 = true then ((impl_IsReduced.f kj1 t828 t829 t837 (ji32)).bind fun t851 => (laws_FnReduced.j1 kj1 l0 t833 ji32 t837 (!t851) t828 t829)) else (laws_FnReduced.j1 kj1 l0 t833 ji32 t837 true t828 t829)) = some r := H
            have A36 := Aside0.mk A360
            clear A360
            by_cases c37 : t850 = true
            ·subst c37
             have H1 : ((impl_IsReduced.f kj1 t828 t829 t837 (ji32)).bind fun t851 => (laws_FnReduced.j1 kj1 l0 t833 ji32 t837 (!t851) t828 t829)) = some r := by rw [if_pos rfl] at H; exact H
             clear H
             have H := H1
             clear H1
             replace H := Option.bind_eq_some_iff.mp H
             obtain ⟨t851, A380, H⟩ := H
             replace H : (laws_FnReduced.j1 kj1 l0 t833 ji32 t837 (!t851) t828 t829) = some r := H
             have A38 := Aside0.mk A380
             clear A380
             have H' := Aside0.mk H
             clear H
             have hcz39_0 : w26.cell? ⟨gb832, 0, none⟩ = some (.int .i64 t828) := (blk_cell BK832.out 0).trans rfl
             have hcz39_1 : w26.cell? ⟨gb832, 1, none⟩ = some (.slice Ao15 t829.length co15) := (blk_cell BK832.out 1).trans rfl
             have hfz39_0 := blk_frozen BK832.out 0
             have hfz39_1 := blk_frozen BK832.out 1
             obtain ⟨Ao40, co40, eo40⟩ := Kd.R_slice HO839.out
             subst eo40
             have p849 : 0 ≤ ((ji32) : Int) := ofA
             have q849 : (ji32) < (t841.length : Int) := ofA
             obtain ⟨ad849, e849, hx849_0⟩ := Kd.at_int (Kd.R_reads' HO843.out).2.2 (ji32) p849 q849
             cases e849
             replace p849 := eq_true p849
             replace q849 := eq_true q849
             obtain ⟨Ao41, co41, eo41⟩ := Kd.R_slice HO847.out
             subst eo41
             go_wp2_with (first | (go_at_call 28; (with_reducible refine (laws_same.calls kj1 _ _ t845 _ _ t837 true _ ?side1 ?side2 ?side3 ?side4 A36.out).mono ?_); (case side1 => exact Cz ((Kd.R_reads' HO847.out).2.2)); (case side2 => exact (Kd.R_reads' HO847.out).2.1); (case side3 => exact Cz ((Kd.R_reads' HO839.out).2.2)); (case side4 => exact (Kd.R_reads' HO839.out).2.1); rintro e w' ⟨rfl, ⟨nd, rfl⟩⟩) | (go_at_call 29; (with_reducible refine (impl_IsReduced.calls kj1 t828 _ _ t829 _ _ t837 ji32 t851 _ ?side1 ?side2 ?side3 ?side4 A38.out).mono ?_); (case side1 => exact Cz ((Kd.R_reads' HO831.out).2.2)); (case side2 => exact (Kd.R_reads' HO831.out).2.1); (case side3 => exact Cz ((Kd.R_reads' HO839.out).2.2)); (case side4 => exact (Kd.R_reads' HO839.out).2.1); rintro e w42 ⟨rfl, hb⟩; replace HO831 := Aside0.mk (Kd.R_below (Rz HO831) hb); replace HO835 := Aside0.mk (Kd.R_below (Rz HO835) hb); replace HO839 := Aside0.mk (Kd.R_below (Rz HO839) hb); replace HO843 := Aside0.mk (Kd.R_below (Rz HO843) hb); replace HO847 := Aside0.mk (Kd.R_below (Rz HO847) hb); replace BK832 := Aside0.mk (blk_below (g := gb832) (o := .cells #[.int .i64 t828, .slice Ao15 t829.length co15] 31 (0, 0)) (Bz BK832) hb); replace HB := Aside0.mk (below_step (by exact Lz1 HB GE832) hb); (try clear hb); (try clear hb2); (try clear hk); (try clear hi)))
             (try subst hji32)
             (try subst hji62)
             go_meet
             case rel => exact ⟨_, (!t851), eqA, H', ⟨by have := HJ1.out; first | omega | exact Nat.le_refl _⟩, ⟨by (with_reducible repeat (first | apply Kd.R_alloc | apply Kd.R_drewN | apply Kd.R_drew)); exact Kd.R_mono HO835.out (fun _ hk => hk.1.1.2)⟩, ⟨by (with_reducible repeat (first | apply Kd.R_alloc | apply Kd.R_drewN | apply Kd.R_drew)); exact Kd.R_mono HO839.out (fun _ hk => hk.1.1.2)⟩, ⟨by exact Rz HO831⟩, ⟨by exact Bz BK832⟩, ⟨by exact Lz1 HB GE832⟩⟩
            replace c37 := Bool.eq_false_iff.mpr c37
            subst c37
            have H1 : (laws_FnReduced.j1 kj1 l0 t833 ji32 t837 true t828 t829) = some r := by rw [if_neg (show ¬ (false = true) by decide)] at H; exact H
            clear H
            have H := H1
            clear H1
            have H' := Aside0.mk H
            clear H
            have hcz43_0 : w26.cell? ⟨gb832, 0, none⟩ = some (.int .i64 t828) := (blk_cell BK832.out 0).trans rfl
            have hcz43_1 : w26.cell? ⟨gb832, 1, none⟩ = some (.slice Ao15 t829.length co15) := (blk_cell BK832.out 1).trans rfl
            have hfz43_0 := blk_frozen BK832.out 0
            have hfz43_1 := blk_frozen BK832.out 1
            obtain ⟨Ao44, co44, eo44⟩ := Kd.R_slice HO839.out
            subst eo44
            have p849 : 0 ≤ ((ji32) : Int) := ofA
            have q849 : (ji32) < (t841.length : Int) := ofA
            obtain ⟨ad849, e849, hx849_0⟩ := Kd.at_int (Kd.R_reads' HO843.out).2.2 (ji32) p849 q849
            cases e849
            replace p849 := eq_true p849
            replace q849 := eq_true q849
            obtain ⟨Ao45, co45, eo45⟩ := Kd.R_slice HO847.out
            subst eo45
            go_wp2_with (first | (go_at_call 28; (with_reducible refine (laws_same.calls kj1 _ _ t845 _ _ t837 false _ ?side1 ?side2 ?side3 ?side4 A36.out).mono ?_); (case side1 => exact Cz ((Kd.R_reads' HO847.out).2.2)); (case side2 => exact (Kd.R_reads' HO847.out).2.1); (case side3 => exact Cz ((Kd.R_reads' HO839.out).2.2)); (case side4 => exact (Kd.R_reads' HO839.out).2.1); rintro e w' ⟨rfl, ⟨nd, rfl⟩⟩))
            (try subst hji32)
            (try subst hji62)
            go_meet
            case rel => exact ⟨_, (true), eqA, H', ⟨by have := HJ1.out; first | omega | exact Nat.le_refl _⟩, ⟨by (with_reducible repeat (first | apply Kd.R_alloc | apply Kd.R_drewN | apply Kd.R_drew)); exact Kd.R_mono HO835.out (fun _ hk => hk.1.1.2)⟩, ⟨by (with_reducible repeat (first | apply Kd.R_alloc | apply Kd.R_drewN | apply Kd.R_drew)); exact Kd.R_mono HO839.out (fun _ hk => hk.1.1.2)⟩, ⟨by exact Rz HO831⟩, ⟨by exact Bz BK832⟩, ⟨by exact Lz1 HB GE832⟩⟩
           rw [if_neg c35] at H
           have c35b0 : ((rd t841 (ji32)) == 0) = false := beq_eq_false_iff_ne.mpr c35
           have c35b1 : ((rd t841 (ji32)) != 0) = true := bne_iff_ne.mpr c35
           have H' := Aside0.mk H
           clear H
           have hcz46_0 : w26.cell? ⟨gb832, 0, none⟩ = some (.int .i64 t828) := (blk_cell BK832.out 0).trans rfl
           have hcz46_1 : w26.cell? ⟨gb832, 1, none⟩ = some (.slice Ao15 t829.length co15) := (blk_cell BK832.out 1).trans rfl
           have hfz46_0 := blk_frozen BK832.out 0
           have hfz46_1 := blk_frozen BK832.out 1
           obtain ⟨Ao47, co47, eo47⟩ := Kd.R_slice HO839.out
           subst eo47
           have p849 : 0 ≤ ((ji32) : Int) := ofA
           have q849 : (ji32) < (t841.length : Int) := ofA
           obtain ⟨ad849, e849, hx849_0⟩ := Kd.at_int (Kd.R_reads' HO843.out).2.2 (ji32) p849 q849
           cases e849
           replace p849 := eq_true p849
           replace q849 := eq_true q849
           go_wp2
           (try subst hji32)
           (try subst hji62)
           go_meet
           case rel => exact ⟨_, (true), eqA, H', ⟨by have := HJ1.out; first | omega | exact Nat.le_refl _⟩, ⟨by (with_reducible repeat (first | apply Kd.R_alloc | apply Kd.R_drewN | apply Kd.R_drew)); exact Kd.R_mono HO835.out (fun _ hk => hk.1.1.2)⟩, ⟨by (with_reducible repeat (first | apply Kd.R_alloc | apply Kd.R_drewN | apply Kd.R_drew)); exact Kd.R_mono HO839.out (fun _ hk => hk.1.1.2)⟩, ⟨by exact Rz HO831⟩, ⟨by exact Bz BK832⟩, ⟨by exact Lz1 HB GE832⟩⟩
          rw [if_neg c34] at H
          exact absurd H (by simp)
         rw [if_neg c33] at H
         exact absurd H (by simp)
        rw [if_neg c31] at H
        have c31b0 : ((t837.length : Int) == t828) = false := beq_eq_false_iff_ne.mpr c31
        have c31b1 : ((t837.length : Int) != t828) = true := bne_iff_ne.mpr c31
        have H' := Aside0.mk H
        clear H
        have hcz48_0 : w26.cell? ⟨gb832, 0, none⟩ = some (.int .i64 t828) := (blk_cell BK832.out 0).trans rfl
        have hcz48_1 : w26.cell? ⟨gb832, 1, none⟩ = some (.slice Ao15 t829.length co15) := (blk_cell BK832.out 1).trans rfl
        have hfz48_0 := blk_frozen BK832.out 0
        have hfz48_1 := blk_frozen BK832.out 1
        obtain ⟨Ao49, co49, eo49⟩ := Kd.R_slice HO839.out
        subst eo49
        go_wp2
        (try subst hji32)
        (try subst hji62)
        go_meet
        case rel => exact ⟨_, (true), eqA, H', ⟨by have := HJ1.out; first | omega | exact Nat.le_refl _⟩, ⟨by (with_reducible repeat (first | apply Kd.R_alloc | apply Kd.R_drewN | apply Kd.R_drew)); exact Kd.R_mono HO835.out (fun _ hk => hk.1.1.2)⟩, ⟨by (with_reducible repeat (first | apply Kd.R_alloc | apply Kd.R_drewN | apply Kd.R_drew)); exact Kd.R_mono HO839.out (fun _ hk => hk.1.1.2)⟩, ⟨by exact Rz HO831⟩, ⟨by exact Bz BK832⟩, ⟨by exact Lz1 HB GE832⟩⟩
       rw [if_neg c30] at H
       have c30b0 : ((t841.length : Int) == t828) = false := beq_eq_false_iff_ne.mpr c30
       have c30b1 : ((t841.length : Int) != t828) = true := bne_iff_ne.mpr c30
       (first | rw [c30b0] | (simp only [i64_w, i32_w]; rw [c30b0]) | skip)
       have H' := Aside0.mk H
       clear H
       have hcz50_0 : w26.cell? ⟨gb832, 0, none⟩ = some (.int .i64 t828) := (blk_cell BK832.out 0).trans rfl
       have hcz50_1 : w26.cell? ⟨gb832, 1, none⟩ = some (.slice Ao15 t829.length co15) := (blk_cell BK832.out 1).trans rfl
       have hfz50_0 := blk_frozen BK832.out 0
       have hfz50_1 := blk_frozen BK832.out 1
       go_wp2
       (try subst hji32)
       (try subst hji62)
       go_meet
       case rel => exact ⟨_, (true), eqA, H', ⟨by have := HJ1.out; first | omega | exact Nat.le_refl _⟩, ⟨by (with_reducible repeat (first | apply Kd.R_alloc | apply Kd.R_drewN | apply Kd.R_drew)); exact Kd.R_mono HO835.out (fun _ hk => hk.1.1.2)⟩, ⟨by (with_reducible repeat (first | apply Kd.R_alloc | apply Kd.R_drewN | apply Kd.R_drew)); exact Kd.R_mono HO839.out (fun _ hk => hk.1.1.2)⟩, ⟨by exact Rz HO831⟩, ⟨by exact Bz BK832⟩, ⟨by exact Lz1 HB GE832⟩⟩
      replace c29 := Bool.eq_false_iff.mpr c29
      subst c29
      have H1 : (laws_FnReduced.j1 kj1 l0 t833 (Int.tmod t836 t828) t837 true t828 t829) = some r := by rw [if_neg (show ¬ (false = true) by decide)] at H; exact H
      clear H
      have H := H1
      clear H1
      have H' := Aside0.mk H
      clear H
      go_wp2
      (try subst hji32)
      (try subst hji62)
      go_meet
      case rel => exact ⟨_, (true), eqA, H', ⟨by have := HJ1.out; first | omega | exact Nat.le_refl _⟩, ⟨by (with_reducible repeat (first | apply Kd.R_alloc | apply Kd.R_drewN | apply Kd.R_drew)); exact Kd.R_mono HO835.out (fun _ hk => hk.1.1.2)⟩, ⟨by (with_reducible repeat (first | apply Kd.R_alloc | apply Kd.R_drewN | apply Kd.R_drew)); exact Kd.R_mono HO839.out (fun _ hk => hk.1.1.2)⟩, ⟨by exact Rz HO831⟩, ⟨by exact Bz BK832⟩, ⟨by exact Lz1 HB GE832⟩⟩
     replace c28 := Bool.eq_false_iff.mpr c28
     subst c28
     have H1 : (laws_FnReduced.j1 kj1 l0 t833 (Int.tmod t836 t828) t837 true t828 t829) = some r := by rw [if_neg (show ¬ (false = true) by decide)] at H; exact H
     clear H
     have H := H1
     clear H1
     have H' := Aside0.mk H
     clear H
     go_wp2
     (try subst hji32)
     (try subst hji62)
     go_meet
     case rel => exact ⟨_, (true), eqA, H', ⟨by have := HJ1.out; first | omega | exact Nat.le_refl _⟩, ⟨by (with_reducible repeat (first | apply Kd.R_alloc | apply Kd.R_drewN | apply Kd.R_drew)); exact Kd.R_mono HO835.out (fun _ hk => hk.1.1.2)⟩, ⟨by (with_reducible repeat (first | apply Kd.R_alloc | apply Kd.R_drewN | apply Kd.R_drew)); exact Kd.R_mono HO839.out (fun _ hk => hk.1.1.2)⟩, ⟨by exact Rz HO831⟩, ⟨by exact Bz BK832⟩, ⟨by exact Lz1 HB GE832⟩⟩
    replace c27 := Bool.eq_false_iff.mpr c27
    subst c27
    have H1 : (laws_FnReduced.j1 kj1 l0 t833 (Int.tmod t836 t828) t837 true t828 t829) = some r := by rw [if_neg (show ¬ (false = true) by decide)] at H; exact H
    clear H
    have H := H1
    clear H1
    have H' := Aside0.mk H
    clear H
    go_wp2
    (try subst hji32)
    (try subst hji62)
    go_meet
    case rel => exact ⟨_, (true), eqA, H', ⟨by have := HJ1.out; first | omega | exact Nat.le_refl _⟩, ⟨by (with_reducible repeat (first | apply Kd.R_alloc | apply Kd.R_drewN | apply Kd.R_drew)); exact Kd.R_mono HO835.out (fun _ hk => hk.1.1.2)⟩, ⟨by (with_reducible repeat (first | apply Kd.R_alloc | apply Kd.R_drewN | apply Kd.R_drew)); exact Kd.R_mono HO839.out (fun _ hk => hk.1.1.2)⟩, ⟨by exact Rz HO831⟩, ⟨by exact Bz BK832⟩, ⟨by exact Lz1 HB GE832⟩⟩
   case rest =>
    clear HC11
    try clear c3
    try clear c3b0
    try clear c3b1
    try clear c7
    try clear c7b0
    try clear c7b1
    try clear c27
    try clear c28
    try clear c29
    try clear c30
    try clear c30b0
    try clear c30b1
    try clear c31
    try clear c31b0
    try clear c31b1
    try clear c33
    try clear c33b0
    try clear c34
    try clear c34b0
    try clear c35
    try clear c35b0
    try clear c35b1
    try clear c37
    try clear p849
    try clear q849
    obtain ⟨kq, x95_10, rfl, HA, HJ10, HO_4, HO_6, HO_833001, BK832, HB⟩ := hcut
    cases kq with
    | zero => exact absurd HA.out (by simp [laws_FnReduced.j1])
    | succ kj10 =>
     have H := HA.out
     clear HA
     simp only [laws_FnReduced.j1] at H
     have HC51 := Aside0.mk H
     clear H
     go_upto_if 95 with (fail)
     go_cut [] (fun wc => ∃ (kq : Nat), Aside0 (laws_FnReduced.j2 kq l0 t833 (Int.tmod t836 t828) t837 t828 t829 = some r) ∧ Aside0 (kq ≤ kj10) ∧ Aside0 (Kd.R (Kd.int .i64) 3 wc w.heap.size (fun k_ => some k_ ≠ (v838 : Value).ownBlock) (.slice Ao20 t833.length co20) t833) ∧ Aside0 (Kd.R (Kd.int .i64) 3 wc w.heap.size (fun k_ => some k_ ≠ ((.slice Ao20 t833.length co20) : Value).ownBlock) v838 t837) ∧ Aside0 (Kd.R k67 67 wc w.heap.size (fun _ => True) (.slice Ao15 t829.length co15) t829) ∧ Aside0 (wc.heap[gb832]? = some (.cells #[.int .i64 t828, (.slice Ao15 t829.length co15)] 31 (0, 0))) ∧ Aside0 (Below w.heap.size w wc))
     case first =>
      have H := HC51.out
      clear HC51
      by_cases c52 : x95_10 = true
      ·subst c52
       have H1 : (some false) = some r := by rw [if_pos rfl] at H; exact H
       clear H
       have H := H1
       clear H1
       exact absurd (Option.some.inj H) (by rw [HR_.out]; decide)
      replace c52 := Bool.eq_false_iff.mpr c52
      subst c52
      have H1 : (laws_FnReduced.j2 kj10 l0 t833 (Int.tmod t836 t828) t837 t828 t829) = some r := by rw [if_neg (show ¬ (false = true) by decide)] at H; exact H
      clear H
      have H := H1
      clear H1
      have H' := Aside0.mk H
      clear H
      go_wp2
      (try subst hji32)
      (try subst hji62)
      go_meet
      case rel => exact ⟨_, H', ⟨by have := HJ1.out; have := HJ10.out; first | omega | exact Nat.le_refl _⟩, ⟨by exact Rz HO_4⟩, ⟨by exact Rz HO_6⟩, ⟨by exact Rz HO_833001⟩, ⟨by exact Bz BK832⟩, ⟨by exact Lz1 HB GE832⟩⟩
     case rest =>
      clear HC51
      try clear c3
      try clear c3b0
      try clear c3b1
      try clear c7
      try clear c7b0
      try clear c7b1
      try clear c27
      try clear c28
      try clear c29
      try clear c30
      try clear c30b0
      try clear c30b1
      try clear c31
      try clear c31b0
      try clear c31b1
      try clear c33
      try clear c33b0
      try clear c34
      try clear c34b0
      try clear c35
      try clear c35b0
      try clear c35b1
      try clear c37
      try clear c52
      try clear p849
      try clear q849
      obtain ⟨kq, HA, HJ50, HO_4, HO_6, HO_833001, BK832, HB⟩ := hcut
      cases kq with
      | zero => exact absurd HA.out (by simp [laws_FnReduced.j2])
      | succ kj50 =>
       have H := HA.out
       clear HA
       simp only [laws_FnReduced.j2] at H
       replace H := Option.bind_eq_some_iff.mp H
       obtain ⟨t852, A530, H⟩ := H
       replace H : ((impl_FireScript.f kj50 t828 t829 t833 t852).bind fun bt855 => ((impl_ReducedOf.f kj50 t828 t829 bt855.1 (Int.tmod t836 t828)).bind fun bt859 => ((impl_ChipsAt.f kj50 t828 t829 t833 (Int.tmod t836 t828)).bind fun bt863 => (if bt855.2 = true then (if bt859.2 = true then (if bt863.2 = true then ((laws_same.f kj50 bt859.1 t837).bind fun t865 => (if t865 = true then (if 0 ≤ (Int.tmod t836 t828) then (if (Int.tmod t836 t828) < (t837.length : Int) then (if bt863.1 = (rd t837 (Int.tmod t836 t828)) then ((impl_MostLegalSet.f kj50 t828 t829 t837 (Int.tmod t836 t828)).bind fun t867 => (some ((t867.length : Int) == 0))) else (some false)) else (none)) else (none)) else (some false))) else (some false)) else (some false)) else (some false))))) = some r := H
       have A53 := Aside0.mk A530
       clear A530
       replace H := Option.bind_eq_some_iff.mp H
       obtain ⟨⟨t855, t858⟩, A540, H⟩ := H
       replace H : ((impl_ReducedOf.f kj50 t828 t829 t855 (Int.tmod t836 t828)).bind fun bt859 => ((impl_ChipsAt.f kj50 t828 t829 t833 (Int.tmod t836 t828)).bind fun bt863 => (if t858 = true then (if bt859.2 = true then (if bt863.2 = true then ((laws_same.f kj50 bt859.1 t837).bind fun t865 => (if t865 = true then (if 0 ≤ (Int.tmod t836 t828) then (if (Int.tmod t836 t828) < (t837.length : Int) then (if bt863.1 = (rd t837 (Int.tmod t836 t828)) then ((impl_MostLegalSet.f kj50 t828 t829 t837 (Int.tmod t836 t828)).bind fun t867 => (some ((t867.length : Int) == 0))) else (some false)) else (none)) else (none)) else (some false))) else (some false)) else (some false)) else (some false)))) = some r := H
       have A54 := Aside0.mk A540
       clear A540
       replace H := Option.bind_eq_some_iff.mp H
       obtain ⟨⟨t859, t862⟩, A550, H⟩ := H
       replace H : ((impl_ChipsAt.f kj50 t828 t829 t833 (Int.tmod t836 t828)).bind fun bt863 => (if t858 = true then (if t862 = true then (if bt863.2 = true then ((laws_same.f kj50 t859 t837).bind fun t865 => (if t865 = true then (if 0 ≤ (Int.tmod t836 t828) then (if (Int.tmod t836 t828) < (t837.length : Int) then (if bt863.1 = (rd t837 (Int.tmod t836 t828)) then ((impl_MostLegalSet.f kj50 t828 t829 t837 (Int.tmod t836 t828)).bind fun t867 => (some ((t867.length : Int) == 0))) else (some false)) else (none)) else (none)) else (some false))) else (some false)) else (some false)) else (some false))) = some r := H
       have A55 := Aside0.mk A550
       clear A550
       replace H := Option.bind_eq_some_iff.mp H
       obtain ⟨⟨t863, t864⟩, A560, H⟩ := H
       replace H : (if t858 = true then (if t862 = true then (if t864 = true then ((laws_same.f kj50 t859 t837).bind fun t865 => (if t865 = true then (if 0 ≤ (Int.tmod t836 t828) then (if (Int.tmod t836 t828) < (t837.length : Int) then (if t863 = (rd t837 (Int.tmod t836 t828)) then ((impl_MostLegalSet.f kj50 t828 t829 t837 (Int.tmod t836 t828)).bind fun t867 => (some ((t867.length : Int) == 0))) else (some false)) else (none)) else (none)) else (some false))) else (some false)) else (some false)) else (some false)) = some r := H
       have A56 := Aside0.mk A560
       clear A560
       by_cases c57 : t858 = true
       ·subst c57
        have H1 : (if t862 = true then (if t864 = true then ((laws_same.f kj50 t859 t837).bind fun t865 => (if t865 = true then (if 0 ≤ (Int.tmod t836 t828) then (if (Int.tmod t836 t828) < (t837.length : Int) then (if t863 = (rd t837 (Int.tmod t836 t828)) then ((impl_MostLegalSet.f kj50 t828 t829 t837 (Int.tmod t836 t828)).bind fun t867 => (some ((t867.length : Int) == 0))) else (some false)) else (none)) else (none)) else (some false))) else (some false)) else (some false)) = some r := by rw [if_pos rfl] at H; exact H
        clear H
        have H := H1
        clear H1
        by_cases c58 : t862 = true
        ·subst c58
         have H1 : (if t864 = true then ((laws_same.f kj50 t859 t837).bind fun t865 => (if t865 = true then (if 0 ≤ (Int.tmod t836 t828) then (if (Int.tmod t836 t828) < (t837.length : Int) then (if t863 = (rd t837 (Int.tmod t836 t828)) then ((impl_MostLegalSet.f kj50 t828 t829 t837 (Int.tmod t836 t828)).bind fun t867 => (some ((t867.length : Int) == 0))) else (some false)) else (none)) else (none)) else (some false))) else (some false)) = some r := by rw [if_pos rfl] at H; exact H
         clear H
         have H := H1
         clear H1
         by_cases c59 : t864 = true
         ·subst c59
          have H1 : ((laws_same.f kj50 t859 t837).bind fun t865 => (if t865 = true then (if 0 ≤ (Int.tmod t836 t828) then (if (Int.tmod t836 t828) < (t837.length : Int) then (if t863 = (rd t837 (Int.tmod t836 t828)) then ((impl_MostLegalSet.f kj50 t828 t829 t837 (Int.tmod t836 t828)).bind fun t867 => (some ((t867.length : Int) == 0))) else (some false)) else (none)) else (none)) else (some false))) = some r := by rw [if_pos rfl] at H; exact H
          clear H
          have H := H1
          clear H1
          replace H := Option.bind_eq_some_iff.mp H
          obtain ⟨t865, A600, H⟩ := H
          replace H : (if t865 = true then (if 0 ≤ (Int.tmod t836 t828) then (if (Int.tmod t836 t828) < (t837.length : Int) then (if t863 = (rd t837 (Int.tmod t836 t828)) then ((impl_MostLegalSet.f kj50 t828 t829 t837 (Int.tmod t836 t828)).bind fun t867 => (some ((t867.length : Int) == 0))) else (some false)) else (none)) else (none)) else (some false)) = some r := H
          have A60 := Aside0.mk A600
          clear A600
          by_cases c61 : t865 = true
          ·subst c61
           have H1 : (if 0 ≤ (Int.tmod t836 t828) then (if (Int.tmod t836 t828) < (t837.length : Int) then (if t863 = (rd t837 (Int.tmod t836 t828)) then ((impl_MostLegalSet.f kj50 t828 t829 t837 (Int.tmod t836 t828)).bind fun t867 => (some ((t867.length : Int) == 0))) else (some false)) else (none)) else (none)) = some r := by rw [if_pos rfl] at H; exact H
           clear H
           have H := H1
           clear H1
           obtain ⟨ji62, hji62⟩ : ∃ j_ : Int, (Int.tmod t836 t828) = j_ := ⟨_, rfl⟩
           replace H : (if 0 ≤ (ji62) then (if (ji62) < (t837.length : Int) then (if t863 = (rd t837 (ji62)) then ((impl_MostLegalSet.f kj50 t828 t829 t837 (ji62)).bind fun t867 => (some ((t867.length : Int) == 0))) else (some false)) else (none)) else (none)) = some r := by first | (rw [hji62] at H; exact H) | (simp only [hji62] at H ⊢; exact H)
           (try rw [hji62] at A53)
           (try rw [hji62] at A54)
           (try rw [hji62] at A55)
           (try rw [hji62] at A56)
           (try rw [hji62] at A60)
           by_cases c63 : 0 ≤ (ji62)
           ·rw [if_pos c63] at H
            have c63b0 : decide (0 ≤ (ji62)) = true := decide_eq_true c63
            clear c63
            by_cases c64 : (ji62) < (t837.length : Int)
            ·rw [if_pos c64] at H
             have c64b0 : decide ((ji62) < (t837.length : Int)) = true := decide_eq_true c64
             clear c64
             by_cases c65 : t863 = (rd t837 (ji62))
             ·rw [if_pos c65] at H
              have c65b0 : (t863 == (rd t837 (ji62))) = true := beq_iff_eq.mpr c65
              have c65b1 : (t863 != (rd t837 (ji62))) = false := bne_eq_false_iff_eq.mpr c65
              clear c65
              replace H := Option.bind_eq_some_iff.mp H
              obtain ⟨t867, A660, H⟩ := H
              replace H : (some ((t867.length : Int) == 0)) = some r := H
              have A66 := Aside0.mk A660
              clear A660
              obtain rfl := Option.some.inj H
              try go_wp2
              replace HO_4 := Aside0.mk (Kd.R_drew HO_4.out)
              replace HO_6 := Aside0.mk (Kd.R_drew HO_6.out)
              replace HO_833001 := Aside0.mk (Kd.R_drew HO_833001.out)
              replace BK832 := Aside0.mk (blk_drew BK832.out)
              replace HB := Aside0.mk (below_drew1 HB.out)
              refine start_ (n := 11) (S := fun w' => w'.cell? ⟨gb832, 0, none⟩ = some (.int .i64 t828) ∧ w'.cell? ⟨gb832, 1, none⟩ = some (.slice Ao15 t829.length co15)) (ds := []) #[false, false, false, false, false, false, false, false, false, false, false] (by kernel_rfl) rfl rfl ⟨(blk_cell BK832.out 0).trans rfl, (blk_cell BK832.out 1).trans rfl⟩ (fun hHeld => ?_); refine with_tabW laws_FnReduced.tab11 laws_FnReduced.bits11 (fun HT_ HW_ => ?_)
              generalize wc.drew = w67 at HO_4 HO_6 HO_833001 BK832 HB hHeld ⊢
              refine pureT_ 1 98 HT_ ?_
              refine pureT_ 2 99 HT_ ?_
              refine takeT_ 0 97 HT_ HW_ hHeld rfl (by rintro w' ⟨s0, s1⟩; go_simp; with_reducible rfl) ?_
              refine takeT_ 3 100 HT_ HW_ hHeld rfl (by rintro w' ⟨s0, s1⟩; go_simp; with_reducible rfl) ?_
              refine one_ (i := 4) (N := some 101) #[true, true, true, true, true, false, false, false, false, false, false] rfl rfl (one_of HT_.out (by kernel_rfl)) (by decide) (fun K hK => ?_)
              refine goes_ Try.func30 (by kernel_rfl) rfl #[.slice A0 l0.length c0, .int .i64 40, .agg #[.int .i64 t828, .slice Ao15 t829.length co15]] (by rfl) rfl rfl (by (try simp only [List.map_toArray, List.map_cons, List.map_nil]); first | done | rfl | (simp only [List.length_drop, List.length_take]; rfl)) ?_
              with_reducible refine (spec_MakeScript.calls kj50 _ _ l0 40 t828 _ _ t829 t852 _ ?side1 ?side2 ?side3 ?side4 A53.out).mono ?_
              (case side1 => exact Cz ((Kd.C_below HR0.out HB.out)))
              (case side2 => exact HC0.out)
              (case side3 => exact Cz ((Kd.R_reads' HO_833001.out).2.2))
              (case side4 => exact (Kd.R_reads' HO_833001.out).2.1)
              rintro e w68 ⟨v853, rfl, ho0, hb⟩
              refine ⟨_, rfl, ?_⟩
              replace HO_833001 := Aside0.mk (Kd.R_below (Rz HO_833001) hb)
              have HO854 := Aside0.mk (Kd.R_lower (Kd.R_new' (Kd.R_new' ho0 (Kd.R_lt (Rz HO_4))) (Kd.R_lt (Rz HO_6))) (below_size (by exact Lz1 HB GE832)))
              replace HO_4 := Aside0.mk (Kd.R_elder' (Rz HO_4) (Kd.R_base ho0) hb)
              replace HO_6 := Aside0.mk (Kd.R_elder' (Rz HO_6) (Kd.R_base ho0) hb)
              replace BK832 := Aside0.mk (blk_below (g := gb832) (o := .cells #[.int .i64 t828, .slice Ao15 t829.length co15] 31 (0, 0)) (Bz BK832) hb)
              replace HB := Aside0.mk (below_step (by exact Lz1 HB GE832) hb)
              (try clear hb)
              (try clear hb2)
              (try clear hk)
              (try clear hi)
              (try clear ho0)
              obtain ⟨Ao69, co69, eo69⟩ := Kd.R_slice HO854.out
              (first | subst eo69 | (injection eo69 with f1_ f2_ f3_; have f4_ := f1_.symm; have f5_ := f3_.symm; clear f1_ f2_ f3_; subst f4_; subst f5_))
              refine hK.out _ _ ⟨(blk_cell BK832.out 0).trans rfl, (blk_cell BK832.out 1).trans rfl⟩ (fun hHeld => ?_)
              clear hK K
              refine norm_ (a' := ?_) ?_ ?_
              rotate_left
              ·show Act.put _ (some 101) _ = _
               simp only [Act.put, List.setIfInBounds_toArray, List.set_cons_zero, List.set_cons_succ, i64_w, i32_w]
               rfl
              refine one_ (i := 5) (N := some 102) #[true, true, true, true, true, true, false, false, false, false, false] rfl rfl (one_of HT_.out (by kernel_rfl)) (by decide) (fun K hK => ?_)
              refine goes_ Try.func27 (by kernel_rfl) rfl #[.agg #[.int .i64 t828, .slice Ao15 t829.length co15], .slice Ao20 t833.length co20, .slice Ao69 t852.length co69] (by rfl) rfl rfl (by (try simp only [List.map_toArray, List.map_cons, List.map_nil]); first | done | rfl | (simp only [List.length_drop, List.length_take]; rfl)) ?_
              with_reducible refine (impl_FireScript.calls kj50 t828 _ _ t829 _ _ t833 _ _ t852 t855 true _ ?side1 ?side2 ?side3 ?side4 ?side5 ?side6 A54.out).mono ?_
              (case side1 => exact Cz ((Kd.R_reads' HO_833001.out).2.2))
              (case side2 => exact (Kd.R_reads' HO_833001.out).2.1)
              (case side3 => exact Cz ((Kd.R_reads' HO_4.out).2.2))
              (case side4 => exact (Kd.R_reads' HO_4.out).2.1)
              (case side5 => exact Cz ((Kd.R_reads' HO854.out).2.2))
              (case side6 => exact (Kd.R_reads' HO854.out).2.1)
              rintro e w70 ⟨v856, rfl, ho0, hb⟩
              refine ⟨_, rfl, ?_⟩
              replace HO_833001 := Aside0.mk (Kd.R_below (Rz HO_833001) hb)
              have HO857 := Aside0.mk (Kd.R_lower (Kd.R_new' (Kd.R_new' (Kd.R_new' ho0 (Kd.R_lt (Rz HO_4))) (Kd.R_lt (Rz HO_6))) (Kd.R_lt (Rz HO854))) (below_size (by exact Lz1 HB GE832)))
              replace HO_4 := Aside0.mk (Kd.R_elder' (Rz HO_4) (Kd.R_base ho0) hb)
              replace HO_6 := Aside0.mk (Kd.R_elder' (Rz HO_6) (Kd.R_base ho0) hb)
              replace HO854 := Aside0.mk (Kd.R_elder' (Rz HO854) (Kd.R_base ho0) hb)
              replace BK832 := Aside0.mk (blk_below (g := gb832) (o := .cells #[.int .i64 t828, .slice Ao15 t829.length co15] 31 (0, 0)) (Bz BK832) hb)
              replace HB := Aside0.mk (below_step (by exact Lz1 HB GE832) hb)
              (try clear hb)
              (try clear hb2)
              (try clear hk)
              (try clear hi)
              (try clear ho0)
              refine hK.out _ _ ⟨(blk_cell BK832.out 0).trans rfl, (blk_cell BK832.out 1).trans rfl⟩ (fun hHeld => ?_)
              clear hK K
              refine norm_ (a' := ?_) ?_ ?_
              rotate_left
              ·show Act.put _ (some 102) _ = _
               simp only [Act.put, List.setIfInBounds_toArray, List.set_cons_zero, List.set_cons_succ, i64_w, i32_w]
               rfl
              refine pureT_ 6 96 HT_ ?_
              refine pureT_ 7 103 HT_ ?_
              refine pureT_ 8 104 HT_ ?_
              refine pureT_ 9 12 HT_ ?_
              refine pureT_ 10 13 HT_ ?_
              refine done_ (done_of HT_.out (by kernel_rfl)) ?_
              have hcz71_0 : w70.cell? ⟨gb832, 0, none⟩ = some (.int .i64 t828) := (blk_cell BK832.out 0).trans rfl
              have hcz71_1 : w70.cell? ⟨gb832, 1, none⟩ = some (.slice Ao15 t829.length co15) := (blk_cell BK832.out 1).trans rfl
              have hfz71_0 := blk_frozen BK832.out 0
              have hfz71_1 := blk_frozen BK832.out 1
              obtain ⟨Ao72, co72, eo72⟩ := Kd.R_slice HO857.out
              subst eo72
              try go_wp2_with (first | ((with_reducible refine gate_callee (f := 25) rfl ?_); refine goesL_ (some 109) rfl rfl Try.func25 (by kernel_rfl) rfl #[.agg #[.int .i64 t828, .slice Ao15 t829.length co15], .slice Ao72 t855.length co72, .int .i64 (ji62)] rfl (by (try simp only [List.map_toArray, List.map_cons, List.map_nil]); first | done | (simp only [hji62]; rfl) | rfl | (simp only [List.length_drop, List.length_take]; rfl)) ?_; (with_reducible refine (impl_ReducedOf.calls kj50 t828 _ _ t829 _ _ t855 (ji62) t859 true _ ?side1 ?side2 ?side3 ?side4 A55.out).mono ?_); (case side1 => exact Cz ((Kd.R_reads' HO_833001.out).2.2)); (case side2 => exact (Kd.R_reads' HO_833001.out).2.1); (case side3 => exact Cz ((Kd.R_reads' HO857.out).2.2)); (case side4 => exact (Kd.R_reads' HO857.out).2.1); rintro e w73 ⟨v860, rfl, ho0, hb⟩; refine ⟨_, rfl, ?_⟩; replace HO_833001 := Aside0.mk (Kd.R_below (Rz HO_833001) hb); have HO861 := Aside0.mk (Kd.R_lower (Kd.R_new' (Kd.R_new' (Kd.R_new' (Kd.R_new' ho0 (Kd.R_lt (Rz HO_4))) (Kd.R_lt (Rz HO_6))) (Kd.R_lt (Rz HO854))) (Kd.R_lt (Rz HO857))) (below_size (by exact Lz1 HB GE832))); replace HO_4 := Aside0.mk (Kd.R_elder' (Rz HO_4) (Kd.R_base ho0) hb); replace HO_6 := Aside0.mk (Kd.R_elder' (Rz HO_6) (Kd.R_base ho0) hb); replace HO854 := Aside0.mk (Kd.R_elder' (Rz HO854) (Kd.R_base ho0) hb); replace HO857 := Aside0.mk (Kd.R_elder' (Rz HO857) (Kd.R_base ho0) hb); replace BK832 := Aside0.mk (blk_below (g := gb832) (o := .cells #[.int .i64 t828, .slice Ao15 t829.length co15] 31 (0, 0)) (Bz BK832) hb); replace HB := Aside0.mk (below_step (by exact Lz1 HB GE832) hb); (try clear hb); (try clear ho0); have hcz74_0 : w73.cell? ⟨gb832, 0, none⟩ = some (.int .i64 t828) := (blk_cell BK832.out 0).trans rfl; have hcz74_1 : w73.cell? ⟨gb832, 1, none⟩ = some (.slice Ao15 t829.length co15) := (blk_cell BK832.out 1).trans rfl; have hfz74_0 := blk_frozen BK832.out 0; have hfz74_1 := blk_frozen BK832.out 1) | ((with_reducible refine gate_callee (f := 31) rfl ?_); refine goesL_ (some 116) rfl rfl Try.func31 (by kernel_rfl) rfl #[.agg #[.int .i64 t828, .slice Ao15 t829.length co15], .slice Ao20 t833.length co20, .int .i64 (ji62)] rfl (by (try simp only [List.map_toArray, List.map_cons, List.map_nil]); first | done | (simp only [hji62]; rfl) | rfl | (simp only [List.length_drop, List.length_take]; rfl)) ?_; (with_reducible refine (impl_ChipsAt.calls kj50 t828 _ _ t829 _ _ t833 (ji62) t863 true _ ?side1 ?side2 ?side3 ?side4 A56.out).mono ?_); (case side1 => exact Cz ((Kd.R_reads' HO_833001.out).2.2)); (case side2 => exact (Kd.R_reads' HO_833001.out).2.1); (case side3 => exact Cz ((Kd.R_reads' HO_4.out).2.2)); (case side4 => exact (Kd.R_reads' HO_4.out).2.1); rintro e w75 ⟨rfl, hb⟩; refine ⟨_, rfl, ?_⟩; replace HO_4 := Aside0.mk (Kd.R_below (Rz HO_4) hb); replace HO_6 := Aside0.mk (Kd.R_below (Rz HO_6) hb); replace HO_833001 := Aside0.mk (Kd.R_below (Rz HO_833001) hb); replace HO854 := Aside0.mk (Kd.R_below (Rz HO854) hb); replace HO857 := Aside0.mk (Kd.R_below (Rz HO857) hb); replace HO861 := Aside0.mk (Kd.R_below (Rz HO861) hb); replace BK832 := Aside0.mk (blk_below (g := gb832) (o := .cells #[.int .i64 t828, .slice Ao15 t829.length co15] 31 (0, 0)) (Bz BK832) hb); replace HB := Aside0.mk (below_step (by exact Lz1 HB GE832) hb); (try clear hb); (try clear hb2); (try clear hk); (try clear hi); obtain ⟨Ao76, co76, eo76⟩ := Kd.R_slice HO861.out; subst eo76; obtain ⟨Ao77, co77, eo77⟩ := Kd.R_slice HO_6.out; subst eo77) | (go_at_call 28; (with_reducible refine (laws_same.calls kj50 _ _ t859 _ _ t837 true _ ?side1 ?side2 ?side3 ?side4 A60.out).mono ?_); (case side1 => exact Cz ((Kd.R_reads' HO861.out).2.2)); (case side2 => exact (Kd.R_reads' HO861.out).2.1); (case side3 => exact Cz ((Kd.R_reads' HO_6.out).2.2)); (case side4 => exact (Kd.R_reads' HO_6.out).2.1); rintro e w' ⟨rfl, ⟨nd, rfl⟩⟩; have p866 : 0 ≤ ((ji62) : Int) := ofA; have q866 : (ji62) < (t837.length : Int) := ofA; obtain ⟨ad866, e866, hx866_0⟩ := Kd.at_int (Kd.R_reads' HO_6.out).2.2 (ji62) p866 q866; cases e866; replace p866 := eq_true p866; replace q866 := eq_true q866; have hcz78_0 : w75.cell? ⟨gb832, 0, none⟩ = some (.int .i64 t828) := (blk_cell BK832.out 0).trans rfl; have hcz78_1 : w75.cell? ⟨gb832, 1, none⟩ = some (.slice Ao15 t829.length co15) := (blk_cell BK832.out 1).trans rfl; have hfz78_0 := blk_frozen BK832.out 0; have hfz78_1 := blk_frozen BK832.out 1) | (go_at_call 32; (with_reducible refine (impl_MostLegalSet.calls kj50 t828 _ _ t829 _ _ t837 (ji62) t867 _ ?side1 ?side2 ?side3 ?side4 A66.out).mono ?_); (case side1 => exact Cz ((Kd.R_reads' HO_833001.out).2.2)); (case side2 => exact (Kd.R_reads' HO_833001.out).2.1); (case side3 => exact Cz ((Kd.R_reads' HO_6.out).2.2)); (case side4 => exact (Kd.R_reads' HO_6.out).2.1); rintro e w79 ⟨v868, rfl, ho0, hb⟩; replace HO_833001 := Aside0.mk (Kd.R_below (Rz HO_833001) hb); have HO869 := Aside0.mk (Kd.R_lower (Kd.R_new' (Kd.R_new' (Kd.R_new' (Kd.R_new' (Kd.R_new' ho0 (Kd.R_lt (Rz HO_4))) (Kd.R_lt (Rz HO_6))) (Kd.R_lt (Rz HO854))) (Kd.R_lt (Rz HO857))) (Kd.R_lt (Rz HO861))) (below_size (by exact Lz1 HB GE832))); replace HO_4 := Aside0.mk (Kd.R_elder' (Rz HO_4) (Kd.R_base ho0) hb); replace HO_6 := Aside0.mk (Kd.R_elder' (Rz HO_6) (Kd.R_base ho0) hb); replace HO854 := Aside0.mk (Kd.R_elder' (Rz HO854) (Kd.R_base ho0) hb); replace HO857 := Aside0.mk (Kd.R_elder' (Rz HO857) (Kd.R_base ho0) hb); replace HO861 := Aside0.mk (Kd.R_elder' (Rz HO861) (Kd.R_base ho0) hb); replace BK832 := Aside0.mk (blk_below (g := gb832) (o := .cells #[.int .i64 t828, .slice Ao15 t829.length co15] 31 (0, 0)) (Bz BK832) hb); replace HB := Aside0.mk (below_step (by exact Lz1 HB GE832) hb); (try clear hb); (try clear ho0); obtain ⟨Ao80, co80, eo80⟩ := Kd.R_slice HO869.out; subst eo80))
              go_ret
              exact ⟨by first | rfl | (simp [errW_none, errW_some] <;> rfl) | (simp only [← hji62]; first | rfl | (simp [errW_none, errW_some] <;> rfl)) | (simp [*, errW_none, errW_some] <;> rfl), by exact Lz1 HB GE832⟩
             rw [if_neg c65] at H
             have c65b0 : (t863 == (rd t837 (ji62))) = false := beq_eq_false_iff_ne.mpr c65
             have c65b1 : (t863 != (rd t837 (ji62))) = true := bne_iff_ne.mpr c65
             obtain rfl := Option.some.inj H
             try go_wp2
             replace HO_4 := Aside0.mk (Kd.R_drew HO_4.out)
             replace HO_6 := Aside0.mk (Kd.R_drew HO_6.out)
             replace HO_833001 := Aside0.mk (Kd.R_drew HO_833001.out)
             replace BK832 := Aside0.mk (blk_drew BK832.out)
             replace HB := Aside0.mk (below_drew1 HB.out)
             refine start_ (n := 11) (S := fun w' => w'.cell? ⟨gb832, 0, none⟩ = some (.int .i64 t828) ∧ w'.cell? ⟨gb832, 1, none⟩ = some (.slice Ao15 t829.length co15)) (ds := []) #[false, false, false, false, false, false, false, false, false, false, false] (by kernel_rfl) rfl rfl ⟨(blk_cell BK832.out 0).trans rfl, (blk_cell BK832.out 1).trans rfl⟩ (fun hHeld => ?_); refine with_tabW laws_FnReduced.tab11 laws_FnReduced.bits11 (fun HT_ HW_ => ?_)
             generalize wc.drew = w81 at HO_4 HO_6 HO_833001 BK832 HB hHeld ⊢
             refine pureT_ 1 98 HT_ ?_
             refine pureT_ 2 99 HT_ ?_
             refine takeT_ 0 97 HT_ HW_ hHeld rfl (by rintro w' ⟨s0, s1⟩; go_simp; with_reducible rfl) ?_
             refine takeT_ 3 100 HT_ HW_ hHeld rfl (by rintro w' ⟨s0, s1⟩; go_simp; with_reducible rfl) ?_
             refine one_ (i := 4) (N := some 101) #[true, true, true, true, true, false, false, false, false, false, false] rfl rfl (one_of HT_.out (by kernel_rfl)) (by decide) (fun K hK => ?_)
             refine goes_ Try.func30 (by kernel_rfl) rfl #[.slice A0 l0.length c0, .int .i64 40, .agg #[.int .i64 t828, .slice Ao15 t829.length co15]] (by rfl) rfl rfl (by (try simp only [List.map_toArray, List.map_cons, List.map_nil]); first | done | rfl | (simp only [List.length_drop, List.length_take]; rfl)) ?_
             with_reducible refine (spec_MakeScript.calls kj50 _ _ l0 40 t828 _ _ t829 t852 _ ?side1 ?side2 ?side3 ?side4 A53.out).mono ?_
             (case side1 => exact Cz ((Kd.C_below HR0.out HB.out)))
             (case side2 => exact HC0.out)
             (case side3 => exact Cz ((Kd.R_reads' HO_833001.out).2.2))
             (case side4 => exact (Kd.R_reads' HO_833001.out).2.1)
             rintro e w82 ⟨v853, rfl, ho0, hb⟩
             refine ⟨_, rfl, ?_⟩
             replace HO_833001 := Aside0.mk (Kd.R_below (Rz HO_833001) hb)
             have HO854 := Aside0.mk (Kd.R_lower (Kd.R_new' (Kd.R_new' ho0 (Kd.R_lt (Rz HO_4))) (Kd.R_lt (Rz HO_6))) (below_size (by exact Lz1 HB GE832)))
             replace HO_4 := Aside0.mk (Kd.R_elder' (Rz HO_4) (Kd.R_base ho0) hb)
             replace HO_6 := Aside0.mk (Kd.R_elder' (Rz HO_6) (Kd.R_base ho0) hb)
             replace BK832 := Aside0.mk (blk_below (g := gb832) (o := .cells #[.int .i64 t828, .slice Ao15 t829.length co15] 31 (0, 0)) (Bz BK832) hb)
             replace HB := Aside0.mk (below_step (by exact Lz1 HB GE832) hb)
             (try clear hb)
             (try clear hb2)
             (try clear hk)
             (try clear hi)
             (try clear ho0)
             obtain ⟨Ao83, co83, eo83⟩ := Kd.R_slice HO854.out
             (first | subst eo83 | (injection eo83 with f1_ f2_ f3_; have f4_ := f1_.symm; have f5_ := f3_.symm; clear f1_ f2_ f3_; subst f4_; subst f5_))
             refine hK.out _ _ ⟨(blk_cell BK832.out 0).trans rfl, (blk_cell BK832.out 1).trans rfl⟩ (fun hHeld => ?_)
             clear hK K
             refine norm_ (a' := ?_) ?_ ?_
             rotate_left
             ·show Act.put _ (some 101) _ = _
              simp only [Act.put, List.setIfInBounds_toArray, List.set_cons_zero, List.set_cons_succ, i64_w, i32_w]
              rfl
             refine one_ (i := 5) (N := some 102) #[true, true, true, true, true, true, false, false, false, false, false] rfl rfl (one_of HT_.out (by kernel_rfl)) (by decide) (fun K hK => ?_)
             refine goes_ Try.func27 (by kernel_rfl) rfl #[.agg #[.int .i64 t828, .slice Ao15 t829.length co15], .slice Ao20 t833.length co20, .slice Ao83 t852.length co83] (by rfl) rfl rfl (by (try simp only [List.map_toArray, List.map_cons, List.map_nil]); first | done | rfl | (simp only [List.length_drop, List.length_take]; rfl)) ?_
             with_reducible refine (impl_FireScript.calls kj50 t828 _ _ t829 _ _ t833 _ _ t852 t855 true _ ?side1 ?side2 ?side3 ?side4 ?side5 ?side6 A54.out).mono ?_
             (case side1 => exact Cz ((Kd.R_reads' HO_833001.out).2.2))
             (case side2 => exact (Kd.R_reads' HO_833001.out).2.1)
             (case side3 => exact Cz ((Kd.R_reads' HO_4.out).2.2))
             (case side4 => exact (Kd.R_reads' HO_4.out).2.1)
             (case side5 => exact Cz ((Kd.R_reads' HO854.out).2.2))
             (case side6 => exact (Kd.R_reads' HO854.out).2.1)
             rintro e w84 ⟨v856, rfl, ho0, hb⟩
             refine ⟨_, rfl, ?_⟩
             replace HO_833001 := Aside0.mk (Kd.R_below (Rz HO_833001) hb)
             have HO857 := Aside0.mk (Kd.R_lower (Kd.R_new' (Kd.R_new' (Kd.R_new' ho0 (Kd.R_lt (Rz HO_4))) (Kd.R_lt (Rz HO_6))) (Kd.R_lt (Rz HO854))) (below_size (by exact Lz1 HB GE832)))
             replace HO_4 := Aside0.mk (Kd.R_elder' (Rz HO_4) (Kd.R_base ho0) hb)
             replace HO_6 := Aside0.mk (Kd.R_elder' (Rz HO_6) (Kd.R_base ho0) hb)
             replace HO854 := Aside0.mk (Kd.R_elder' (Rz HO854) (Kd.R_base ho0) hb)
             replace BK832 := Aside0.mk (blk_below (g := gb832) (o := .cells #[.int .i64 t828, .slice Ao15 t829.length co15] 31 (0, 0)) (Bz BK832) hb)
             replace HB := Aside0.mk (below_step (by exact Lz1 HB GE832) hb)
             (try clear hb)
             (try clear hb2)
             (try clear hk)
             (try clear hi)
             (try clear ho0)
             refine hK.out _ _ ⟨(blk_cell BK832.out 0).trans rfl, (blk_cell BK832.out 1).trans rfl⟩ (fun hHeld => ?_)
             clear hK K
             refine norm_ (a' := ?_) ?_ ?_
             rotate_left
             ·show Act.put _ (some 102) _ = _
              simp only [Act.put, List.setIfInBounds_toArray, List.set_cons_zero, List.set_cons_succ, i64_w, i32_w]
              rfl
             refine pureT_ 6 96 HT_ ?_
             refine pureT_ 7 103 HT_ ?_
             refine pureT_ 8 104 HT_ ?_
             refine pureT_ 9 12 HT_ ?_
             refine pureT_ 10 13 HT_ ?_
             refine done_ (done_of HT_.out (by kernel_rfl)) ?_
             have hcz85_0 : w84.cell? ⟨gb832, 0, none⟩ = some (.int .i64 t828) := (blk_cell BK832.out 0).trans rfl
             have hcz85_1 : w84.cell? ⟨gb832, 1, none⟩ = some (.slice Ao15 t829.length co15) := (blk_cell BK832.out 1).trans rfl
             have hfz85_0 := blk_frozen BK832.out 0
             have hfz85_1 := blk_frozen BK832.out 1
             obtain ⟨Ao86, co86, eo86⟩ := Kd.R_slice HO857.out
             subst eo86
             try go_wp2_with (first | ((with_reducible refine gate_callee (f := 25) rfl ?_); refine goesL_ (some 109) rfl rfl Try.func25 (by kernel_rfl) rfl #[.agg #[.int .i64 t828, .slice Ao15 t829.length co15], .slice Ao86 t855.length co86, .int .i64 (ji62)] rfl (by (try simp only [List.map_toArray, List.map_cons, List.map_nil]); first | done | (simp only [hji62]; rfl) | rfl | (simp only [List.length_drop, List.length_take]; rfl)) ?_; (with_reducible refine (impl_ReducedOf.calls kj50 t828 _ _ t829 _ _ t855 (ji62) t859 true _ ?side1 ?side2 ?side3 ?side4 A55.out).mono ?_); (case side1 => exact Cz ((Kd.R_reads' HO_833001.out).2.2)); (case side2 => exact (Kd.R_reads' HO_833001.out).2.1); (case side3 => exact Cz ((Kd.R_reads' HO857.out).2.2)); (case side4 => exact (Kd.R_reads' HO857.out).2.1); rintro e w87 ⟨v860, rfl, ho0, hb⟩; refine ⟨_, rfl, ?_⟩; replace HO_833001 := Aside0.mk (Kd.R_below (Rz HO_833001) hb); have HO861 := Aside0.mk (Kd.R_lower (Kd.R_new' (Kd.R_new' (Kd.R_new' (Kd.R_new' ho0 (Kd.R_lt (Rz HO_4))) (Kd.R_lt (Rz HO_6))) (Kd.R_lt (Rz HO854))) (Kd.R_lt (Rz HO857))) (below_size (by exact Lz1 HB GE832))); replace HO_4 := Aside0.mk (Kd.R_elder' (Rz HO_4) (Kd.R_base ho0) hb); replace HO_6 := Aside0.mk (Kd.R_elder' (Rz HO_6) (Kd.R_base ho0) hb); replace HO854 := Aside0.mk (Kd.R_elder' (Rz HO854) (Kd.R_base ho0) hb); replace HO857 := Aside0.mk (Kd.R_elder' (Rz HO857) (Kd.R_base ho0) hb); replace BK832 := Aside0.mk (blk_below (g := gb832) (o := .cells #[.int .i64 t828, .slice Ao15 t829.length co15] 31 (0, 0)) (Bz BK832) hb); replace HB := Aside0.mk (below_step (by exact Lz1 HB GE832) hb); (try clear hb); (try clear ho0); have hcz88_0 : w87.cell? ⟨gb832, 0, none⟩ = some (.int .i64 t828) := (blk_cell BK832.out 0).trans rfl; have hcz88_1 : w87.cell? ⟨gb832, 1, none⟩ = some (.slice Ao15 t829.length co15) := (blk_cell BK832.out 1).trans rfl; have hfz88_0 := blk_frozen BK832.out 0; have hfz88_1 := blk_frozen BK832.out 1) | ((with_reducible refine gate_callee (f := 31) rfl ?_); refine goesL_ (some 116) rfl rfl Try.func31 (by kernel_rfl) rfl #[.agg #[.int .i64 t828, .slice Ao15 t829.length co15], .slice Ao20 t833.length co20, .int .i64 (ji62)] rfl (by (try simp only [List.map_toArray, List.map_cons, List.map_nil]); first | done | (simp only [hji62]; rfl) | rfl | (simp only [List.length_drop, List.length_take]; rfl)) ?_; (with_reducible refine (impl_ChipsAt.calls kj50 t828 _ _ t829 _ _ t833 (ji62) t863 true _ ?side1 ?side2 ?side3 ?side4 A56.out).mono ?_); (case side1 => exact Cz ((Kd.R_reads' HO_833001.out).2.2)); (case side2 => exact (Kd.R_reads' HO_833001.out).2.1); (case side3 => exact Cz ((Kd.R_reads' HO_4.out).2.2)); (case side4 => exact (Kd.R_reads' HO_4.out).2.1); rintro e w89 ⟨rfl, hb⟩; refine ⟨_, rfl, ?_⟩; replace HO_4 := Aside0.mk (Kd.R_below (Rz HO_4) hb); replace HO_6 := Aside0.mk (Kd.R_below (Rz HO_6) hb); replace HO_833001 := Aside0.mk (Kd.R_below (Rz HO_833001) hb); replace HO854 := Aside0.mk (Kd.R_below (Rz HO854) hb); replace HO857 := Aside0.mk (Kd.R_below (Rz HO857) hb); replace HO861 := Aside0.mk (Kd.R_below (Rz HO861) hb); replace BK832 := Aside0.mk (blk_below (g := gb832) (o := .cells #[.int .i64 t828, .slice Ao15 t829.length co15] 31 (0, 0)) (Bz BK832) hb); replace HB := Aside0.mk (below_step (by exact Lz1 HB GE832) hb); (try clear hb); (try clear hb2); (try clear hk); (try clear hi); obtain ⟨Ao90, co90, eo90⟩ := Kd.R_slice HO861.out; subst eo90; obtain ⟨Ao91, co91, eo91⟩ := Kd.R_slice HO_6.out; subst eo91) | (go_at_call 28; (with_reducible refine (laws_same.calls kj50 _ _ t859 _ _ t837 true _ ?side1 ?side2 ?side3 ?side4 A60.out).mono ?_); (case side1 => exact Cz ((Kd.R_reads' HO861.out).2.2)); (case side2 => exact (Kd.R_reads' HO861.out).2.1); (case side3 => exact Cz ((Kd.R_reads' HO_6.out).2.2)); (case side4 => exact (Kd.R_reads' HO_6.out).2.1); rintro e w' ⟨rfl, ⟨nd, rfl⟩⟩; have p866 : 0 ≤ ((ji62) : Int) := ofA; have q866 : (ji62) < (t837.length : Int) := ofA; obtain ⟨ad866, e866, hx866_0⟩ := Kd.at_int (Kd.R_reads' HO_6.out).2.2 (ji62) p866 q866; cases e866; replace p866 := eq_true p866; replace q866 := eq_true q866))
             go_ret
             exact ⟨by first | rfl | (simp [errW_none, errW_some] <;> rfl) | (simp only [← hji62]; first | rfl | (simp [errW_none, errW_some] <;> rfl)) | (simp [*, errW_none, errW_some] <;> rfl), by exact Lz1 HB GE832⟩
            rw [if_neg c64] at H
            exact absurd H (by simp)
           rw [if_neg c63] at H
           exact absurd H (by simp)
          replace c61 := Bool.eq_false_iff.mpr c61
          subst c61
          have H1 : (some false) = some r := by rw [if_neg (show ¬ (false = true) by decide)] at H; exact H
          clear H
          have H := H1
          clear H1
          exact absurd (Option.some.inj H) (by rw [HR_.out]; decide)
         replace c59 := Bool.eq_false_iff.mpr c59
         subst c59
         have H1 : (some false) = some r := by rw [if_neg (show ¬ (false = true) by decide)] at H; exact H
         clear H
         have H := H1
         clear H1
         exact absurd (Option.some.inj H) (by rw [HR_.out]; decide)
        replace c58 := Bool.eq_false_iff.mpr c58
        subst c58
        have H1 : (some false) = some r := by rw [if_neg (show ¬ (false = true) by decide)] at H; exact H
        clear H
        have H := H1
        clear H1
        exact absurd (Option.some.inj H) (by rw [HR_.out]; decide)
       replace c57 := Bool.eq_false_iff.mpr c57
       subst c57
       have H1 : (some false) = some r := by rw [if_neg (show ¬ (false = true) by decide)] at H; exact H
       clear H
       have H := H1
       clear H1
       exact absurd (Option.some.inj H) (by rw [HR_.out]; decide)
def laws_FnReduced.Pure : Prop := ∀ (l0 : List Int), l0.length ≤ maxLen → l0.length * 1 ≤ 140737488351232 → (∀ x ∈ l0, (Lit.int .u8 x).wf = true) → ∃ k, laws_FnReduced.f k l0 = some true
end Go.Proofs.Ytbcfccdoffbncaa.P
end
section
namespace Go.Proofs.Ytbcfccdoffbncaa.Pure
open Go.RowKit Go.Proofs.Ytbcfccdoffbncaa.P Go.Proofs.YtbcfccdoffbncaaW.PrintWords Go.Proofs.YtbcfccdoffbncaaW.PrintLast Go.Proofs.YtbcfccdoffbncaaW.PrintMore
def StatFnReduced : Prop := ∀ (l0 : List (Int)), (l0.length ≤ maxLen ∧ ∀ x2 ∈ l0, (Lit.int .u8 x2).wf = true) → ∃ k, laws_FnReduced.f k l0 = some true
end Go.Proofs.Ytbcfccdoffbncaa.Pure
end
section
set_option linter.unusedVariables false
set_option linter.unusedSimpArgs false
namespace Go.Proofs.Ytbcfccdoffbncaa.Pure
open Go.RowKit Go.Proofs.Ytbcfccdoffbncaa.P Go.Proofs.YtbcfccdoffbncaaW.PrintWords Go.Proofs.YtbcfccdoffbncaaW.PrintLast Go.Proofs.YtbcfccdoffbncaaW.PrintMore Go.Proofs.Ytbcfccdoffbncaa.Base Go.Proofs.Ytbcfccdoffbncaa.Loops
theorem makeScript_ex (code : List Int) (hc : code.length < 4611686018427387904) (n : Nat) (hn : n < 1000) (m : Nat) (hm : m ≤ 6) (es : List S67) :
    ∃ d : List Int, Ev (fun k => spec_MakeScript.f k code (n : Int) (m : Int) es) d ∧ d.length = m ∧ ∀ u : Nat, -3 ≤ d.getD u 0 ∧ d.getD u 0 ≤ 3 := by
  obtain ⟨i, h, e0, hi⟩ := l21New_ex code hc n hn
  have main : ∀ (d j : Nat) (i h : Int) (x : List Int), 0 ≤ i → j + d = m → x.length = j → (∀ v ∈ x, -3 ≤ v ∧ v ≤ 3) → ∃ r, Ev (fun k => spec_MakeScript.l0 k x (j : Int) (m : Int) es code i h) r ∧ r.length = m ∧ ∀ v ∈ r, -3 ≤ v ∧ v ≤ 3 := by
    intro d
    induction d with
    | zero =>
      intro j i h x hi hj hx hb
      refine ⟨x, ev_succ ?_, by omega, hb⟩
      simp only [spec_MakeScript.l0]
      exact ev_ifn (by omega) (Ev.now _)
    | succ d ih =>
      intro j i h x hi hj hx hb
      obtain ⟨a, i1, h1, e1, a0, a1, hi1⟩ := below_ex code hc i h hi 7 (by omega) (by omega)
      obtain ⟨r, r1, r2, r3⟩ := ih (j + 1) i1 h1 (x ++ [wrap64 (a - 3)]) hi1 (by omega) (by simp [hx]) (snoc_b hb (by unfold wrap64; omega))
      refine ⟨r, ev_succ ?_, r2, r3⟩
      simp only [spec_MakeScript.l0, e1, Option.bind_some, wrap_succ (show j < 4611686018427387904 by omega)]
      exact ev_ift (by omega) (ev_ift (by omega) r1)
  obtain ⟨r, r1, r2, r3⟩ := main m 0 i h [] hi (by omega) rfl (fun v hv => by cases hv)
  refine ⟨r, ?_, r2, fun u => getD_b r3 (by omega) (by omega) u⟩
  simp only [spec_MakeScript.f]
  refine Ev.bind e0 ?_
  exact r1
end Go.Proofs.Ytbcfccdoffbncaa.Pure
end
section
set_option linter.unusedVariables false
set_option linter.unusedSimpArgs false
namespace Go.Proofs.Ytbcfccdoffbncaa.Pure
open Go.RowKit Go.Proofs.Ytbcfccdoffbncaa.P Go.Proofs.YtbcfccdoffbncaaW.PrintWords Go.Proofs.YtbcfccdoffbncaaW.PrintLast Go.Proofs.YtbcfccdoffbncaaW.PrintMore Go.Proofs.Ytbcfccdoffbncaa.Base Go.Proofs.Ytbcfccdoffbncaa.Reduce Go.Proofs.Ytbcfccdoffbncaa.Loops Go.Proofs.Ytbcfccdoffbncaa.Bits
theorem lawReduced (code : List Int) (hc : code.length ≤ 9223372036854775807) : Ev (fun k => laws_FnReduced.f k code) true := by
  simp only [laws_FnReduced.f]
  by_cases h20 : (code.length : Int) > 1048576
  · exact ev_ift h20 (Ev.now _)
  refine ev_ifn h20 ?_
  obtain ⟨n, es, hg, G⟩ := makeGraph_ex code (by omega)
  obtain ⟨m, rfl⟩ : ∃ m : Nat, n = m := ⟨n.toNat, by have := G.lo; omega⟩
  have glo := G.lo
  have ghi := G.hi
  have h8 := G.len
  obtain ⟨D, hdv, hDl, hDb⟩ := makeDivisor_ex code (by omega) 20 (by omega) m (by omega) es
  obtain ⟨v, hnum, hv0⟩ := makeNum_ex code (by omega) 60 (by omega)
  obtain ⟨u, hscr, hul, hub⟩ := makeScript_ex code (by omega) 40 (by omega) m (by omega) es
  obtain ⟨q, hq, hqm⟩ : ∃ q : Nat, Int.tmod v m = q ∧ q < m := ⟨(Int.tmod v m).toNat, by have := Int.tmod_nonneg (m : Int) hv0; omega, by have := Int.tmod_nonneg (m : Int) hv0; have := Int.tmod_lt_of_pos v (show (0 : Int) < m by omega); omega⟩
  have S : Start m es D q := ⟨G.g, hqm, hDl, fun w => by have := hDb w; omega⟩
  obtain ⟨s, s1, s2, s3, s4, s5, s6, s7, _⟩ := reduce_both S
  obtain ⟨r1, _⟩ := red_small S h8 (by omega) s2 s4
  have SX := start_red S h8 (by omega) hDb s2 s4 s5 s6
  have aR := redI S s7 s6
  have aS := scrI S s7
  have aF := (fireV S s1 (fun w hw => by have := r1 w hw; omega)).1
  have aC := chipsI S s7 s6
  obtain ⟨aI, aM⟩ := isRedI SX s5 s4
  have aE := sameL_ev (XD es D s) (by omega)
  obtain ⟨SE, e1, e2⟩ := start_fired S h8 hDb hul hub
  have aG := (fireV S hul (fun w _ => by have := hub w; omega)).1
  obtain ⟨t, t1, t2, t3, t4, t5, t6, t7, _⟩ := reduce_both SE
  have hsame : XD es (XD es D u) t = XD es D s := list_eq0 (by omega) fun w hw => by
    rw [t5 w (by omega), s5 w (by omega)]
    exact red_same S e2 s2 t2 s4 t4 w (by omega)
  have aT := redI SE t7 t6
  rw [hsame] at aT
  have hrd : rd s (q : Int) = 0 := by unfold rd; rw [Int.toNat_natCast]; exact s2
  refine ev_succ ?_
  simp only [laws_FnReduced.j0]
  refine Ev.bind hg ?_
  refine Ev.bind hdv ?_
  refine Ev.bind hnum ?_
  dsimp only
  rw [hq]
  repeat (first
    | exact Ev.now _
    | dsimp only
    | (with_reducible refine Ev.bind aR ?_) | (with_reducible refine Ev.bind aS ?_) | (with_reducible refine Ev.bind aF ?_) | (with_reducible refine Ev.bind aE ?_) | (with_reducible refine Ev.bind aI ?_) | (with_reducible refine Ev.bind aG ?_) | (with_reducible refine Ev.bind aT ?_) | (with_reducible refine Ev.bind aC ?_) | (with_reducible refine Ev.bind aM ?_) | (with_reducible refine Ev.bind hscr ?_)
    | with_reducible refine ev_ift (by first | rfl | with_reducible exact True.intro | omega) ?_
    | with_reducible refine ev_ifn (by omega) ?_
    | with_reducible refine ev_ifnn ?_
    | with_reducible refine ev_iff ?_
    | (refine ev_succ ?_; simp only [if_true, laws_FnReduced.j1, laws_FnReduced.j2])
    )
theorem FnReduced : StatFnReduced := by
  intro code ⟨hc, _⟩
  have hc' : code.length ≤ 9223372036854775807 := by unfold maxLen at hc; omega
  exact Ev.rounds (r := true) (lawReduced code hc')
end Go.Proofs.Ytbcfccdoffbncaa.Pure
end
