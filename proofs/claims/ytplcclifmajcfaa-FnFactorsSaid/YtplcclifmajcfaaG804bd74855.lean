/- Functions of the program as plain Lean functions and that the machine's calls answer as they do, the words of the print that these use, lemmas and plain proofs of laws. Put together by a program of this work that leaves out what nothing uses; Lean checks it. -/
import Derived.Test.YtplcclifmajcfaaG93f7dcd6b6
import Derived.Test.YtplcclifmajcfaaG0fda13519b
import Derived.Test.YtplcclifmajcfaaGa72f26dfdf
section
namespace Go.Proofs.Ytplcclifmajcfaa.P
open Go.RowKit Go.Proofs.YtplcclifmajcfaaW.PrintWords Go.Proofs.YtplcclifmajcfaaW.PrintLast Go.Proofs.YtplcclifmajcfaaW.PrintMore
attribute [local go_sem] max2_int min2_int max_two min_two max_three min_three max_four min_four
set_option linter.unusedVariables false
set_option linter.unusedSimpArgs false
mutual
def spec_l02Draw.l0 : Nat → Int → Int → List Int → Int → Int → Int → List (S57) → Option (Int × (List (S57)) × Int × Int)
 | 0, _, _, _, _, _, _, _ => none
 | k + 1, x6, x7, x1000, x1001, x1002, x632000, x632001 => if x7 < x6 then ((spec_l01Below.f x1000 x1001 x1002 x7).bind fun bt635 => (if x632001.length < 8796093022208 then (spec_l02Draw.l0 k x6 (wrap64 (x7 + 1)) x1000 bt635.2.1 bt635.2.2 (wrap64 (x7 + 1)) (x632001 ++ [(⟨bt635.1, x7⟩ : S57)])) else (none))) else (spec_l02Draw.l1 k x6 0 x1000 x1001 x1002 x632000 x632001 x6 ([] : List (S57)))
def spec_l02Draw.l1 : Nat → Int → Int → List Int → Int → Int → Int → List (S57) → Int → List (S57) → Option (Int × (List (S57)) × Int × Int)
 | 0, _, _, _, _, _, _, _, _, _ => none
 | k + 1, x6, x10, x1000, x1001, x1002, x632000, x632001, x643000, x643001 => if x10 < x6 then (spec_l02Draw.l2 k x6 x10 (wrap64 (x10 + 1)) x1000 x1001 x1002 x632000 x632001 x643000 x643001) else ((spec_l01Below.f x1000 x1001 x1002 5).bind fun bt647 => (spec_l02Draw.l4 k x6 bt647.1 x1000 bt647.2.1 bt647.2.2 x643000 x643001))
def spec_l02Draw.l2 : Nat → Int → Int → Int → List Int → Int → Int → Int → List (S57) → Int → List (S57) → Option (Int × (List (S57)) × Int × Int)
 | 0, _, _, _, _, _, _, _, _, _, _ => none
 | k + 1, x6, x10, x11, x1000, x1001, x1002, x632000, x632001, x643000, x643001 => if x11 < x6 then ((spec_Multiplicity.f k x632000 x632001 x10 x11).bind fun t643 => (spec_l02Draw.l3 k x6 x10 x11 t643 x1000 x1001 x1002 x632000 x632001 x643000 x643001)) else (spec_l02Draw.l1 k x6 (wrap64 (x10 + 1)) x1000 x1001 x1002 x632000 x632001 x643000 x643001)
def spec_l02Draw.l3 : Nat → Int → Int → Int → Int → List Int → Int → Int → Int → List (S57) → Int → List (S57) → Option (Int × (List (S57)) × Int × Int)
 | 0, _, _, _, _, _, _, _, _, _, _, _ => none
 | k + 1, x6, x10, x11, x12, x1000, x1001, x1002, x632000, x632001, x643000, x643001 => if x12 > 0 then (if x643001.length < 8796093022208 then (spec_l02Draw.l3 k x6 x10 x11 (wrap64 (x12 - 1)) x1000 x1001 x1002 x632000 x632001 x643000 (x643001 ++ [(⟨x10, x11⟩ : S57)])) else (none)) else (spec_l02Draw.l2 k x6 x10 (wrap64 (x11 + 1)) x1000 x1001 x1002 x632000 x632001 x643000 x643001)
def spec_l02Draw.l4 : Nat → Int → Int → List Int → Int → Int → Int → List (S57) → Option (Int × (List (S57)) × Int × Int)
 | 0, _, _, _, _, _, _, _ => none
 | k + 1, x6, x13, x1000, x1001, x1002, x643000, x643001 => if x13 > 0 then ((spec_l01Below.f x1000 x1001 x1002 x6).bind fun bt650 => ((spec_l01Below.f x1000 bt650.2.1 bt650.2.2 (wrap64 (x6 - 1))).bind fun bt653 => (if x6 = 0 then (none) else ((spec_AddEdge.f k x643000 x643001 bt650.1 (Int.tmod (wrap64 ((wrap64 (bt650.1 + 1)) + bt653.1)) x6)).bind fun bt656 => (if bt656.2.2 = true then (spec_l02Draw.l4 k x6 (wrap64 (x13 - 1)) x1000 bt653.2.1 bt653.2.2 bt656.1 bt656.2.1) else (spec_l02Draw.l4 k x6 (wrap64 (x13 - 1)) x1000 bt653.2.1 bt653.2.2 x643000 x643001)))))) else (some (x643000, x643001, x1001, x1002))
end
def spec_l02Draw.f (k : Nat) (s0_0 : List Int) (s0_1 : Int) (s0_2 : Int) (a1 : Int) : Option (Int × (List (S57)) × Int × Int) := (spec_l01Below.f s0_0 s0_1 s0_2 (wrap64 (a1 - 1))).bind fun bt632 => (spec_l02Draw.l0 k (wrap64 (2 + bt632.1)) 1 s0_0 bt632.2.1 bt632.2.2 1 ([] : List (S57)))
def spec_l02Draw.T24 : Bool × List (List Nat × List Nat) := (true, [([], []), ([], []), ([], []), ([2], [2]), ([], []), ([], []), ([5], [5]), ([4, 6], [4, 6]), ([3, 7], [3, 7]), ([], []), ([8, 9], [8, 9]), ([0, 1, 10, 7], [0, 1, 10]), ([11], [11]), ([12], [12]), ([12], [12]), ([], []), ([15, 13, 11, 0, 1, 2, 3, 4, 5, 6, 7, 8, 9, 10, 11, 12, 13, 15], [13, 15]), ([14, 16, 0, 1, 2, 3, 4, 5, 6, 7, 8, 9, 10, 11, 12, 13, 14, 15, 16], [14])])
def spec_l02Draw.B24 : List Nat := [0, 0, 0, 4, 0, 0, 32, 112, 252, 0, 1020, 2047, 4095, 8191, 8191, 0, 49151, 131071]
theorem spec_l02Draw.tab24 : rtab .any (opsOf Try.f88 24) = spec_l02Draw.T24 := by kernel_rfl
theorem spec_l02Draw.bits24 : waitsOk spec_l02Draw.T24.2 spec_l02Draw.B24 = true := by kernel_rfl
set_option maxHeartbeats 8000000 in
set_option maxRecDepth 100000 in
theorem spec_l02Draw.calls (k : Nat) (g : Nat) (s0_0 : List Int) (s0_1 : Int) (s0_2 : Int) (a1 : Int) (r1 : Int) (r2 : List (S57)) (r3 : Int) (r4 : Int) (w0 w : World) (hI : IsS88 w0 w g s0_0 s0_1 s0_2) (hB : Below w0.heap.size w0 w) (h : spec_l02Draw.f k s0_0 s0_1 s0_2 a1 = some (r1, r2, r3, r4)) :
  Calls Try.prog 88 #[.pointer (some ⟨g, 0, none⟩), .int .i64 a1] w fun e w' => ∃ v1_ : Value, e = .returned (.agg #[.int .i64 r1, v1_]) ∧ Kd.R k57 57 w' w.heap.size (fun _ => True) v1_ r2 ∧ IsS88 w0 w' g s0_0 r3 r4 ∧ Below w0.heap.size w0 w' ∧ KeepBut w w' g none := by
 have hu30 := Try.underlying30
 have hu57 := Try.underlying57
 have HI0 := Aside0.mk hI
 have HK := Aside0.mk (KeepBut.refl w g none)
 have HL := Aside0.mk hB.size
 clear hI
 have HW0 := Aside0.mk hB.size
 have HB := Aside0.mk hB
 clear hB
 have H : ((spec_l01Below.f s0_0 s0_1 s0_2 (wrap64 (a1 - 1))).bind fun bt632 => (spec_l02Draw.l0 k (wrap64 (2 + bt632.1)) 1 s0_0 bt632.2.1 bt632.2.2 1 ([] : List (S57)))) = some (r1, r2, r3, r4) := h
 clear h
 replace H := Option.bind_eq_some_iff.mp H
 obtain ⟨⟨t632, t633, t634⟩, A30, H⟩ := H
 replace H : (spec_l02Draw.l0 k (wrap64 (2 + t632)) 1 s0_0 t633 t634 1 ([] : List (S57))) = some (r1, r2, r3, r4) := H
 have A3 := Aside0.mk A30
 clear A30
 have H' := Aside0.mk H
 clear H
 go_enter Try.func88, Try.ntmps88
 go_wp2_with (first | ((with_reducible refine gate_dst (N := 4) rfl ?_); refine box_event ?hg (N := 4) ?hd (cs := #[.int .i64 0, .slice none 0 0]) (t := 30) ?hr ?_; (case hd => rfl); (case hg => rfl); (case hr => first | (go_simp; done) | (go_simp; rfl)); intro gb630 hg w4 hbox hb; replace HB := Aside0.mk (below_step (by repeat (first | (with_reducible first | exact HB.out | apply below_alloc | apply pw_below_drewN | apply below_drew1 | refine below_set ?_ (IsS88.ge HI0.out)) | exact HB.out)) hb); have BK630 := Aside0.mk (hbox); have GW630 := Aside0.mk ((by rw [hg]; exact (keep_size (w := w) (g := g) (row := none) (by repeat (first | (with_reducible first | exact HK.out | apply KeepBut.set_ | apply keep_drewN | apply keep_drew | apply keep_alloc) | exact HK.out))) : w.heap.size ≤ gb630)); have GE630 := Aside0.mk ((Nat.le_trans HW0.out (by rw [hg]; exact (keep_size (w := w) (g := g) (row := none) (by repeat (first | (with_reducible first | exact HK.out | apply KeepBut.set_ | apply keep_drewN | apply keep_drew | apply keep_alloc) | exact HK.out))) : w.heap.size ≤ gb630) : w0.heap.size ≤ gb630)); replace HK := Aside0.mk (KeepBut.trans (by repeat (first | (with_reducible first | exact HK.out | apply KeepBut.set_ | apply keep_drewN | apply keep_drew | apply keep_alloc) | exact HK.out)) (KeepBut.of_below hb g none) (.inl rfl)); have NB0_630 := Aside0.mk ((by rw [hg]; exact Nat.ne_of_lt (IsS88.lt (show IsS88 w0 _ g s0_0 s0_1 s0_2 from by repeat (first | (with_reducible first | exact HI0.out | apply IsS88.alloc | apply IsS88.drewN | apply IsS88.drew | apply IsS88.set_1 | apply IsS88.set_2) | exact HI0.out))) : g ≠ gb630)); have NB630_0 := Aside0.mk ((by rw [hg]; exact Nat.ne_of_gt (IsS88.lt (show IsS88 w0 _ g s0_0 s0_1 s0_2 from by repeat (first | (with_reducible first | exact HI0.out | apply IsS88.alloc | apply IsS88.drewN | apply IsS88.drew | apply IsS88.set_1 | apply IsS88.set_2) | exact HI0.out))) : gb630 ≠ g)); replace HI0 := Aside0.mk (IsS88.below (by repeat (first | (with_reducible first | exact HI0.out | apply IsS88.alloc | apply IsS88.drewN | apply IsS88.drew | apply IsS88.set_1 | apply IsS88.set_2) | exact HI0.out)) hb); clear hb hbox hg) | ((with_reducible refine gate_dst (N := 5) rfl ?_); refine box_event ?hg (N := 5) ?hd (cs := #[.int .i64 0, .slice none 0 0]) (t := 30) ?hr ?_; (case hd => rfl); (case hg => rfl); (case hr => first | (go_simp; done) | (go_simp; rfl)); intro gb631 hg w5 hbox hb; replace HB := Aside0.mk (below_step (by repeat (first | (with_reducible first | exact HB.out | apply below_alloc | apply pw_below_drewN | apply below_drew1 | refine below_set ?_ (IsS88.ge HI0.out) | refine below_set ?_ GE630.out) | exact HB.out)) hb); have BK631 := Aside0.mk (hbox); have GW631 := Aside0.mk ((by rw [hg]; exact (keep_size (w := w) (g := g) (row := none) (by repeat (first | (with_reducible first | exact HK.out | apply KeepBut.set_ | apply keep_drewN | apply keep_drew | apply keep_alloc | refine keep_far ?_ GW630.out _) | exact HK.out))) : w.heap.size ≤ gb631)); have GE631 := Aside0.mk ((Nat.le_trans HW0.out (by rw [hg]; exact (keep_size (w := w) (g := g) (row := none) (by repeat (first | (with_reducible first | exact HK.out | apply KeepBut.set_ | apply keep_drewN | apply keep_drew | apply keep_alloc | refine keep_far ?_ GW630.out _) | exact HK.out))) : w.heap.size ≤ gb631) : w0.heap.size ≤ gb631)); replace HK := Aside0.mk (KeepBut.trans (by repeat (first | (with_reducible first | exact HK.out | apply KeepBut.set_ | apply keep_drewN | apply keep_drew | apply keep_alloc | refine keep_far ?_ GW630.out _) | exact HK.out)) (KeepBut.of_below hb g none) (.inl rfl)); have NB630_631 := Aside0.mk ((by rw [hg]; exact Nat.ne_of_lt (blk_lt (g := gb630) (o := .cells #[.int .i64 0, .slice none 0 0] 30 (0, 0)) (Bz BK630)) : gb630 ≠ gb631)); have NB631_630 := Aside0.mk ((by rw [hg]; exact Nat.ne_of_gt (blk_lt (g := gb630) (o := .cells #[.int .i64 0, .slice none 0 0] 30 (0, 0)) (Bz BK630)) : gb631 ≠ gb630)); replace BK630 := Aside0.mk (blk_below (g := gb630) (o := .cells #[.int .i64 0, .slice none 0 0] 30 (0, 0)) (Bz BK630) hb); have NB0_631 := Aside0.mk ((by rw [hg]; exact Nat.ne_of_lt (IsS88.lt (show IsS88 w0 _ g s0_0 s0_1 s0_2 from by repeat (first | (with_reducible first | exact HI0.out | apply IsS88.alloc | apply IsS88.drewN | apply IsS88.drew | apply IsS88.set_1 | apply IsS88.set_2 | refine IsS88.far ?_ NB0_630.out _) | exact HI0.out))) : g ≠ gb631)); have NB631_0 := Aside0.mk ((by rw [hg]; exact Nat.ne_of_gt (IsS88.lt (show IsS88 w0 _ g s0_0 s0_1 s0_2 from by repeat (first | (with_reducible first | exact HI0.out | apply IsS88.alloc | apply IsS88.drewN | apply IsS88.drew | apply IsS88.set_1 | apply IsS88.set_2 | refine IsS88.far ?_ NB0_630.out _) | exact HI0.out))) : gb631 ≠ g)); replace HI0 := Aside0.mk (IsS88.below (by repeat (first | (with_reducible first | exact HI0.out | apply IsS88.alloc | apply IsS88.drewN | apply IsS88.drew | apply IsS88.set_1 | apply IsS88.set_2 | refine IsS88.far ?_ NB0_630.out _) | exact HI0.out)) hb); clear hb hbox hg; have hnb6 := NB631_630.out; have hnc6 := NB630_631.out; have hnb7 := NB631_0.out; have hnc7 := NB0_631.out; have hcz8_0 : w5.cell? ⟨gb631, 0, none⟩ = some (.int .i64 0) := (blk_cell BK631.out 0).trans rfl; have hcz8_1 : w5.cell? ⟨gb631, 1, none⟩ = some (.slice none 0 0) := (blk_cell BK631.out 1).trans rfl; have hfz8_0 := blk_frozen BK631.out 0; have hfz8_1 := blk_frozen BK631.out 1) | ((with_reducible refine gate_callee (f := 93) rfl ?_); refine goesM_ (some 21) rfl rfl Try.func93 (by kernel_rfl) rfl #[.pointer (some ⟨g, 0, none⟩), .int .i64 (wrap64 (a1 - 1))] rfl ?_; (with_reducible refine (spec_l01Below.calls g s0_0 s0_1 s0_2 (wrap64 (a1 - 1)) t632 t633 t634 w0 _ ?side1 ?side2 A3.out).mono ?_); (case side1 => repeat (first | (with_reducible first | exact HI0.out | apply IsS88.alloc | apply IsS88.drewN | apply IsS88.drew | apply IsS88.set_1 | apply IsS88.set_2 | refine IsS88.far ?_ NB0_630.out _ | refine IsS88.far ?_ NB0_631.out _) | exact HI0.out)); (case side2 => repeat (first | (with_reducible first | exact HB.out | apply below_alloc | apply pw_below_drewN | apply below_drew1 | refine below_set ?_ (IsS88.ge HI0.out) | refine below_set ?_ GE630.out | refine below_set ?_ GE631.out) | exact HB.out)); rintro e w9 ⟨rfl, hi, hb, hk⟩; refine ⟨_, rfl, ?_⟩; replace BK630 := Aside0.mk (KeepBut.blk hk (g' := gb630) (o := .cells #[.int .i64 0, .slice none 0 0] 30 (0, 0)) (by (with_reducible repeat (first | refine blk_drewN ?_ _ | refine blk_drew ?_ | refine blk_alloc ?_ _)); refine blk_far ?_ NB630_631.out _; (with_reducible repeat (first | refine blk_drewN ?_ _ | refine blk_drew ?_ | refine blk_alloc ?_ _)); refine blk_far ?_ NB630_631.out _; exact Bz BK630) NB630_0.out (by simp)); replace BK631 := Aside0.mk (KeepBut.blk hk (g' := gb631) (o := .cells #[.int .i64 1, .slice none 0 0] 30 (0, 0)) (by (with_reducible repeat (first | refine blk_drewN ?_ _ | refine blk_drew ?_ | refine blk_alloc ?_ _)); refine blk_put (cs := #[.int .i64 1, .slice none 0 0]) ?_ 1 _ rfl; (with_reducible repeat (first | refine blk_drewN ?_ _ | refine blk_drew ?_ | refine blk_alloc ?_ _)); refine blk_put (cs := #[.int .i64 0, .slice none 0 0]) ?_ 0 _ rfl; exact Bz BK631) NB631_0.out (by simp)); replace HK := Aside0.mk (KeepBut.trans (by repeat (first | (with_reducible first | exact HK.out | apply KeepBut.set_ | apply keep_drewN | apply keep_drew | apply keep_alloc | refine keep_far ?_ GW630.out _ | refine keep_far ?_ GW631.out _) | exact HK.out)) hk (.inl rfl)); replace HB := Aside0.mk (hb); replace HI0 := Aside0.mk (hi); (try clear hb); (try clear hb2); (try clear hk); (try clear hi)))
 go_loopg [7] k (fun kq v7 w' => ∃ (x7_1 : Int) (x1001_1 : Int) (x1002_1 : Int) (x632000_1 : Int) (x632001_1 : List (S57)) (u632001 : Value), v7 = .int .i64 x7_1 ∧ Aside0 (spec_l02Draw.l0 kq (wrap64 (2 + t632)) x7_1 s0_0 x1001_1 x1002_1 x632000_1 x632001_1 = some (r1, r2, r3, r4)) ∧ Aside0 (kq ≤ k) ∧ Aside0 (Kd.R k57 57 w' w.heap.size (fun _ => True) u632001 x632001_1) ∧ Aside0 (w'.heap[gb630]? = some (.cells #[.int .i64 0, (.slice none 0 0)] 30 (0, 0))) ∧ Aside0 (w'.heap[gb631]? = some (.cells #[.int .i64 x632000_1, u632001] 30 (0, 0))) ∧ Aside0 (IsS88 w0 w' g s0_0 x1001_1 x1002_1) ∧ Aside0 (KeepBut w w' g none) ∧ Aside0 (Below w0.heap.size w0 w'))
 case atStart => exact ⟨(1), (t633), (t634), (1), (([] : List (S57))), (.slice none 0 0), eqA, H', ⟨Nat.le_refl _⟩, ⟨by first | exact Kd.R_nil _ _ _ _ _ | exact Kd.N_nil _ _ _ _ _ | exact Kd.V_nil _ _ _ _ _ | exact Kd.Q_nil _ _ _ _ _ | exact Kd.S_nil _ _ _ _ _⟩, ⟨by exact Bz BK630⟩, ⟨by exact Bz BK631⟩, ⟨by repeat (first | (with_reducible first | exact HI0.out | apply IsS88.alloc | apply IsS88.drewN | apply IsS88.drew | apply IsS88.set_1 | apply IsS88.set_2 | refine IsS88.far ?_ NB0_630.out _ | refine IsS88.far ?_ NB0_631.out _) | exact HI0.out)⟩, ⟨by repeat (first | (with_reducible first | exact HK.out | apply KeepBut.set_ | apply keep_drewN | apply keep_drew | apply keep_alloc | refine keep_far ?_ GW630.out _ | refine keep_far ?_ GW631.out _) | exact HK.out)⟩, ⟨by repeat (first | (with_reducible first | exact HB.out | apply below_alloc | apply pw_below_drewN | apply below_drew1 | refine below_set ?_ (IsS88.ge HI0.out) | refine below_set ?_ GE630.out | refine below_set ?_ GE631.out) | exact HB.out)⟩⟩
 case round =>
  clear H'
  obtain ⟨x7_1, x1001_1, x1002_1, x632000_1, x632001_1, u632001, rfl, HA, HK1, HO_632001, BK630, BK631, HI0, HK, HB⟩ := hrel
  cases gk with
  | zero => exact absurd HA.out (by simp [spec_l02Draw.l0])
  | succ k1 =>
   have H := HA.out
   clear HA
   simp only [spec_l02Draw.l0] at H
   by_cases c10 : x7_1 < (wrap64 (2 + t632))
   ·rw [if_pos c10] at H
    have c10b0 : decide (x7_1 < (wrap64 (2 + t632))) = true := decide_eq_true c10
    clear c10
    replace H := Option.bind_eq_some_iff.mp H
    obtain ⟨⟨t635, t636, t637⟩, A110, H⟩ := H
    replace H : (if x632001_1.length < 8796093022208 then (spec_l02Draw.l0 k1 (wrap64 (2 + t632)) (wrap64 (x7_1 + 1)) s0_0 t636 t637 (wrap64 (x7_1 + 1)) (x632001_1 ++ [(⟨t635, x7_1⟩ : S57)])) else (none)) = some (r1, r2, r3, r4) := H
    have A11 := Aside0.mk A110
    clear A110
    by_cases c12 : x632001_1.length < 8796093022208
    ·rw [if_pos c12] at H
     have LMc12 := Aside0.mk c12
     clear c12
     obtain ⟨y639, hy639⟩ : ∃ y_ : List (S57), y_ = (x632001_1 ++ [(⟨t635, x7_1⟩ : S57)]) := ⟨_, rfl⟩
     replace H : (spec_l02Draw.l0 k1 (wrap64 (2 + t632)) (wrap64 (x7_1 + 1)) s0_0 t636 t637 (wrap64 (x7_1 + 1)) y639) = some (r1, r2, r3, r4) := by first | (rw [hy639]; with_reducible exact H) | (have H2_ := (Option.bind_some _ _).symm.trans H; rw [hy639]; with_reducible exact H2_) | (have H2_ := (Option.bind_some _ _).symm.trans H; with_reducible exact H2_) | with_reducible exact H | (rw [hy639]; exact H) | exact H
     have Ny639 := Aside0.mk hy639
     clear hy639
     have H' := Aside0.mk H
     clear H
     have hnb13 := NB631_630.out
     have hnc13 := NB630_631.out
     have hnb14 := NB631_0.out
     have hnc14 := NB0_631.out
     have hcz15_0 : wr.cell? ⟨gb631, 0, none⟩ = some (.int .i64 x632000_1) := (blk_cell BK631.out 0).trans rfl
     have hcz15_1 : wr.cell? ⟨gb631, 1, none⟩ = some (u632001) := (blk_cell BK631.out 1).trans rfl
     have hfz15_0 := blk_frozen BK631.out 0
     have hfz15_1 := blk_frozen BK631.out 1
     go_wp2_with (first | ((with_reducible refine gate_callee (f := 93) rfl ?_); refine goesM_ (some 33) rfl rfl Try.func93 (by kernel_rfl) rfl #[.pointer (some ⟨g, 0, none⟩), .int .i64 x7_1] rfl ?_; (with_reducible refine (spec_l01Below.calls g s0_0 x1001_1 x1002_1 x7_1 t635 t636 t637 w0 _ ?side1 ?side2 A11.out).mono ?_); (case side1 => repeat (first | (with_reducible first | exact HI0.out | apply IsS88.alloc | apply IsS88.drewN | apply IsS88.drew | apply IsS88.set_1 | apply IsS88.set_2 | refine IsS88.far ?_ NB0_630.out _ | refine IsS88.far ?_ NB0_631.out _) | exact HI0.out)); (case side2 => repeat (first | (with_reducible first | exact HB.out | apply below_alloc | apply pw_below_drewN | apply below_drew1 | refine below_set ?_ (IsS88.ge HI0.out) | refine below_set ?_ GE630.out | refine below_set ?_ GE631.out) | exact HB.out)); rintro e w16 ⟨rfl, hi, hb, hk⟩; refine ⟨_, rfl, ?_⟩; replace HO_632001 := Aside0.mk (Kd.R_mono (Kd.R_keep (IsS88.apart (show IsS88 w0 _ g s0_0 x1001_1 x1002_1 from by repeat (first | (with_reducible first | exact HI0.out | apply IsS88.alloc | apply IsS88.drewN | apply IsS88.drew | apply IsS88.set_1 | apply IsS88.set_2 | refine IsS88.far ?_ NB0_630.out _ | refine IsS88.far ?_ NB0_631.out _) | exact HI0.out)) (by (with_reducible repeat (first | apply Kd.R_alloc | apply Kd.R_drewN | apply Kd.R_drew)); exact (Kd.R_mono (Kd.R_far (p := ⟨gb631, 0, none⟩) (Kd.R_types HO_632001.out BK631.out (by decide)) (fun _ hk => hk.2) (.int .i64 (wrap64 (x7_1 + 1)))) (fun _ h_ => h_.1))) (by decide)) hk (fun _ h => h.2)) (fun _ h => h.1)); replace BK630 := Aside0.mk (KeepBut.blk hk (g' := gb630) (o := .cells #[.int .i64 0, .slice none 0 0] 30 (0, 0)) (by (with_reducible repeat (first | refine blk_drewN ?_ _ | refine blk_drew ?_ | refine blk_alloc ?_ _)); refine blk_far ?_ NB630_631.out _; exact Bz BK630) NB630_0.out (by simp)); replace BK631 := Aside0.mk (KeepBut.blk hk (g' := gb631) (o := .cells #[.int .i64 (wrap64 (x7_1 + 1)), u632001] 30 (0, 0)) (by (with_reducible repeat (first | refine blk_drewN ?_ _ | refine blk_drew ?_ | refine blk_alloc ?_ _)); refine blk_put (cs := #[.int .i64 x632000_1, u632001]) ?_ 0 _ rfl; exact Bz BK631) NB631_0.out (by simp)); replace HK := Aside0.mk (KeepBut.trans (by repeat (first | (with_reducible first | exact HK.out | apply KeepBut.set_ | apply keep_drewN | apply keep_drew | apply keep_alloc | refine keep_far ?_ GW630.out _ | refine keep_far ?_ GW631.out _) | exact HK.out)) hk (.inl rfl)); replace HB := Aside0.mk (hb); replace HI0 := Aside0.mk (hi); (try clear hb); (try clear hb2); (try clear hk); (try clear hi)) | ((with_reducible refine gate_dst (N := 8) rfl ?_); refine box_event ?hg (N := 8) ?hd (cs := #[.int .i64 0, .int .i64 0]) (t := 57) ?hr ?_; (case hd => rfl); (case hg => rfl); (case hr => first | (go_simp; done) | (go_simp; rfl)); intro gb638 hg w17 hbox hb; replace HO_632001 := Aside0.mk (Kd.R_below (Kd.R_elderB (Rz HO_632001) gb638 (Nat.le_of_eq hg.symm)) hb); replace HB := Aside0.mk (below_step (by repeat (first | (with_reducible first | exact HB.out | apply below_alloc | apply pw_below_drewN | apply below_drew1 | refine below_set ?_ (IsS88.ge HI0.out) | refine below_set ?_ GE630.out | refine below_set ?_ GE631.out) | exact HB.out)) hb); have BK638 := Aside0.mk (hbox); have GW638 := Aside0.mk ((by rw [hg]; exact (keep_size (w := w) (g := g) (row := none) (by repeat (first | (with_reducible first | exact HK.out | apply KeepBut.set_ | apply keep_drewN | apply keep_drew | apply keep_alloc | refine keep_far ?_ GW630.out _ | refine keep_far ?_ GW631.out _) | exact HK.out))) : w.heap.size ≤ gb638)); have GE638 := Aside0.mk ((Nat.le_trans HW0.out (by rw [hg]; exact (keep_size (w := w) (g := g) (row := none) (by repeat (first | (with_reducible first | exact HK.out | apply KeepBut.set_ | apply keep_drewN | apply keep_drew | apply keep_alloc | refine keep_far ?_ GW630.out _ | refine keep_far ?_ GW631.out _) | exact HK.out))) : w.heap.size ≤ gb638) : w0.heap.size ≤ gb638)); replace HK := Aside0.mk (KeepBut.trans (by repeat (first | (with_reducible first | exact HK.out | apply KeepBut.set_ | apply keep_drewN | apply keep_drew | apply keep_alloc | refine keep_far ?_ GW630.out _ | refine keep_far ?_ GW631.out _) | exact HK.out)) (KeepBut.of_below hb g none) (.inl rfl)); have NB630_638 := Aside0.mk ((by rw [hg]; exact Nat.ne_of_lt (blk_lt (g := gb630) (o := .cells #[.int .i64 0, .slice none 0 0] 30 (0, 0)) (Bz BK630)) : gb630 ≠ gb638)); have NB638_630 := Aside0.mk ((by rw [hg]; exact Nat.ne_of_gt (blk_lt (g := gb630) (o := .cells #[.int .i64 0, .slice none 0 0] 30 (0, 0)) (Bz BK630)) : gb638 ≠ gb630)); replace BK630 := Aside0.mk (blk_below (g := gb630) (o := .cells #[.int .i64 0, .slice none 0 0] 30 (0, 0)) (Bz BK630) hb); have NB631_638 := Aside0.mk ((by rw [hg]; exact Nat.ne_of_lt (blk_lt (g := gb631) (o := .cells #[.int .i64 (wrap64 (x7_1 + 1)), u632001] 30 (0, 0)) (Bz BK631)) : gb631 ≠ gb638)); have NB638_631 := Aside0.mk ((by rw [hg]; exact Nat.ne_of_gt (blk_lt (g := gb631) (o := .cells #[.int .i64 (wrap64 (x7_1 + 1)), u632001] 30 (0, 0)) (Bz BK631)) : gb638 ≠ gb631)); replace BK631 := Aside0.mk (blk_below (g := gb631) (o := .cells #[.int .i64 (wrap64 (x7_1 + 1)), u632001] 30 (0, 0)) (Bz BK631) hb); have NB0_638 := Aside0.mk ((by rw [hg]; exact Nat.ne_of_lt (IsS88.lt (show IsS88 w0 _ g s0_0 t636 t637 from by repeat (first | (with_reducible first | exact HI0.out | apply IsS88.alloc | apply IsS88.drewN | apply IsS88.drew | apply IsS88.set_1 | apply IsS88.set_2 | refine IsS88.far ?_ NB0_630.out _ | refine IsS88.far ?_ NB0_631.out _) | exact HI0.out))) : g ≠ gb638)); have NB638_0 := Aside0.mk ((by rw [hg]; exact Nat.ne_of_gt (IsS88.lt (show IsS88 w0 _ g s0_0 t636 t637 from by repeat (first | (with_reducible first | exact HI0.out | apply IsS88.alloc | apply IsS88.drewN | apply IsS88.drew | apply IsS88.set_1 | apply IsS88.set_2 | refine IsS88.far ?_ NB0_630.out _ | refine IsS88.far ?_ NB0_631.out _) | exact HI0.out))) : gb638 ≠ g)); replace HI0 := Aside0.mk (IsS88.below (by repeat (first | (with_reducible first | exact HI0.out | apply IsS88.alloc | apply IsS88.drewN | apply IsS88.drew | apply IsS88.set_1 | apply IsS88.set_2 | refine IsS88.far ?_ NB0_630.out _ | refine IsS88.far ?_ NB0_631.out _) | exact HI0.out)) hb); clear hb hbox hg; have hnb18 := NB638_630.out; have hnc18 := NB630_638.out; have hnb19 := NB638_631.out; have hnc19 := NB631_638.out; have hnb20 := NB638_0.out; have hnc20 := NB0_638.out; have hcz21_0 : w17.cell? ⟨gb638, 0, none⟩ = some (.int .i64 0) := (blk_cell BK638.out 0).trans rfl; have hcz21_1 : w17.cell? ⟨gb638, 1, none⟩ = some (.int .i64 0) := (blk_cell BK638.out 1).trans rfl; have hfz21_0 := blk_frozen BK638.out 0; have hfz21_1 := blk_frozen BK638.out 1; have hcz22_0 : w17.cell? ⟨gb631, 0, none⟩ = some (.int .i64 (wrap64 (x7_1 + 1))) := (blk_cell BK631.out 0).trans rfl; have hcz22_1 : w17.cell? ⟨gb631, 1, none⟩ = some (u632001) := (blk_cell BK631.out 1).trans rfl; have hfz22_0 := blk_frozen BK631.out 0; have hfz22_1 := blk_frozen BK631.out 1) | ((with_reducible refine gate_builtin (b := .append) (xs := #[.tmp 37, .tmp 39]) rfl ?_); at_builtin; refine Kd.R_append k57 w.heap.size rfl (.tmp 37) (.tmp 39) 28 57 (.agg #[(.int .i64 0), (.int .i64 0)]) 16 rfl Try.underlying28 info57 rfl (by decide) (by omega) u632001 x632001_1 (⟨t635, x7_1⟩ : S57) [.int .i64 t635, .int .i64 x7_1] (fun k_ => k_ ≠ gb638) (fun _ => False) rfl (by first | (go_simp; done) | (go_simp; rfl)) ?aP (fun _ hk => hk.elim) ?aF ?aO (Below.refl _ _) ?aS ?aL ?_; (case aP => exact k57_mkM _ _ _ (⟨t635, x7_1⟩ : S57)); (case aF => exact (fun k_ hk => Kd.freshB (g := gb638) (o := .cells #[.int .i64 t635, .int .i64 x7_1] 57 (0, 0)) (by (with_reducible repeat (first | refine blk_drewN ?_ _ | refine blk_drew ?_ | refine blk_alloc ?_ _)); refine blk_put (cs := #[.int .i64 t635, .int .i64 0]) ?_ 1 _ rfl; (with_reducible repeat (first | refine blk_drewN ?_ _ | refine blk_drew ?_ | refine blk_alloc ?_ _)); refine blk_put (cs := #[.int .i64 0, .int .i64 0]) ?_ 0 _ rfl; exact Bz BK638) k_ hk)); (case aO => exact (by (with_reducible repeat (first | apply Kd.R_alloc | apply Kd.R_drewN | apply Kd.R_drew)); exact Kd.R_mono (Kd.R_far (p := ⟨gb638, 1, none⟩) (Kd.R_far (p := ⟨gb638, 0, none⟩) (Kd.R_mono HO_632001.out (fun k_ hk => (⟨hk, hk.2⟩ : _ ∧ k_ ≠ gb638))) (fun _ hk => hk.2) (.int .i64 t635)) (fun _ hk => hk.2) (.int .i64 x7_1)) (fun _ hk => hk.1.2))); (case aS => exact (keep_size (w := w) (g := g) (row := none) (by repeat (first | (with_reducible first | exact HK.out | apply KeepBut.set_ | apply keep_drewN | apply keep_drew | apply keep_alloc | refine keep_far ?_ GW630.out _ | refine keep_far ?_ GW631.out _ | refine keep_far ?_ GW638.out _) | exact HK.out)))); (case aL => have := LMc12.out; omega); intro v640 w23 ho hb hg hat; rw [← Ny639.out] at ho; replace BK630 := Aside0.mk (blk_grown (g := gb630) (o := .cells #[.int .i64 0, .slice none 0 0] 30 (0, 0)) (by (with_reducible repeat (first | refine blk_drewN ?_ _ | refine blk_drew ?_ | refine blk_alloc ?_ _)); refine blk_far ?_ NB630_638.out _; (with_reducible repeat (first | refine blk_drewN ?_ _ | refine blk_drew ?_ | refine blk_alloc ?_ _)); refine blk_far ?_ NB630_638.out _; exact Bz BK630) hg (Kd.R_ne HO_632001.out BK630.out (by decide))); replace BK631 := Aside0.mk (blk_grown (g := gb631) (o := .cells #[.int .i64 (wrap64 (x7_1 + 1)), u632001] 30 (0, 0)) (by (with_reducible repeat (first | refine blk_drewN ?_ _ | refine blk_drew ?_ | refine blk_alloc ?_ _)); refine blk_far ?_ NB631_638.out _; (with_reducible repeat (first | refine blk_drewN ?_ _ | refine blk_drew ?_ | refine blk_alloc ?_ _)); refine blk_far ?_ NB631_638.out _; exact Bz BK631) hg (Kd.R_ne HO_632001.out BK631.out (by decide))); replace BK638 := Aside0.mk (blk_grown (g := gb638) (o := .cells #[.int .i64 t635, .int .i64 x7_1] 57 (0, 0)) (by (with_reducible repeat (first | refine blk_drewN ?_ _ | refine blk_drew ?_ | refine blk_alloc ?_ _)); refine blk_put (cs := #[.int .i64 t635, .int .i64 0]) ?_ 1 _ rfl; (with_reducible repeat (first | refine blk_drewN ?_ _ | refine blk_drew ?_ | refine blk_alloc ?_ _)); refine blk_put (cs := #[.int .i64 0, .int .i64 0]) ?_ 0 _ rfl; exact Bz BK638) hg (Kd.R_away HO_632001.out (fun _ hk => hk.2))); replace HB := Aside0.mk (below_weaken (by repeat (first | (with_reducible first | exact HB.out | apply below_alloc | apply pw_below_drewN | apply below_drew1 | refine below_set ?_ (IsS88.ge HI0.out) | refine below_set ?_ GE630.out | refine below_set ?_ GE631.out | refine below_set ?_ GE638.out) | exact HB.out)) HL.out hb); replace HI0 := Aside0.mk (IsS88.grownF HI0.out (by repeat (first | (with_reducible first | exact HI0.out | apply IsS88.alloc | apply IsS88.drewN | apply IsS88.drew | apply IsS88.set_1 | apply IsS88.set_2 | refine IsS88.far ?_ NB0_630.out _ | refine IsS88.far ?_ NB0_631.out _ | refine IsS88.far ?_ NB0_638.out _) | exact HI0.out)) hg (IsS88.own_ne HI0.out HO_632001.out (by decide))); replace HK := Aside0.mk (KeepBut.trans (by repeat (first | (with_reducible first | exact HK.out | apply KeepBut.set_ | apply keep_drewN | apply keep_drew | apply keep_alloc | refine keep_far ?_ GW630.out _ | refine keep_far ?_ GW631.out _ | refine keep_far ?_ GW638.out _) | exact HK.out)) (KeepBut.of_grown hg g) (Kd.R_base2 HO_632001.out)); have HO641 := Aside0.mk (ho); clear HO_632001; clear ho hb hg hat; obtain ⟨Ao24, co24, eo24⟩ := Kd.R_slice HO641.out; subst eo24; have hcz25_0 : w23.cell? ⟨gb631, 0, none⟩ = some (.int .i64 (wrap64 (x7_1 + 1))) := (blk_cell BK631.out 0).trans rfl; have hcz25_1 : w23.cell? ⟨gb631, 1, none⟩ = some (u632001) := (blk_cell BK631.out 1).trans rfl; have hfz25_0 := blk_frozen BK631.out 0; have hfz25_1 := blk_frozen BK631.out 1))
     go_roundg k1
     case measure => have := HK1.out; omega
     case rel => exact ⟨(wrap64 (x7_1 + 1)), (t636), (t637), (wrap64 (x7_1 + 1)), (y639), (.slice Ao24 y639.length co24), eqA, H', ⟨by have := HK1.out; omega⟩, ⟨by (with_reducible repeat (first | apply Kd.R_alloc | apply Kd.R_drewN | apply Kd.R_drew)); exact Kd.R_mono (Kd.R_far (p := ⟨gb631, 1, none⟩) (Kd.R_types HO641.out BK631.out (by decide)) (fun _ hk => hk.2) (.slice Ao24 y639.length co24)) (fun _ hk => trivial)⟩, ⟨by (with_reducible repeat (first | refine blk_drewN ?_ _ | refine blk_drew ?_ | refine blk_alloc ?_ _)); refine blk_far ?_ NB630_631.out _; exact Bz BK630⟩, ⟨by (with_reducible repeat (first | refine blk_drewN ?_ _ | refine blk_drew ?_ | refine blk_alloc ?_ _)); refine blk_put (cs := #[.int .i64 (wrap64 (x7_1 + 1)), u632001]) ?_ 1 _ rfl; exact Bz BK631⟩, ⟨by repeat (first | (with_reducible first | exact HI0.out | apply IsS88.alloc | apply IsS88.drewN | apply IsS88.drew | apply IsS88.set_1 | apply IsS88.set_2 | refine IsS88.far ?_ NB0_630.out _ | refine IsS88.far ?_ NB0_631.out _ | refine IsS88.far ?_ NB0_638.out _) | exact HI0.out)⟩, ⟨by repeat (first | (with_reducible first | exact HK.out | apply KeepBut.set_ | apply keep_drewN | apply keep_drew | apply keep_alloc | refine keep_far ?_ GW630.out _ | refine keep_far ?_ GW631.out _ | refine keep_far ?_ GW638.out _) | exact HK.out)⟩, ⟨by repeat (first | (with_reducible first | exact HB.out | apply below_alloc | apply pw_below_drewN | apply below_drew1 | refine below_set ?_ (IsS88.ge HI0.out) | refine below_set ?_ GE630.out | refine below_set ?_ GE631.out | refine below_set ?_ GE638.out) | exact HB.out)⟩⟩
    rw [if_neg c12] at H
    exact absurd H (by simp)
   rw [if_neg c10] at H
   have c10b0 : decide (x7_1 < (wrap64 (2 + t632))) = false := decide_eq_false c10
   clear c10
   have H' := Aside0.mk H
   clear H
   go_wp2_with (first | ((with_reducible refine gate_dst (N := 9) rfl ?_); refine box_event ?hg (N := 9) ?hd (cs := #[.int .i64 0, .slice none 0 0]) (t := 30) ?hr ?_; (case hd => rfl); (case hg => rfl); (case hr => first | (go_simp; done) | (go_simp; rfl)); intro gb642 hg w26 hbox hb; replace HO_632001 := Aside0.mk (Kd.R_below (Rz HO_632001) hb); replace HB := Aside0.mk (below_step (by repeat (first | (with_reducible first | exact HB.out | apply below_alloc | apply pw_below_drewN | apply below_drew1 | refine below_set ?_ (IsS88.ge HI0.out) | refine below_set ?_ GE630.out | refine below_set ?_ GE631.out) | exact HB.out)) hb); have BK642 := Aside0.mk (hbox); have GW642 := Aside0.mk ((by rw [hg]; exact (keep_size (w := w) (g := g) (row := none) (by repeat (first | (with_reducible first | exact HK.out | apply KeepBut.set_ | apply keep_drewN | apply keep_drew | apply keep_alloc | refine keep_far ?_ GW630.out _ | refine keep_far ?_ GW631.out _) | exact HK.out))) : w.heap.size ≤ gb642)); have GE642 := Aside0.mk ((Nat.le_trans HW0.out (by rw [hg]; exact (keep_size (w := w) (g := g) (row := none) (by repeat (first | (with_reducible first | exact HK.out | apply KeepBut.set_ | apply keep_drewN | apply keep_drew | apply keep_alloc | refine keep_far ?_ GW630.out _ | refine keep_far ?_ GW631.out _) | exact HK.out))) : w.heap.size ≤ gb642) : w0.heap.size ≤ gb642)); replace HK := Aside0.mk (KeepBut.trans (by repeat (first | (with_reducible first | exact HK.out | apply KeepBut.set_ | apply keep_drewN | apply keep_drew | apply keep_alloc | refine keep_far ?_ GW630.out _ | refine keep_far ?_ GW631.out _) | exact HK.out)) (KeepBut.of_below hb g none) (.inl rfl)); have NB630_642 := Aside0.mk ((by rw [hg]; exact Nat.ne_of_lt (blk_lt (g := gb630) (o := .cells #[.int .i64 0, .slice none 0 0] 30 (0, 0)) (Bz BK630)) : gb630 ≠ gb642)); have NB642_630 := Aside0.mk ((by rw [hg]; exact Nat.ne_of_gt (blk_lt (g := gb630) (o := .cells #[.int .i64 0, .slice none 0 0] 30 (0, 0)) (Bz BK630)) : gb642 ≠ gb630)); replace BK630 := Aside0.mk (blk_below (g := gb630) (o := .cells #[.int .i64 0, .slice none 0 0] 30 (0, 0)) (Bz BK630) hb); have NB631_642 := Aside0.mk ((by rw [hg]; exact Nat.ne_of_lt (blk_lt (g := gb631) (o := .cells #[.int .i64 x632000_1, u632001] 30 (0, 0)) (Bz BK631)) : gb631 ≠ gb642)); have NB642_631 := Aside0.mk ((by rw [hg]; exact Nat.ne_of_gt (blk_lt (g := gb631) (o := .cells #[.int .i64 x632000_1, u632001] 30 (0, 0)) (Bz BK631)) : gb642 ≠ gb631)); replace BK631 := Aside0.mk (blk_below (g := gb631) (o := .cells #[.int .i64 x632000_1, u632001] 30 (0, 0)) (Bz BK631) hb); have NB0_642 := Aside0.mk ((by rw [hg]; exact Nat.ne_of_lt (IsS88.lt (show IsS88 w0 _ g s0_0 x1001_1 x1002_1 from by repeat (first | (with_reducible first | exact HI0.out | apply IsS88.alloc | apply IsS88.drewN | apply IsS88.drew | apply IsS88.set_1 | apply IsS88.set_2 | refine IsS88.far ?_ NB0_630.out _ | refine IsS88.far ?_ NB0_631.out _) | exact HI0.out))) : g ≠ gb642)); have NB642_0 := Aside0.mk ((by rw [hg]; exact Nat.ne_of_gt (IsS88.lt (show IsS88 w0 _ g s0_0 x1001_1 x1002_1 from by repeat (first | (with_reducible first | exact HI0.out | apply IsS88.alloc | apply IsS88.drewN | apply IsS88.drew | apply IsS88.set_1 | apply IsS88.set_2 | refine IsS88.far ?_ NB0_630.out _ | refine IsS88.far ?_ NB0_631.out _) | exact HI0.out))) : gb642 ≠ g)); replace HI0 := Aside0.mk (IsS88.below (by repeat (first | (with_reducible first | exact HI0.out | apply IsS88.alloc | apply IsS88.drewN | apply IsS88.drew | apply IsS88.set_1 | apply IsS88.set_2 | refine IsS88.far ?_ NB0_630.out _ | refine IsS88.far ?_ NB0_631.out _) | exact HI0.out)) hb); clear hb hbox hg; have hnb27 := NB642_630.out; have hnc27 := NB630_642.out; have hnb28 := NB642_631.out; have hnc28 := NB631_642.out; have hnb29 := NB642_0.out; have hnc29 := NB0_642.out; have hcz30_0 : w26.cell? ⟨gb642, 0, none⟩ = some (.int .i64 0) := (blk_cell BK642.out 0).trans rfl; have hcz30_1 : w26.cell? ⟨gb642, 1, none⟩ = some (.slice none 0 0) := (blk_cell BK642.out 1).trans rfl; have hfz30_0 := blk_frozen BK642.out 0; have hfz30_1 := blk_frozen BK642.out 1))
   go_loopg [10] k1 (fun kq v10 w' => ∃ (x10_2 : Int) (x643001_2 : List (S57)) (u643001 : Value), v10 = .int .i64 x10_2 ∧ Aside0 (spec_l02Draw.l1 kq (wrap64 (2 + t632)) x10_2 s0_0 x1001_1 x1002_1 x632000_1 x632001_1 (wrap64 (2 + t632)) x643001_2 = some (r1, r2, r3, r4)) ∧ Aside0 (kq ≤ k1) ∧ Aside0 (Kd.R k57 57 w' w.heap.size (fun k_ => some k_ ≠ (u643001 : Value).ownBlock) u632001 x632001_1) ∧ Aside0 (Kd.R k57 57 w' w.heap.size (fun k_ => some k_ ≠ (u632001 : Value).ownBlock) u643001 x643001_2) ∧ Aside0 (w'.heap[gb630]? = some (.cells #[.int .i64 0, (.slice none 0 0)] 30 (0, 0))) ∧ Aside0 (w'.heap[gb631]? = some (.cells #[.int .i64 x632000_1, u632001] 30 (0, 0))) ∧ Aside0 (w'.heap[gb642]? = some (.cells #[.int .i64 (wrap64 (2 + t632)), u643001] 30 (0, 0))) ∧ Aside0 (IsS88 w0 w' g s0_0 x1001_1 x1002_1) ∧ Aside0 (KeepBut w w' g none) ∧ Aside0 (Below w0.heap.size w0 w'))
   case atStart => exact ⟨(0), (([] : List (S57))), (.slice none 0 0), eqA, H', ⟨Nat.le_refl _⟩, ⟨by (with_reducible repeat (first | apply Kd.R_alloc | apply Kd.R_drewN | apply Kd.R_drew)); exact Kd.R_mono (Kd.R_far (p := ⟨gb642, 1, none⟩) (Kd.R_far (p := ⟨gb642, 0, none⟩) (Kd.R_types HO_632001.out BK642.out (by decide)) (fun _ hk => hk.2) (.int .i64 (wrap64 (2 + t632)))) (fun _ hk => hk.2) (.slice none 0 0)) (fun _ hk => (by simp [Value.ownBlock]))⟩, ⟨by first | exact Kd.R_nil _ _ _ _ _ | exact Kd.N_nil _ _ _ _ _ | exact Kd.V_nil _ _ _ _ _ | exact Kd.Q_nil _ _ _ _ _ | exact Kd.S_nil _ _ _ _ _⟩, ⟨by (with_reducible repeat (first | refine blk_drewN ?_ _ | refine blk_drew ?_ | refine blk_alloc ?_ _)); refine blk_far ?_ NB630_642.out _; (with_reducible repeat (first | refine blk_drewN ?_ _ | refine blk_drew ?_ | refine blk_alloc ?_ _)); refine blk_far ?_ NB630_642.out _; exact Bz BK630⟩, ⟨by (with_reducible repeat (first | refine blk_drewN ?_ _ | refine blk_drew ?_ | refine blk_alloc ?_ _)); refine blk_far ?_ NB631_642.out _; (with_reducible repeat (first | refine blk_drewN ?_ _ | refine blk_drew ?_ | refine blk_alloc ?_ _)); refine blk_far ?_ NB631_642.out _; exact Bz BK631⟩, ⟨by (with_reducible repeat (first | refine blk_drewN ?_ _ | refine blk_drew ?_ | refine blk_alloc ?_ _)); refine blk_put (cs := #[.int .i64 (wrap64 (2 + t632)), .slice none 0 0]) ?_ 1 _ rfl; (with_reducible repeat (first | refine blk_drewN ?_ _ | refine blk_drew ?_ | refine blk_alloc ?_ _)); refine blk_put (cs := #[.int .i64 0, .slice none 0 0]) ?_ 0 _ rfl; exact Bz BK642⟩, ⟨by repeat (first | (with_reducible first | exact HI0.out | apply IsS88.alloc | apply IsS88.drewN | apply IsS88.drew | apply IsS88.set_1 | apply IsS88.set_2 | refine IsS88.far ?_ NB0_630.out _ | refine IsS88.far ?_ NB0_631.out _ | refine IsS88.far ?_ NB0_642.out _) | exact HI0.out)⟩, ⟨by repeat (first | (with_reducible first | exact HK.out | apply KeepBut.set_ | apply keep_drewN | apply keep_drew | apply keep_alloc | refine keep_far ?_ GW630.out _ | refine keep_far ?_ GW631.out _ | refine keep_far ?_ GW642.out _) | exact HK.out)⟩, ⟨by repeat (first | (with_reducible first | exact HB.out | apply below_alloc | apply pw_below_drewN | apply below_drew1 | refine below_set ?_ (IsS88.ge HI0.out) | refine below_set ?_ GE630.out | refine below_set ?_ GE631.out | refine below_set ?_ GE642.out) | exact HB.out)⟩⟩
   case round =>
    clear H'
    try clear c10
    try clear c10b0
    try clear c12
    obtain ⟨x10_2, x643001_2, u643001, rfl, HA, HK2, HO_632001, HO_643001, BK630, BK631, BK642, HI0, HK, HB⟩ := hrel
    cases gk with
    | zero => exact absurd HA.out (by simp [spec_l02Draw.l1])
    | succ k2 =>
     have H := HA.out
     clear HA
     simp only [spec_l02Draw.l1] at H
     by_cases c31 : x10_2 < (wrap64 (2 + t632))
     ·rw [if_pos c31] at H
      have c31b0 : decide (x10_2 < (wrap64 (2 + t632))) = true := decide_eq_true c31
      clear c31
      have H' := Aside0.mk H
      clear H
      go_wp2
      go_loopg [11] k2 (fun kq v11 w' => ∃ (x11_3 : Int) (x643001_3 : List (S57)) (u643001 : Value), v11 = .int .i64 x11_3 ∧ Aside0 (spec_l02Draw.l2 kq (wrap64 (2 + t632)) x10_2 x11_3 s0_0 x1001_1 x1002_1 x632000_1 x632001_1 (wrap64 (2 + t632)) x643001_3 = some (r1, r2, r3, r4)) ∧ Aside0 (kq ≤ k2) ∧ Aside0 (Kd.R k57 57 w' w.heap.size (fun k_ => some k_ ≠ (u643001 : Value).ownBlock) u632001 x632001_1) ∧ Aside0 (Kd.R k57 57 w' w.heap.size (fun k_ => some k_ ≠ (u632001 : Value).ownBlock) u643001 x643001_3) ∧ Aside0 (w'.heap[gb630]? = some (.cells #[.int .i64 0, (.slice none 0 0)] 30 (0, 0))) ∧ Aside0 (w'.heap[gb631]? = some (.cells #[.int .i64 x632000_1, u632001] 30 (0, 0))) ∧ Aside0 (w'.heap[gb642]? = some (.cells #[.int .i64 (wrap64 (2 + t632)), u643001] 30 (0, 0))) ∧ Aside0 (IsS88 w0 w' g s0_0 x1001_1 x1002_1) ∧ Aside0 (KeepBut w w' g none) ∧ Aside0 (Below w0.heap.size w0 w'))
      case atStart => exact ⟨(wrap64 (x10_2 + 1)), (x643001_2), (u643001), eqA, H', ⟨Nat.le_refl _⟩, ⟨by exact Rz HO_632001⟩, ⟨by exact Rz HO_643001⟩, ⟨by exact Bz BK630⟩, ⟨by exact Bz BK631⟩, ⟨by exact Bz BK642⟩, ⟨by repeat (first | (with_reducible first | exact HI0.out | apply IsS88.alloc | apply IsS88.drewN | apply IsS88.drew | apply IsS88.set_1 | apply IsS88.set_2 | refine IsS88.far ?_ NB0_630.out _ | refine IsS88.far ?_ NB0_631.out _ | refine IsS88.far ?_ NB0_642.out _) | exact HI0.out)⟩, ⟨by repeat (first | (with_reducible first | exact HK.out | apply KeepBut.set_ | apply keep_drewN | apply keep_drew | apply keep_alloc | refine keep_far ?_ GW630.out _ | refine keep_far ?_ GW631.out _ | refine keep_far ?_ GW642.out _) | exact HK.out)⟩, ⟨by repeat (first | (with_reducible first | exact HB.out | apply below_alloc | apply pw_below_drewN | apply below_drew1 | refine below_set ?_ (IsS88.ge HI0.out) | refine below_set ?_ GE630.out | refine below_set ?_ GE631.out | refine below_set ?_ GE642.out) | exact HB.out)⟩⟩
      case round =>
       clear H'
       try clear c10
       try clear c10b0
       try clear c12
       try clear c31
       try clear c31b0
       obtain ⟨x11_3, x643001_3, u643001, rfl, HA, HK3, HO_632001, HO_643001, BK630, BK631, BK642, HI0, HK, HB⟩ := hrel
       cases gk with
       | zero => exact absurd HA.out (by simp [spec_l02Draw.l2])
       | succ k3 =>
        have H := HA.out
        clear HA
        simp only [spec_l02Draw.l2] at H
        by_cases c32 : x11_3 < (wrap64 (2 + t632))
        ·rw [if_pos c32] at H
         have c32b0 : decide (x11_3 < (wrap64 (2 + t632))) = true := decide_eq_true c32
         clear c32
         replace H := Option.bind_eq_some_iff.mp H
         obtain ⟨t643, A330, H⟩ := H
         replace H : (spec_l02Draw.l3 k3 (wrap64 (2 + t632)) x10_2 x11_3 t643 s0_0 x1001_1 x1002_1 x632000_1 x632001_1 (wrap64 (2 + t632)) x643001_3) = some (r1, r2, r3, r4) := H
         have A33 := Aside0.mk A330
         clear A330
         have H' := Aside0.mk H
         clear H
         have hnb34 := NB631_630.out
         have hnc34 := NB630_631.out
         have hnb35 := NB631_642.out
         have hnc35 := NB642_631.out
         have hnb36 := NB631_0.out
         have hnc36 := NB0_631.out
         have hcz37_0 : wr.cell? ⟨gb631, 0, none⟩ = some (.int .i64 x632000_1) := (blk_cell BK631.out 0).trans rfl
         have hcz37_1 : wr.cell? ⟨gb631, 1, none⟩ = some (u632001) := (blk_cell BK631.out 1).trans rfl
         have hfz37_0 := blk_frozen BK631.out 0
         have hfz37_1 := blk_frozen BK631.out 1
         obtain ⟨Ao38, co38, eo38⟩ := Kd.R_slice HO_632001.out
         subst eo38
         go_wp2_with (first | ((with_reducible refine gate_callee (f := 49) rfl ?_); refine goesM_ (some 59) rfl rfl Try.func49 (by kernel_rfl) rfl #[.agg #[.int .i64 x632000_1, .slice Ao38 x632001_1.length co38], .int .i64 x10_2, .int .i64 x11_3] rfl ?_; (with_reducible refine (spec_Multiplicity.calls k3 x632000_1 _ _ x632001_1 x10_2 x11_3 t643 _ ?side1 ?side2 A33.out).mono ?_); (case side1 => exact Cz ((Kd.R_reads' HO_632001.out).2.2)); (case side2 => exact (Kd.R_reads' HO_632001.out).2.1); rintro e w39 ⟨rfl, hb⟩; refine ⟨_, rfl, ?_⟩; replace HO_632001 := Aside0.mk (Kd.R_below (Rz HO_632001) hb); replace HO_643001 := Aside0.mk (Kd.R_below (Rz HO_643001) hb); replace BK630 := Aside0.mk (blk_below (g := gb630) (o := .cells #[.int .i64 0, .slice none 0 0] 30 (0, 0)) (Bz BK630) hb); replace BK631 := Aside0.mk (blk_below (g := gb631) (o := .cells #[.int .i64 x632000_1, .slice Ao38 x632001_1.length co38] 30 (0, 0)) (Bz BK631) hb); replace BK642 := Aside0.mk (blk_below (g := gb642) (o := .cells #[.int .i64 (wrap64 (2 + t632)), u643001] 30 (0, 0)) (Bz BK642) hb); replace HK := Aside0.mk (KeepBut.trans (by repeat (first | (with_reducible first | exact HK.out | apply KeepBut.set_ | apply keep_drewN | apply keep_drew | apply keep_alloc | refine keep_far ?_ GW630.out _ | refine keep_far ?_ GW631.out _ | refine keep_far ?_ GW642.out _) | exact HK.out)) (KeepBut.of_below hb g none) (.inl rfl)); replace HB := Aside0.mk (below_step (by repeat (first | (with_reducible first | exact HB.out | apply below_alloc | apply pw_below_drewN | apply below_drew1 | refine below_set ?_ (IsS88.ge HI0.out) | refine below_set ?_ GE630.out | refine below_set ?_ GE631.out | refine below_set ?_ GE642.out) | exact HB.out)) hb); replace HI0 := Aside0.mk (IsS88.below (by repeat (first | (with_reducible first | exact HI0.out | apply IsS88.alloc | apply IsS88.drewN | apply IsS88.drew | apply IsS88.set_1 | apply IsS88.set_2 | refine IsS88.far ?_ NB0_630.out _ | refine IsS88.far ?_ NB0_631.out _ | refine IsS88.far ?_ NB0_642.out _) | exact HI0.out)) hb); (try clear hb); (try clear hb2); (try clear hk); (try clear hi)))
         go_loopg [12] k3 (fun kq v12 w' => ∃ (x12_4 : Int) (x643001_4 : List (S57)) (u643001 : Value), v12 = .int .i64 x12_4 ∧ Aside0 (spec_l02Draw.l3 kq (wrap64 (2 + t632)) x10_2 x11_3 x12_4 s0_0 x1001_1 x1002_1 x632000_1 x632001_1 (wrap64 (2 + t632)) x643001_4 = some (r1, r2, r3, r4)) ∧ Aside0 (kq ≤ k3) ∧ Aside0 (Kd.R k57 57 w' w.heap.size (fun k_ => some k_ ≠ (u643001 : Value).ownBlock) (.slice Ao38 x632001_1.length co38) x632001_1) ∧ Aside0 (Kd.R k57 57 w' w.heap.size (fun k_ => some k_ ≠ ((.slice Ao38 x632001_1.length co38) : Value).ownBlock) u643001 x643001_4) ∧ Aside0 (w'.heap[gb630]? = some (.cells #[.int .i64 0, (.slice none 0 0)] 30 (0, 0))) ∧ Aside0 (w'.heap[gb631]? = some (.cells #[.int .i64 x632000_1, (.slice Ao38 x632001_1.length co38)] 30 (0, 0))) ∧ Aside0 (w'.heap[gb642]? = some (.cells #[.int .i64 (wrap64 (2 + t632)), u643001] 30 (0, 0))) ∧ Aside0 (IsS88 w0 w' g s0_0 x1001_1 x1002_1) ∧ Aside0 (KeepBut w w' g none) ∧ Aside0 (Below w0.heap.size w0 w'))
         case atStart => exact ⟨(t643), (x643001_3), (u643001), eqA, H', ⟨Nat.le_refl _⟩, ⟨by exact Rz HO_632001⟩, ⟨by exact Rz HO_643001⟩, ⟨by exact Bz BK630⟩, ⟨by exact Bz BK631⟩, ⟨by exact Bz BK642⟩, ⟨by repeat (first | (with_reducible first | exact HI0.out | apply IsS88.alloc | apply IsS88.drewN | apply IsS88.drew | apply IsS88.set_1 | apply IsS88.set_2 | refine IsS88.far ?_ NB0_630.out _ | refine IsS88.far ?_ NB0_631.out _ | refine IsS88.far ?_ NB0_642.out _) | exact HI0.out)⟩, ⟨by repeat (first | (with_reducible first | exact HK.out | apply KeepBut.set_ | apply keep_drewN | apply keep_drew | apply keep_alloc | refine keep_far ?_ GW630.out _ | refine keep_far ?_ GW631.out _ | refine keep_far ?_ GW642.out _) | exact HK.out)⟩, ⟨by repeat (first | (with_reducible first | exact HB.out | apply below_alloc | apply pw_below_drewN | apply below_drew1 | refine below_set ?_ (IsS88.ge HI0.out) | refine below_set ?_ GE630.out | refine below_set ?_ GE631.out | refine below_set ?_ GE642.out) | exact HB.out)⟩⟩
         case round =>
          clear H'
          try clear c10
          try clear c10b0
          try clear c12
          try clear c31
          try clear c31b0
          try clear c32
          try clear c32b0
          obtain ⟨x12_4, x643001_4, u643001, rfl, HA, HK4, HO_632001, HO_643001, BK630, BK631, BK642, HI0, HK, HB⟩ := hrel
          cases gk with
          | zero => exact absurd HA.out (by simp [spec_l02Draw.l3])
          | succ k4 =>
           have H := HA.out
           clear HA
           simp only [spec_l02Draw.l3] at H
           by_cases c40 : x12_4 > 0
           ·rw [if_pos c40] at H
            have c40b0 : decide (0 < x12_4) = true := decide_eq_true c40
            clear c40
            by_cases c41 : x643001_4.length < 8796093022208
            ·rw [if_pos c41] at H
             have LMc41 := Aside0.mk c41
             clear c41
             obtain ⟨y644, hy644⟩ : ∃ y_ : List (S57), y_ = (x643001_4 ++ [(⟨x10_2, x11_3⟩ : S57)]) := ⟨_, rfl⟩
             replace H : (spec_l02Draw.l3 k4 (wrap64 (2 + t632)) x10_2 x11_3 (wrap64 (x12_4 - 1)) s0_0 x1001_1 x1002_1 x632000_1 x632001_1 (wrap64 (2 + t632)) y644) = some (r1, r2, r3, r4) := by first | (rw [hy644]; with_reducible exact H) | (have H2_ := (Option.bind_some _ _).symm.trans H; rw [hy644]; with_reducible exact H2_) | (have H2_ := (Option.bind_some _ _).symm.trans H; with_reducible exact H2_) | with_reducible exact H | (rw [hy644]; exact H) | exact H
             have Ny644 := Aside0.mk hy644
             clear hy644
             have H' := Aside0.mk H
             clear H
             have hnb42 := NB642_630.out
             have hnc42 := NB630_642.out
             have hnb43 := NB642_631.out
             have hnc43 := NB631_642.out
             have hnb44 := NB642_0.out
             have hnc44 := NB0_642.out
             have hcz45_0 : wr.cell? ⟨gb642, 0, none⟩ = some (.int .i64 (wrap64 (2 + t632))) := (blk_cell BK642.out 0).trans rfl
             have hcz45_1 : wr.cell? ⟨gb642, 1, none⟩ = some (u643001) := (blk_cell BK642.out 1).trans rfl
             have hfz45_0 := blk_frozen BK642.out 0
             have hfz45_1 := blk_frozen BK642.out 1
             go_wp2_with (first | ((with_reducible refine gate_builtin (b := .append) (xs := #[.tmp 65, .tmp 69]) rfl ?_); at_builtin; refine Kd.R_append k57 w.heap.size rfl (.tmp 65) (.tmp 69) 28 57 (.agg #[(.int .i64 0), (.int .i64 0)]) 16 rfl Try.underlying28 info57 rfl (by decide) (by omega) u643001 x643001_4 (⟨x10_2, x11_3⟩ : S57) [.int .i64 x10_2, .int .i64 x11_3] (fun k_ => some k_ ≠ (.slice Ao38 x632001_1.length co38 : Value).ownBlock) (fun _ => False) rfl rfl ?aP (fun _ hk => hk.elim) ?aF ?aO (Below.refl _ _) ?aS ?aL ?_; (case aP => exact k57_mkM _ _ _ (⟨x10_2, x11_3⟩ : S57)); (case aF => exact (fun k_ hk => Kd.fresh' (Kd.R_lt (Rz HO_632001)) k_ hk)); (case aO => exact (Rz HO_643001)); (case aS => exact (keep_size (w := w) (g := g) (row := none) (by repeat (first | (with_reducible first | exact HK.out | apply KeepBut.set_ | apply keep_drewN | apply keep_drew | apply keep_alloc | refine keep_far ?_ GW630.out _ | refine keep_far ?_ GW631.out _ | refine keep_far ?_ GW642.out _) | exact HK.out)))); (case aL => have := LMc41.out; omega); intro v645 w46 ho hb hg hat; rw [← Ny644.out] at ho; replace HO_632001 := Aside0.mk (Kd.R_after (ok := (fun _ => True)) (by (with_reducible repeat (first | apply Kd.R_alloc | apply Kd.R_drewN | apply Kd.R_drew)); exact Kd.R_mono HO_632001.out (fun _ hk => ⟨trivial, hk⟩)) hg hat); replace BK630 := Aside0.mk (blk_grown (g := gb630) (o := .cells #[.int .i64 0, .slice none 0 0] 30 (0, 0)) (Bz BK630) hg (Kd.R_ne HO_643001.out BK630.out (by decide))); replace BK631 := Aside0.mk (blk_grown (g := gb631) (o := .cells #[.int .i64 x632000_1, .slice Ao38 x632001_1.length co38] 30 (0, 0)) (Bz BK631) hg (Kd.R_ne HO_643001.out BK631.out (by decide))); replace BK642 := Aside0.mk (blk_grown (g := gb642) (o := .cells #[.int .i64 (wrap64 (2 + t632)), u643001] 30 (0, 0)) (Bz BK642) hg (Kd.R_ne HO_643001.out BK642.out (by decide))); replace HB := Aside0.mk (below_weaken (by repeat (first | (with_reducible first | exact HB.out | apply below_alloc | apply pw_below_drewN | apply below_drew1 | refine below_set ?_ (IsS88.ge HI0.out) | refine below_set ?_ GE630.out | refine below_set ?_ GE631.out | refine below_set ?_ GE642.out) | exact HB.out)) HL.out hb); replace HI0 := Aside0.mk (IsS88.grownF HI0.out (by repeat (first | (with_reducible first | exact HI0.out | apply IsS88.alloc | apply IsS88.drewN | apply IsS88.drew | apply IsS88.set_1 | apply IsS88.set_2 | refine IsS88.far ?_ NB0_630.out _ | refine IsS88.far ?_ NB0_631.out _ | refine IsS88.far ?_ NB0_642.out _) | exact HI0.out)) hg (IsS88.own_ne HI0.out HO_643001.out (by decide))); replace HK := Aside0.mk (KeepBut.trans (by repeat (first | (with_reducible first | exact HK.out | apply KeepBut.set_ | apply keep_drewN | apply keep_drew | apply keep_alloc | refine keep_far ?_ GW630.out _ | refine keep_far ?_ GW631.out _ | refine keep_far ?_ GW642.out _) | exact HK.out)) (KeepBut.of_grown hg g) (Kd.R_base2 HO_643001.out)); have HO646 := Aside0.mk (ho); clear HO_643001; clear ho hb hg hat; obtain ⟨Ao47, co47, eo47⟩ := Kd.R_slice HO646.out; subst eo47; have hcz48_0 : w46.cell? ⟨gb642, 0, none⟩ = some (.int .i64 (wrap64 (2 + t632))) := (blk_cell BK642.out 0).trans rfl; have hcz48_1 : w46.cell? ⟨gb642, 1, none⟩ = some (u643001) := (blk_cell BK642.out 1).trans rfl; have hfz48_0 := blk_frozen BK642.out 0; have hfz48_1 := blk_frozen BK642.out 1))
             go_roundg k4
             case measure => have := HK1.out; have := HK2.out; have := HK3.out; have := HK4.out; omega
             case rel => exact ⟨(wrap64 (x12_4 - 1)), (y644), (.slice Ao47 y644.length co47), eqA, H', ⟨by have := HK1.out; have := HK2.out; have := HK3.out; have := HK4.out; omega⟩, ⟨by (with_reducible repeat (first | apply Kd.R_alloc | apply Kd.R_drewN | apply Kd.R_drew)); exact Kd.R_mono (Kd.R_far (p := ⟨gb642, 1, none⟩) (Kd.R_types HO_632001.out BK642.out (by decide)) (fun _ hk => hk.2) (.slice Ao47 y644.length co47)) (fun _ hk => hk.1.2)⟩, ⟨by (with_reducible repeat (first | apply Kd.R_alloc | apply Kd.R_drewN | apply Kd.R_drew)); exact Kd.R_mono (Kd.R_far (p := ⟨gb642, 1, none⟩) (Kd.R_types HO646.out BK642.out (by decide)) (fun _ hk => hk.2) (.slice Ao47 y644.length co47)) (fun _ hk => hk.1)⟩, ⟨by (with_reducible repeat (first | refine blk_drewN ?_ _ | refine blk_drew ?_ | refine blk_alloc ?_ _)); refine blk_far ?_ NB630_642.out _; exact Bz BK630⟩, ⟨by (with_reducible repeat (first | refine blk_drewN ?_ _ | refine blk_drew ?_ | refine blk_alloc ?_ _)); refine blk_far ?_ NB631_642.out _; exact Bz BK631⟩, ⟨by (with_reducible repeat (first | refine blk_drewN ?_ _ | refine blk_drew ?_ | refine blk_alloc ?_ _)); refine blk_put (cs := #[.int .i64 (wrap64 (2 + t632)), u643001]) ?_ 1 _ rfl; exact Bz BK642⟩, ⟨by repeat (first | (with_reducible first | exact HI0.out | apply IsS88.alloc | apply IsS88.drewN | apply IsS88.drew | apply IsS88.set_1 | apply IsS88.set_2 | refine IsS88.far ?_ NB0_630.out _ | refine IsS88.far ?_ NB0_631.out _ | refine IsS88.far ?_ NB0_642.out _) | exact HI0.out)⟩, ⟨by repeat (first | (with_reducible first | exact HK.out | apply KeepBut.set_ | apply keep_drewN | apply keep_drew | apply keep_alloc | refine keep_far ?_ GW630.out _ | refine keep_far ?_ GW631.out _ | refine keep_far ?_ GW642.out _) | exact HK.out)⟩, ⟨by repeat (first | (with_reducible first | exact HB.out | apply below_alloc | apply pw_below_drewN | apply below_drew1 | refine below_set ?_ (IsS88.ge HI0.out) | refine below_set ?_ GE630.out | refine below_set ?_ GE631.out | refine below_set ?_ GE642.out) | exact HB.out)⟩⟩
            rw [if_neg c41] at H
            exact absurd H (by simp)
           rw [if_neg c40] at H
           have c40b0 : decide (0 < x12_4) = false := decide_eq_false c40
           clear c40
           have H' := Aside0.mk H
           clear H
           go_wp2
           go_roundg k4
           case measure => have := HK1.out; have := HK2.out; have := HK3.out; have := HK4.out; omega
           case rel => exact ⟨(wrap64 (x11_3 + 1)), (x643001_4), (u643001), eqA, H', ⟨by have := HK1.out; have := HK2.out; have := HK3.out; have := HK4.out; omega⟩, ⟨by exact Rz HO_632001⟩, ⟨by exact Rz HO_643001⟩, ⟨by exact Bz BK630⟩, ⟨by exact Bz BK631⟩, ⟨by exact Bz BK642⟩, ⟨by repeat (first | (with_reducible first | exact HI0.out | apply IsS88.alloc | apply IsS88.drewN | apply IsS88.drew | apply IsS88.set_1 | apply IsS88.set_2 | refine IsS88.far ?_ NB0_630.out _ | refine IsS88.far ?_ NB0_631.out _ | refine IsS88.far ?_ NB0_642.out _) | exact HI0.out)⟩, ⟨by repeat (first | (with_reducible first | exact HK.out | apply KeepBut.set_ | apply keep_drewN | apply keep_drew | apply keep_alloc | refine keep_far ?_ GW630.out _ | refine keep_far ?_ GW631.out _ | refine keep_far ?_ GW642.out _) | exact HK.out)⟩, ⟨by repeat (first | (with_reducible first | exact HB.out | apply below_alloc | apply pw_below_drewN | apply below_drew1 | refine below_set ?_ (IsS88.ge HI0.out) | refine below_set ?_ GE630.out | refine below_set ?_ GE631.out | refine below_set ?_ GE642.out) | exact HB.out)⟩⟩
        rw [if_neg c32] at H
        have c32b0 : decide (x11_3 < (wrap64 (2 + t632))) = false := decide_eq_false c32
        clear c32
        have H' := Aside0.mk H
        clear H
        go_wp2
        go_roundg k3
        case measure => have := HK1.out; have := HK2.out; have := HK3.out; omega
        case rel => exact ⟨(wrap64 (x10_2 + 1)), (x643001_3), (u643001), eqA, H', ⟨by have := HK1.out; have := HK2.out; have := HK3.out; omega⟩, ⟨by exact Rz HO_632001⟩, ⟨by exact Rz HO_643001⟩, ⟨by exact Bz BK630⟩, ⟨by exact Bz BK631⟩, ⟨by exact Bz BK642⟩, ⟨by repeat (first | (with_reducible first | exact HI0.out | apply IsS88.alloc | apply IsS88.drewN | apply IsS88.drew | apply IsS88.set_1 | apply IsS88.set_2 | refine IsS88.far ?_ NB0_630.out _ | refine IsS88.far ?_ NB0_631.out _ | refine IsS88.far ?_ NB0_642.out _) | exact HI0.out)⟩, ⟨by repeat (first | (with_reducible first | exact HK.out | apply KeepBut.set_ | apply keep_drewN | apply keep_drew | apply keep_alloc | refine keep_far ?_ GW630.out _ | refine keep_far ?_ GW631.out _ | refine keep_far ?_ GW642.out _) | exact HK.out)⟩, ⟨by repeat (first | (with_reducible first | exact HB.out | apply below_alloc | apply pw_below_drewN | apply below_drew1 | refine below_set ?_ (IsS88.ge HI0.out) | refine below_set ?_ GE630.out | refine below_set ?_ GE631.out | refine below_set ?_ GE642.out) | exact HB.out)⟩⟩
     rw [if_neg c31] at H
     have c31b0 : decide (x10_2 < (wrap64 (2 + t632))) = false := decide_eq_false c31
     clear c31
     replace H := Option.bind_eq_some_iff.mp H
     obtain ⟨⟨t647, t648, t649⟩, A490, H⟩ := H
     replace H : (spec_l02Draw.l4 k2 (wrap64 (2 + t632)) t647 s0_0 t648 t649 (wrap64 (2 + t632)) x643001_2) = some (r1, r2, r3, r4) := H
     have A49 := Aside0.mk A490
     clear A490
     have H' := Aside0.mk H
     clear H
     go_wp2_with (first | ((with_reducible refine gate_callee (f := 93) rfl ?_); refine goesM_ (some 73) rfl rfl Try.func93 (by kernel_rfl) rfl #[.pointer (some ⟨g, 0, none⟩), .int .i64 5] rfl ?_; (with_reducible refine (spec_l01Below.calls g s0_0 x1001_1 x1002_1 5 t647 t648 t649 w0 _ ?side1 ?side2 A49.out).mono ?_); (case side1 => repeat (first | (with_reducible first | exact HI0.out | apply IsS88.alloc | apply IsS88.drewN | apply IsS88.drew | apply IsS88.set_1 | apply IsS88.set_2 | refine IsS88.far ?_ NB0_630.out _ | refine IsS88.far ?_ NB0_631.out _ | refine IsS88.far ?_ NB0_642.out _) | exact HI0.out)); (case side2 => repeat (first | (with_reducible first | exact HB.out | apply below_alloc | apply pw_below_drewN | apply below_drew1 | refine below_set ?_ (IsS88.ge HI0.out) | refine below_set ?_ GE630.out | refine below_set ?_ GE631.out | refine below_set ?_ GE642.out) | exact HB.out)); rintro e w50 ⟨rfl, hi, hb, hk⟩; refine ⟨_, rfl, ?_⟩; replace HO_632001 := Aside0.mk (Kd.R_mono (Kd.R_keep (IsS88.apart (show IsS88 w0 _ g s0_0 x1001_1 x1002_1 from by repeat (first | (with_reducible first | exact HI0.out | apply IsS88.alloc | apply IsS88.drewN | apply IsS88.drew | apply IsS88.set_1 | apply IsS88.set_2 | refine IsS88.far ?_ NB0_630.out _ | refine IsS88.far ?_ NB0_631.out _ | refine IsS88.far ?_ NB0_642.out _) | exact HI0.out)) (Rz HO_632001) (by decide)) hk (fun _ h => h.2)) (fun _ h => h.1)); replace HO_643001 := Aside0.mk (Kd.R_mono (Kd.R_keep (IsS88.apart (show IsS88 w0 _ g s0_0 x1001_1 x1002_1 from by repeat (first | (with_reducible first | exact HI0.out | apply IsS88.alloc | apply IsS88.drewN | apply IsS88.drew | apply IsS88.set_1 | apply IsS88.set_2 | refine IsS88.far ?_ NB0_630.out _ | refine IsS88.far ?_ NB0_631.out _ | refine IsS88.far ?_ NB0_642.out _) | exact HI0.out)) (Rz HO_643001) (by decide)) hk (fun _ h => h.2)) (fun _ h => h.1)); replace BK630 := Aside0.mk (KeepBut.blk hk (g' := gb630) (o := .cells #[.int .i64 0, .slice none 0 0] 30 (0, 0)) (Bz BK630) NB630_0.out (by simp)); replace BK631 := Aside0.mk (KeepBut.blk hk (g' := gb631) (o := .cells #[.int .i64 x632000_1, u632001] 30 (0, 0)) (Bz BK631) NB631_0.out (by simp)); replace BK642 := Aside0.mk (KeepBut.blk hk (g' := gb642) (o := .cells #[.int .i64 (wrap64 (2 + t632)), u643001] 30 (0, 0)) (Bz BK642) NB642_0.out (by simp)); replace HK := Aside0.mk (KeepBut.trans (by repeat (first | (with_reducible first | exact HK.out | apply KeepBut.set_ | apply keep_drewN | apply keep_drew | apply keep_alloc | refine keep_far ?_ GW630.out _ | refine keep_far ?_ GW631.out _ | refine keep_far ?_ GW642.out _) | exact HK.out)) hk (.inl rfl)); replace HB := Aside0.mk (hb); replace HI0 := Aside0.mk (hi); (try clear hb); (try clear hb2); (try clear hk); (try clear hi)))
     go_loopg [13] k2 (fun kq v13 w' => ∃ (x13_3 : Int) (x1001_3 : Int) (x1002_3 : Int) (x643000_3 : Int) (x643001_3 : List (S57)) (u643001 : Value), v13 = .int .i64 x13_3 ∧ Aside0 (spec_l02Draw.l4 kq (wrap64 (2 + t632)) x13_3 s0_0 x1001_3 x1002_3 x643000_3 x643001_3 = some (r1, r2, r3, r4)) ∧ Aside0 (kq ≤ k2) ∧ Aside0 (Kd.R k57 57 w' w.heap.size (fun k_ => some k_ ≠ (u643001 : Value).ownBlock) u632001 x632001_1) ∧ Aside0 (Kd.R k57 57 w' w.heap.size (fun k_ => some k_ ≠ (u632001 : Value).ownBlock) u643001 x643001_3) ∧ Aside0 (w'.heap[gb630]? = some (.cells #[.int .i64 0, (.slice none 0 0)] 30 (0, 0))) ∧ Aside0 (w'.heap[gb631]? = some (.cells #[.int .i64 x632000_1, u632001] 30 (0, 0))) ∧ Aside0 (w'.heap[gb642]? = some (.cells #[.int .i64 x643000_3, u643001] 30 (0, 0))) ∧ Aside0 (IsS88 w0 w' g s0_0 x1001_3 x1002_3) ∧ Aside0 (KeepBut w w' g none) ∧ Aside0 (Below w0.heap.size w0 w'))
     case atStart => exact ⟨(t647), (t648), (t649), ((wrap64 (2 + t632))), (x643001_2), (u643001), eqA, H', ⟨Nat.le_refl _⟩, ⟨by exact Rz HO_632001⟩, ⟨by exact Rz HO_643001⟩, ⟨by exact Bz BK630⟩, ⟨by exact Bz BK631⟩, ⟨by exact Bz BK642⟩, ⟨by repeat (first | (with_reducible first | exact HI0.out | apply IsS88.alloc | apply IsS88.drewN | apply IsS88.drew | apply IsS88.set_1 | apply IsS88.set_2 | refine IsS88.far ?_ NB0_630.out _ | refine IsS88.far ?_ NB0_631.out _ | refine IsS88.far ?_ NB0_642.out _) | exact HI0.out)⟩, ⟨by repeat (first | (with_reducible first | exact HK.out | apply KeepBut.set_ | apply keep_drewN | apply keep_drew | apply keep_alloc | refine keep_far ?_ GW630.out _ | refine keep_far ?_ GW631.out _ | refine keep_far ?_ GW642.out _) | exact HK.out)⟩, ⟨by repeat (first | (with_reducible first | exact HB.out | apply below_alloc | apply pw_below_drewN | apply below_drew1 | refine below_set ?_ (IsS88.ge HI0.out) | refine below_set ?_ GE630.out | refine below_set ?_ GE631.out | refine below_set ?_ GE642.out) | exact HB.out)⟩⟩
     case round =>
      clear H'
      try clear c10
      try clear c10b0
      try clear c12
      try clear c31
      try clear c31b0
      try clear c32
      try clear c32b0
      try clear c40
      try clear c40b0
      try clear c41
      obtain ⟨x13_3, x1001_3, x1002_3, x643000_3, x643001_3, u643001, rfl, HA, HK3, HO_632001, HO_643001, BK630, BK631, BK642, HI0, HK, HB⟩ := hrel
      cases gk with
      | zero => exact absurd HA.out (by simp [spec_l02Draw.l4])
      | succ k3 =>
       have H := HA.out
       clear HA
       simp only [spec_l02Draw.l4] at H
       by_cases c51 : x13_3 > 0
       ·rw [if_pos c51] at H
        have c51b0 : decide (0 < x13_3) = true := decide_eq_true c51
        clear c51
        replace H := Option.bind_eq_some_iff.mp H
        obtain ⟨⟨t650, t651, t652⟩, A520, H⟩ := H
        replace H : ((spec_l01Below.f s0_0 t651 t652 (wrap64 ((wrap64 (2 + t632)) - 1))).bind fun bt653 => (if (wrap64 (2 + t632)) = 0 then (none) else ((spec_AddEdge.f k3 x643000_3 x643001_3 t650 (Int.tmod (wrap64 ((wrap64 (t650 + 1)) + bt653.1)) (wrap64 (2 + t632)))).bind fun bt656 => (if bt656.2.2 = true then (spec_l02Draw.l4 k3 (wrap64 (2 + t632)) (wrap64 (x13_3 - 1)) s0_0 bt653.2.1 bt653.2.2 bt656.1 bt656.2.1) else (spec_l02Draw.l4 k3 (wrap64 (2 + t632)) (wrap64 (x13_3 - 1)) s0_0 bt653.2.1 bt653.2.2 x643000_3 x643001_3))))) = some (r1, r2, r3, r4) := H
        have A52 := Aside0.mk A520
        clear A520
        replace H := Option.bind_eq_some_iff.mp H
        obtain ⟨⟨t653, t654, t655⟩, A530, H⟩ := H
        replace H : (if (wrap64 (2 + t632)) = 0 then (none) else ((spec_AddEdge.f k3 x643000_3 x643001_3 t650 (Int.tmod (wrap64 ((wrap64 (t650 + 1)) + t653)) (wrap64 (2 + t632)))).bind fun bt656 => (if bt656.2.2 = true then (spec_l02Draw.l4 k3 (wrap64 (2 + t632)) (wrap64 (x13_3 - 1)) s0_0 t654 t655 bt656.1 bt656.2.1) else (spec_l02Draw.l4 k3 (wrap64 (2 + t632)) (wrap64 (x13_3 - 1)) s0_0 t654 t655 x643000_3 x643001_3)))) = some (r1, r2, r3, r4) := H
        have A53 := Aside0.mk A530
        clear A530
        by_cases c54 : (wrap64 (2 + t632)) = 0
        ·rw [if_pos c54] at H
         exact absurd H (by simp)
        rw [if_neg c54] at H
        have c54b0 : ((wrap64 (2 + t632)) == 0) = false := beq_eq_false_iff_ne.mpr c54
        have c54b1 : ((wrap64 (2 + t632)) != 0) = true := bne_iff_ne.mpr c54
        replace H := Option.bind_eq_some_iff.mp H
        obtain ⟨⟨t656, t657, t660⟩, A550, H⟩ := H
        replace H : (if t660 = true then (spec_l02Draw.l4 k3 (wrap64 (2 + t632)) (wrap64 (x13_3 - 1)) s0_0 t654 t655 t656 t657) else (spec_l02Draw.l4 k3 (wrap64 (2 + t632)) (wrap64 (x13_3 - 1)) s0_0 t654 t655 x643000_3 x643001_3)) = some (r1, r2, r3, r4) := H
        have A55 := Aside0.mk A550
        clear A550
        by_cases c56 : t660 = true
        ·subst c56
         have H1 : (spec_l02Draw.l4 k3 (wrap64 (2 + t632)) (wrap64 (x13_3 - 1)) s0_0 t654 t655 t656 t657) = some (r1, r2, r3, r4) := by rw [if_pos rfl] at H; exact H
         clear H
         have H := H1
         clear H1
         have H' := Aside0.mk H
         clear H
         try go_wp2_with (first | ((with_reducible refine gate_callee (f := 93) rfl ?_); refine goesM_ (some 80) rfl rfl Try.func93 (by kernel_rfl) rfl #[.pointer (some ⟨g, 0, none⟩), .int .i64 (wrap64 (2 + t632))] rfl ?_; (with_reducible refine (spec_l01Below.calls g s0_0 x1001_3 x1002_3 (wrap64 (2 + t632)) t650 t651 t652 w0 _ ?side1 ?side2 A52.out).mono ?_); (case side1 => repeat (first | (with_reducible first | exact HI0.out | apply IsS88.alloc | apply IsS88.drewN | apply IsS88.drew | apply IsS88.set_1 | apply IsS88.set_2 | refine IsS88.far ?_ NB0_630.out _ | refine IsS88.far ?_ NB0_631.out _ | refine IsS88.far ?_ NB0_642.out _) | exact HI0.out)); (case side2 => repeat (first | (with_reducible first | exact HB.out | apply below_alloc | apply pw_below_drewN | apply below_drew1 | refine below_set ?_ (IsS88.ge HI0.out) | refine below_set ?_ GE630.out | refine below_set ?_ GE631.out | refine below_set ?_ GE642.out) | exact HB.out)); rintro e w57 ⟨rfl, hi, hb, hk⟩; refine ⟨_, rfl, ?_⟩; replace HO_632001 := Aside0.mk (Kd.R_mono (Kd.R_keep (IsS88.apart (show IsS88 w0 _ g s0_0 x1001_3 x1002_3 from by repeat (first | (with_reducible first | exact HI0.out | apply IsS88.alloc | apply IsS88.drewN | apply IsS88.drew | apply IsS88.set_1 | apply IsS88.set_2 | refine IsS88.far ?_ NB0_630.out _ | refine IsS88.far ?_ NB0_631.out _ | refine IsS88.far ?_ NB0_642.out _) | exact HI0.out)) (Rz HO_632001) (by decide)) hk (fun _ h => h.2)) (fun _ h => h.1)); replace HO_643001 := Aside0.mk (Kd.R_mono (Kd.R_keep (IsS88.apart (show IsS88 w0 _ g s0_0 x1001_3 x1002_3 from by repeat (first | (with_reducible first | exact HI0.out | apply IsS88.alloc | apply IsS88.drewN | apply IsS88.drew | apply IsS88.set_1 | apply IsS88.set_2 | refine IsS88.far ?_ NB0_630.out _ | refine IsS88.far ?_ NB0_631.out _ | refine IsS88.far ?_ NB0_642.out _) | exact HI0.out)) (Rz HO_643001) (by decide)) hk (fun _ h => h.2)) (fun _ h => h.1)); replace BK630 := Aside0.mk (KeepBut.blk hk (g' := gb630) (o := .cells #[.int .i64 0, .slice none 0 0] 30 (0, 0)) (Bz BK630) NB630_0.out (by simp)); replace BK631 := Aside0.mk (KeepBut.blk hk (g' := gb631) (o := .cells #[.int .i64 x632000_1, u632001] 30 (0, 0)) (Bz BK631) NB631_0.out (by simp)); replace BK642 := Aside0.mk (KeepBut.blk hk (g' := gb642) (o := .cells #[.int .i64 x643000_3, u643001] 30 (0, 0)) (Bz BK642) NB642_0.out (by simp)); replace HK := Aside0.mk (KeepBut.trans (by repeat (first | (with_reducible first | exact HK.out | apply KeepBut.set_ | apply keep_drewN | apply keep_drew | apply keep_alloc | refine keep_far ?_ GW630.out _ | refine keep_far ?_ GW631.out _ | refine keep_far ?_ GW642.out _) | exact HK.out)) hk (.inl rfl)); replace HB := Aside0.mk (hb); replace HI0 := Aside0.mk (hi); (try clear hb); (try clear hb2); (try clear hk); (try clear hi); obtain ⟨Ao58, co58, eo58⟩ := Kd.R_slice HO_643001.out; subst eo58))
         replace HO_632001 := Aside0.mk (Kd.R_drew HO_632001.out)
         replace HO_643001 := Aside0.mk (Kd.R_drew HO_643001.out)
         replace BK630 := Aside0.mk (blk_drew BK630.out)
         replace BK631 := Aside0.mk (blk_drew BK631.out)
         replace BK642 := Aside0.mk (blk_drew BK642.out)
         replace HI0 := Aside0.mk (IsS88.drew HI0.out)
         replace HK := Aside0.mk (keep_drew HK.out)
         replace HB := Aside0.mk (below_drew1 HB.out)
         refine start_ (n := 18) (S := fun w' => w'.cell? ⟨gb642, 0, none⟩ = some (.int .i64 x643000_3) ∧ w'.cell? ⟨gb642, 1, none⟩ = some (.slice Ao58 x643001_3.length co58)) (ds := []) #[false, false, false, false, false, false, false, false, false, false, false, false, false, false, false, false, false, false] (by kernel_rfl) rfl rfl ⟨(blk_cell BK642.out 0).trans rfl, (blk_cell BK642.out 1).trans rfl⟩ (fun hHeld => ?_); refine with_tabW spec_l02Draw.tab24 spec_l02Draw.bits24 (fun HT_ HW_ => ?_)
         generalize w57.drew = w59 at HO_632001 HO_643001 BK630 BK631 BK642 HI0 HK HB hHeld ⊢
         refine pureT_ 1 83 HT_ ?_
         refine pureT_ 2 84 HT_ ?_
         refine pureT_ 3 85 HT_ ?_
         refine pureT_ 4 86 HT_ ?_
         refine pureT_ 5 87 HT_ ?_
         refine pureT_ 6 88 HT_ ?_
         refine pureT_ 9 91 HT_ ?_
         refine takeT_ 0 82 HT_ HW_ hHeld rfl (by rintro w' ⟨s0, s1⟩; go_simp; with_reducible rfl) ?_
         refine join_ (σ := Value × Nat) 2 #[true, true, true, true, true, true, true, true, true, true, true, true, true, true, true, true, false, false] (fun s_ => [(89, .int .i64 t653), (93, .tuple #[.agg #[.int .i64 t656, s_.1], .bool true]), (15, .pointer (some ⟨s_.2, 0, none⟩)), (90, .int .i64 (wrap64 ((wrap64 (t650 + 1)) + t653))), (92, .int .i64 (Int.tmod (wrap64 ((wrap64 (t650 + 1)) + t653)) (wrap64 (2 + t632)))), (81, .tuple #[.agg #[.int .i64 t656, s_.1], .bool true]), (94, .agg #[.int .i64 t656, s_.1]), (95, .bool true)]) (fun s_ w' => (w'.cell? ⟨gb642, 0, none⟩ = some (.int .i64 x643000_3) ∧ w'.cell? ⟨gb642, 1, none⟩ = some (.slice Ao58 x643001_3.length co58)) ∧ (Kd.R k57 57 w' w.heap.size (fun k_ => some k_ ≠ (u632001 : Value).ownBlock ∧ some k_ ≠ (.slice Ao58 x643001_3.length co58 : Value).ownBlock) s_.1 t657) ∧ (Kd.R k57 57 w' w.heap.size (fun k_ => some k_ ≠ (s_.1 : Value).ownBlock ∧ some k_ ≠ (.slice Ao58 x643001_3.length co58 : Value).ownBlock) u632001 x632001_1) ∧ (Kd.R k57 57 w' w.heap.size (fun k_ => some k_ ≠ (s_.1 : Value).ownBlock ∧ some k_ ≠ (u632001 : Value).ownBlock) (.slice Ao58 x643001_3.length co58) x643001_3) ∧ (w'.heap[gb630]? = some (.cells #[.int .i64 0, .slice none 0 0] 30 (0, 0))) ∧ (w'.heap[gb631]? = some (.cells #[.int .i64 x632000_1, u632001] 30 (0, 0))) ∧ (w'.heap[gb642]? = some (.cells #[.int .i64 x643000_3, .slice Ao58 x643001_3.length co58] 30 (0, 0))) ∧ (w'.heap[s_.2]? = some (.cells #[.int .i64 0, .slice none 0 0] 30 (0, 0))) ∧ (w.heap.size ≤ s_.2) ∧ (w0.heap.size ≤ s_.2) ∧ (g ≠ s_.2) ∧ (s_.2 ≠ g) ∧ (gb630 ≠ s_.2) ∧ (s_.2 ≠ gb630) ∧ (gb631 ≠ s_.2) ∧ (s_.2 ≠ gb631) ∧ (gb642 ≠ s_.2) ∧ (s_.2 ≠ gb642) ∧ (IsS88 w0 w' g s0_0 t654 t655) ∧ (KeepBut w w' g none) ∧ (Below w0.heap.size w0 w')) ?_ ?_
         rotate_left
         ·intro hCont
          refine two_ (i := 7) (j := 15) (Ni := some 89) (Nj := some 15) #[true, true, true, true, true, true, true, true, false, true, false, false, false, false, false, false, false, false] #[true, true, true, true, true, true, true, false, false, true, false, false, false, false, false, true, false, false] rfl rfl rfl rfl (two_of HT_.out (by kernel_rfl)) (by decide) (by decide) (fun K hK => ?_) (fun K hK => ?_)
          ·skip
           refine goes_ Try.func93 (by kernel_rfl) rfl #[.pointer (some ⟨g, 0, none⟩), .int .i64 (wrap64 ((wrap64 (2 + t632)) - 1))] (by rfl) rfl rfl (by (try simp only [List.map_toArray, List.map_cons, List.map_nil]); first | done | rfl | (simp only [List.length_drop, List.length_take]; rfl)) ?_
           with_reducible refine (spec_l01Below.calls g s0_0 t651 t652 (wrap64 ((wrap64 (2 + t632)) - 1)) t653 t654 t655 w0 _ ?side1 ?side2 A53.out).mono ?_
           (case side1 => repeat (first | (with_reducible first | exact HI0.out | apply IsS88.alloc | apply IsS88.drewN | apply IsS88.drew | apply IsS88.set_1 | apply IsS88.set_2 | refine IsS88.far ?_ NB0_630.out _ | refine IsS88.far ?_ NB0_631.out _ | refine IsS88.far ?_ NB0_642.out _) | exact HI0.out))
           (case side2 => repeat (first | (with_reducible first | exact HB.out | apply below_alloc | apply pw_below_drewN | apply below_drew1 | refine below_set ?_ (IsS88.ge HI0.out) | refine below_set ?_ GE630.out | refine below_set ?_ GE631.out | refine below_set ?_ GE642.out) | exact HB.out))
           rintro e w60 ⟨rfl, hi, hb, hk⟩
           refine ⟨_, rfl, ?_⟩
           replace HO_632001 := Aside0.mk (Kd.R_mono (Kd.R_keep (IsS88.apart (show IsS88 w0 _ g s0_0 t651 t652 from by repeat (first | (with_reducible first | exact HI0.out | apply IsS88.alloc | apply IsS88.drewN | apply IsS88.drew | apply IsS88.set_1 | apply IsS88.set_2 | refine IsS88.far ?_ NB0_630.out _ | refine IsS88.far ?_ NB0_631.out _ | refine IsS88.far ?_ NB0_642.out _) | exact HI0.out)) (Rz HO_632001) (by decide)) hk (fun _ h => h.2)) (fun _ h => h.1))
           replace HO_643001 := Aside0.mk (Kd.R_mono (Kd.R_keep (IsS88.apart (show IsS88 w0 _ g s0_0 t651 t652 from by repeat (first | (with_reducible first | exact HI0.out | apply IsS88.alloc | apply IsS88.drewN | apply IsS88.drew | apply IsS88.set_1 | apply IsS88.set_2 | refine IsS88.far ?_ NB0_630.out _ | refine IsS88.far ?_ NB0_631.out _ | refine IsS88.far ?_ NB0_642.out _) | exact HI0.out)) (Rz HO_643001) (by decide)) hk (fun _ h => h.2)) (fun _ h => h.1))
           replace BK630 := Aside0.mk (KeepBut.blk hk (g' := gb630) (o := .cells #[.int .i64 0, .slice none 0 0] 30 (0, 0)) (Bz BK630) NB630_0.out (by simp))
           replace BK631 := Aside0.mk (KeepBut.blk hk (g' := gb631) (o := .cells #[.int .i64 x632000_1, u632001] 30 (0, 0)) (Bz BK631) NB631_0.out (by simp))
           replace BK642 := Aside0.mk (KeepBut.blk hk (g' := gb642) (o := .cells #[.int .i64 x643000_3, .slice Ao58 x643001_3.length co58] 30 (0, 0)) (Bz BK642) NB642_0.out (by simp))
           replace HK := Aside0.mk (KeepBut.trans (by repeat (first | (with_reducible first | exact HK.out | apply KeepBut.set_ | apply keep_drewN | apply keep_drew | apply keep_alloc | refine keep_far ?_ GW630.out _ | refine keep_far ?_ GW631.out _ | refine keep_far ?_ GW642.out _) | exact HK.out)) hk (.inl rfl))
           replace HB := Aside0.mk (hb)
           replace HI0 := Aside0.mk (hi)
           (try clear hb)
           (try clear hb2)
           (try clear hk)
           (try clear hi)
           refine hK.out _ _ ⟨(blk_cell BK642.out 0).trans rfl, (blk_cell BK642.out 1).trans rfl⟩ (fun hHeld => ?_)
           clear hK K
           refine norm_ (a' := ?_) ?_ ?_
           rotate_left
           ·show Act.put _ (some 89) _ = _
            simp only [Act.put, List.setIfInBounds_toArray, List.set_cons_zero, List.set_cons_succ, i64_w, i32_w]
            rfl
           refine pureT_ 8 90 HT_ ?_
           refine pureT_ 10 92 HT_ ?_
           refine two_ (i := 11) (j := 15) (Ni := some 93) (Nj := some 15) #[true, true, true, true, true, true, true, true, true, true, true, true, false, false, false, false, false, false] #[true, true, true, true, true, true, true, true, true, true, true, false, false, false, false, true, false, false] rfl rfl rfl rfl (two_of HT_.out (by kernel_rfl)) (by decide) (by decide) (fun K hK => ?_) (fun K hK => ?_)
           ·skip
            refine goes_ Try.func94 (by kernel_rfl) rfl #[.agg #[.int .i64 x643000_3, .slice Ao58 x643001_3.length co58], .int .i64 t650, .int .i64 (Int.tmod (wrap64 ((wrap64 (t650 + 1)) + t653)) (wrap64 (2 + t632)))] (by rfl) rfl rfl (by (try simp only [List.map_toArray, List.map_cons, List.map_nil]); first | done | rfl | (simp only [List.length_drop, List.length_take]; rfl)) ?_
            with_reducible refine (spec_AddEdge.calls k3 x643000_3 _ _ x643001_3 t650 (Int.tmod (wrap64 ((wrap64 (t650 + 1)) + t653)) (wrap64 (2 + t632))) t656 t657 true _ ?side1 ?side2 A55.out).mono ?_
            (case side1 => exact Cz ((Kd.R_reads' HO_643001.out).2.2))
            (case side2 => exact (Kd.R_reads' HO_643001.out).2.1)
            rintro e w61 ⟨v658, rfl, ho0, hb⟩
            refine ⟨_, rfl, ?_⟩
            have HO659 := Aside0.mk (Kd.R_lower (Kd.R_new' (Kd.R_new' ho0 (Kd.R_lt (Rz HO_632001))) (Kd.R_lt (Rz HO_643001))) (keep_size (w := w) (g := g) (row := none) (by repeat (first | (with_reducible first | exact HK.out | apply KeepBut.set_ | apply keep_drewN | apply keep_drew | apply keep_alloc | refine keep_far ?_ GW630.out _ | refine keep_far ?_ GW631.out _ | refine keep_far ?_ GW642.out _) | exact HK.out))))
            replace HO_632001 := Aside0.mk (Kd.R_elder' (Rz HO_632001) (Kd.R_base ho0) hb)
            replace HO_643001 := Aside0.mk (Kd.R_elder' (Rz HO_643001) (Kd.R_base ho0) hb)
            replace BK630 := Aside0.mk (blk_below (g := gb630) (o := .cells #[.int .i64 0, .slice none 0 0] 30 (0, 0)) (Bz BK630) hb)
            replace BK631 := Aside0.mk (blk_below (g := gb631) (o := .cells #[.int .i64 x632000_1, u632001] 30 (0, 0)) (Bz BK631) hb)
            replace BK642 := Aside0.mk (blk_below (g := gb642) (o := .cells #[.int .i64 x643000_3, .slice Ao58 x643001_3.length co58] 30 (0, 0)) (Bz BK642) hb)
            replace HK := Aside0.mk (KeepBut.trans (by repeat (first | (with_reducible first | exact HK.out | apply KeepBut.set_ | apply keep_drewN | apply keep_drew | apply keep_alloc | refine keep_far ?_ GW630.out _ | refine keep_far ?_ GW631.out _ | refine keep_far ?_ GW642.out _) | exact HK.out)) (KeepBut.of_below hb g none) (.inl rfl))
            replace HB := Aside0.mk (below_step (by repeat (first | (with_reducible first | exact HB.out | apply below_alloc | apply pw_below_drewN | apply below_drew1 | refine below_set ?_ (IsS88.ge HI0.out) | refine below_set ?_ GE630.out | refine below_set ?_ GE631.out | refine below_set ?_ GE642.out) | exact HB.out)) hb)
            replace HI0 := Aside0.mk (IsS88.below (by repeat (first | (with_reducible first | exact HI0.out | apply IsS88.alloc | apply IsS88.drewN | apply IsS88.drew | apply IsS88.set_1 | apply IsS88.set_2 | refine IsS88.far ?_ NB0_630.out _ | refine IsS88.far ?_ NB0_631.out _ | refine IsS88.far ?_ NB0_642.out _) | exact HI0.out)) hb)
            (try clear hb)
            (try clear hb2)
            (try clear hk)
            (try clear hi)
            (try clear ho0)
            refine hK.out _ _ ⟨(blk_cell BK642.out 0).trans rfl, (blk_cell BK642.out 1).trans rfl⟩ (fun hHeld => ?_)
            clear hK K
            refine norm_ (a' := ?_) ?_ ?_
            rotate_left
            ·show Act.put _ (some 93) _ = _
             simp only [Act.put, List.setIfInBounds_toArray, List.set_cons_zero, List.set_cons_succ, i64_w, i32_w]
             rfl
            refine pureT_ 12 81 HT_ ?_
            refine pureT_ 13 94 HT_ ?_
            refine pureT_ 14 95 HT_ ?_
            refine one_ (i := 15) (N := some 15) #[true, true, true, true, true, true, true, true, true, true, true, true, true, true, true, true, false, false] rfl rfl (one_of HT_.out (by kernel_rfl)) (by decide) (fun K hK => ?_)
            refine box_step ?hg (N := 15) ?hd (cs := #[.int .i64 0, .slice none 0 0]) (t := 30) ?hr ?_; (case hd => rfl); (case hg => rfl); (case hr => first | (go_simp; done) | (go_simp; rfl))
            intro gb661 hg w62 hbox hb
            replace HO_632001 := Aside0.mk (Kd.R_below (Rz HO_632001) hb)
            replace HO_643001 := Aside0.mk (Kd.R_below (Rz HO_643001) hb)
            replace HO659 := Aside0.mk (Kd.R_below (Rz HO659) hb)
            replace HB := Aside0.mk (below_step (by repeat (first | (with_reducible first | exact HB.out | apply below_alloc | apply pw_below_drewN | apply below_drew1 | refine below_set ?_ (IsS88.ge HI0.out) | refine below_set ?_ GE630.out | refine below_set ?_ GE631.out | refine below_set ?_ GE642.out) | exact HB.out)) hb)
            have BK661 := Aside0.mk (hbox)
            have GW661 := Aside0.mk ((by rw [hg]; exact (keep_size (w := w) (g := g) (row := none) (by repeat (first | (with_reducible first | exact HK.out | apply KeepBut.set_ | apply keep_drewN | apply keep_drew | apply keep_alloc | refine keep_far ?_ GW630.out _ | refine keep_far ?_ GW631.out _ | refine keep_far ?_ GW642.out _) | exact HK.out))) : w.heap.size ≤ gb661))
            have GE661 := Aside0.mk ((Nat.le_trans HW0.out (by rw [hg]; exact (keep_size (w := w) (g := g) (row := none) (by repeat (first | (with_reducible first | exact HK.out | apply KeepBut.set_ | apply keep_drewN | apply keep_drew | apply keep_alloc | refine keep_far ?_ GW630.out _ | refine keep_far ?_ GW631.out _ | refine keep_far ?_ GW642.out _) | exact HK.out))) : w.heap.size ≤ gb661) : w0.heap.size ≤ gb661))
            replace HK := Aside0.mk (KeepBut.trans (by repeat (first | (with_reducible first | exact HK.out | apply KeepBut.set_ | apply keep_drewN | apply keep_drew | apply keep_alloc | refine keep_far ?_ GW630.out _ | refine keep_far ?_ GW631.out _ | refine keep_far ?_ GW642.out _) | exact HK.out)) (KeepBut.of_below hb g none) (.inl rfl))
            have NB630_661 := Aside0.mk ((by rw [hg]; exact Nat.ne_of_lt (blk_lt (g := gb630) (o := .cells #[.int .i64 0, .slice none 0 0] 30 (0, 0)) (Bz BK630)) : gb630 ≠ gb661))
            have NB661_630 := Aside0.mk ((by rw [hg]; exact Nat.ne_of_gt (blk_lt (g := gb630) (o := .cells #[.int .i64 0, .slice none 0 0] 30 (0, 0)) (Bz BK630)) : gb661 ≠ gb630))
            replace BK630 := Aside0.mk (blk_below (g := gb630) (o := .cells #[.int .i64 0, .slice none 0 0] 30 (0, 0)) (Bz BK630) hb)
            have NB631_661 := Aside0.mk ((by rw [hg]; exact Nat.ne_of_lt (blk_lt (g := gb631) (o := .cells #[.int .i64 x632000_1, u632001] 30 (0, 0)) (Bz BK631)) : gb631 ≠ gb661))
            have NB661_631 := Aside0.mk ((by rw [hg]; exact Nat.ne_of_gt (blk_lt (g := gb631) (o := .cells #[.int .i64 x632000_1, u632001] 30 (0, 0)) (Bz BK631)) : gb661 ≠ gb631))
            replace BK631 := Aside0.mk (blk_below (g := gb631) (o := .cells #[.int .i64 x632000_1, u632001] 30 (0, 0)) (Bz BK631) hb)
            have NB642_661 := Aside0.mk ((by rw [hg]; exact Nat.ne_of_lt (blk_lt (g := gb642) (o := .cells #[.int .i64 x643000_3, .slice Ao58 x643001_3.length co58] 30 (0, 0)) (Bz BK642)) : gb642 ≠ gb661))
            have NB661_642 := Aside0.mk ((by rw [hg]; exact Nat.ne_of_gt (blk_lt (g := gb642) (o := .cells #[.int .i64 x643000_3, .slice Ao58 x643001_3.length co58] 30 (0, 0)) (Bz BK642)) : gb661 ≠ gb642))
            replace BK642 := Aside0.mk (blk_below (g := gb642) (o := .cells #[.int .i64 x643000_3, .slice Ao58 x643001_3.length co58] 30 (0, 0)) (Bz BK642) hb)
            have NB0_661 := Aside0.mk ((by rw [hg]; exact Nat.ne_of_lt (IsS88.lt (show IsS88 w0 _ g s0_0 t654 t655 from by repeat (first | (with_reducible first | exact HI0.out | apply IsS88.alloc | apply IsS88.drewN | apply IsS88.drew | apply IsS88.set_1 | apply IsS88.set_2 | refine IsS88.far ?_ NB0_630.out _ | refine IsS88.far ?_ NB0_631.out _ | refine IsS88.far ?_ NB0_642.out _) | exact HI0.out))) : g ≠ gb661))
            have NB661_0 := Aside0.mk ((by rw [hg]; exact Nat.ne_of_gt (IsS88.lt (show IsS88 w0 _ g s0_0 t654 t655 from by repeat (first | (with_reducible first | exact HI0.out | apply IsS88.alloc | apply IsS88.drewN | apply IsS88.drew | apply IsS88.set_1 | apply IsS88.set_2 | refine IsS88.far ?_ NB0_630.out _ | refine IsS88.far ?_ NB0_631.out _ | refine IsS88.far ?_ NB0_642.out _) | exact HI0.out))) : gb661 ≠ g))
            replace HI0 := Aside0.mk (IsS88.below (by repeat (first | (with_reducible first | exact HI0.out | apply IsS88.alloc | apply IsS88.drewN | apply IsS88.drew | apply IsS88.set_1 | apply IsS88.set_2 | refine IsS88.far ?_ NB0_630.out _ | refine IsS88.far ?_ NB0_631.out _ | refine IsS88.far ?_ NB0_642.out _) | exact HI0.out)) hb)
            clear hb hbox hg
            refine hK.out _ _ ⟨(blk_cell BK642.out 0).trans rfl, (blk_cell BK642.out 1).trans rfl⟩ (fun hHeld => ?_)
            clear hK K
            refine norm_ (a' := ?_) ?_ ?_
            rotate_left
            ·show Act.put _ (some 15) _ = _
             simp only [Act.put, List.setIfInBounds_toArray, List.set_cons_zero, List.set_cons_succ, i64_w, i32_w]
             rfl
            exact norm_ (by simp only [putAll, Act.put, List.setIfInBounds_toArray, List.set_cons_zero, List.set_cons_succ]) (hCont (v658, gb661) _ ⟨hHeld, (by (with_reducible repeat (first | apply Kd.R_alloc | apply Kd.R_drewN | apply Kd.R_drew)); exact Kd.R_mono HO659.out (fun _ hk => ⟨hk.1.2, hk.2⟩)), (by (with_reducible repeat (first | apply Kd.R_alloc | apply Kd.R_drewN | apply Kd.R_drew)); exact Kd.R_mono HO_632001.out (fun _ hk => ⟨hk.2, hk.1⟩)), (by (with_reducible repeat (first | apply Kd.R_alloc | apply Kd.R_drewN | apply Kd.R_drew)); exact Kd.R_mono HO_643001.out (fun _ hk => ⟨hk.2, hk.1⟩)), (Bz BK630), (Bz BK631), (Bz BK642), (Bz BK661), GW661.out, GE661.out, NB0_661.out, NB661_0.out, NB630_661.out, NB661_630.out, NB631_661.out, NB661_631.out, NB642_661.out, NB661_642.out, (by repeat (first | (with_reducible first | exact HI0.out | apply IsS88.alloc | apply IsS88.drewN | apply IsS88.drew | apply IsS88.set_1 | apply IsS88.set_2 | refine IsS88.far ?_ NB0_630.out _ | refine IsS88.far ?_ NB0_631.out _ | refine IsS88.far ?_ NB0_642.out _ | refine IsS88.far ?_ NB0_661.out _) | exact HI0.out)), (by repeat (first | (with_reducible first | exact HK.out | apply KeepBut.set_ | apply keep_drewN | apply keep_drew | apply keep_alloc | refine keep_far ?_ GW630.out _ | refine keep_far ?_ GW631.out _ | refine keep_far ?_ GW642.out _ | refine keep_far ?_ GW661.out _) | exact HK.out)), (by repeat (first | (with_reducible first | exact HB.out | apply below_alloc | apply pw_below_drewN | apply below_drew1 | refine below_set ?_ (IsS88.ge HI0.out) | refine below_set ?_ GE630.out | refine below_set ?_ GE631.out | refine below_set ?_ GE642.out | refine below_set ?_ GE661.out) | exact HB.out))⟩)
           skip
           refine box_step ?hg (N := 15) ?hd (cs := #[.int .i64 0, .slice none 0 0]) (t := 30) ?hr ?_; (case hd => rfl); (case hg => rfl); (case hr => first | (go_simp; done) | (go_simp; rfl))
           intro gb661 hg w61 hbox hb
           replace HO_632001 := Aside0.mk (Kd.R_below (Rz HO_632001) hb)
           replace HO_643001 := Aside0.mk (Kd.R_below (Rz HO_643001) hb)
           replace HB := Aside0.mk (below_step (by repeat (first | (with_reducible first | exact HB.out | apply below_alloc | apply pw_below_drewN | apply below_drew1 | refine below_set ?_ (IsS88.ge HI0.out) | refine below_set ?_ GE630.out | refine below_set ?_ GE631.out | refine below_set ?_ GE642.out) | exact HB.out)) hb)
           have BK661 := Aside0.mk (hbox)
           have GW661 := Aside0.mk ((by rw [hg]; exact (keep_size (w := w) (g := g) (row := none) (by repeat (first | (with_reducible first | exact HK.out | apply KeepBut.set_ | apply keep_drewN | apply keep_drew | apply keep_alloc | refine keep_far ?_ GW630.out _ | refine keep_far ?_ GW631.out _ | refine keep_far ?_ GW642.out _) | exact HK.out))) : w.heap.size ≤ gb661))
           have GE661 := Aside0.mk ((Nat.le_trans HW0.out (by rw [hg]; exact (keep_size (w := w) (g := g) (row := none) (by repeat (first | (with_reducible first | exact HK.out | apply KeepBut.set_ | apply keep_drewN | apply keep_drew | apply keep_alloc | refine keep_far ?_ GW630.out _ | refine keep_far ?_ GW631.out _ | refine keep_far ?_ GW642.out _) | exact HK.out))) : w.heap.size ≤ gb661) : w0.heap.size ≤ gb661))
           replace HK := Aside0.mk (KeepBut.trans (by repeat (first | (with_reducible first | exact HK.out | apply KeepBut.set_ | apply keep_drewN | apply keep_drew | apply keep_alloc | refine keep_far ?_ GW630.out _ | refine keep_far ?_ GW631.out _ | refine keep_far ?_ GW642.out _) | exact HK.out)) (KeepBut.of_below hb g none) (.inl rfl))
           have NB630_661 := Aside0.mk ((by rw [hg]; exact Nat.ne_of_lt (blk_lt (g := gb630) (o := .cells #[.int .i64 0, .slice none 0 0] 30 (0, 0)) (Bz BK630)) : gb630 ≠ gb661))
           have NB661_630 := Aside0.mk ((by rw [hg]; exact Nat.ne_of_gt (blk_lt (g := gb630) (o := .cells #[.int .i64 0, .slice none 0 0] 30 (0, 0)) (Bz BK630)) : gb661 ≠ gb630))
           replace BK630 := Aside0.mk (blk_below (g := gb630) (o := .cells #[.int .i64 0, .slice none 0 0] 30 (0, 0)) (Bz BK630) hb)
           have NB631_661 := Aside0.mk ((by rw [hg]; exact Nat.ne_of_lt (blk_lt (g := gb631) (o := .cells #[.int .i64 x632000_1, u632001] 30 (0, 0)) (Bz BK631)) : gb631 ≠ gb661))
           have NB661_631 := Aside0.mk ((by rw [hg]; exact Nat.ne_of_gt (blk_lt (g := gb631) (o := .cells #[.int .i64 x632000_1, u632001] 30 (0, 0)) (Bz BK631)) : gb661 ≠ gb631))
           replace BK631 := Aside0.mk (blk_below (g := gb631) (o := .cells #[.int .i64 x632000_1, u632001] 30 (0, 0)) (Bz BK631) hb)
           have NB642_661 := Aside0.mk ((by rw [hg]; exact Nat.ne_of_lt (blk_lt (g := gb642) (o := .cells #[.int .i64 x643000_3, .slice Ao58 x643001_3.length co58] 30 (0, 0)) (Bz BK642)) : gb642 ≠ gb661))
           have NB661_642 := Aside0.mk ((by rw [hg]; exact Nat.ne_of_gt (blk_lt (g := gb642) (o := .cells #[.int .i64 x643000_3, .slice Ao58 x643001_3.length co58] 30 (0, 0)) (Bz BK642)) : gb661 ≠ gb642))
           replace BK642 := Aside0.mk (blk_below (g := gb642) (o := .cells #[.int .i64 x643000_3, .slice Ao58 x643001_3.length co58] 30 (0, 0)) (Bz BK642) hb)
           have NB0_661 := Aside0.mk ((by rw [hg]; exact Nat.ne_of_lt (IsS88.lt (show IsS88 w0 _ g s0_0 t654 t655 from by repeat (first | (with_reducible first | exact HI0.out | apply IsS88.alloc | apply IsS88.drewN | apply IsS88.drew | apply IsS88.set_1 | apply IsS88.set_2 | refine IsS88.far ?_ NB0_630.out _ | refine IsS88.far ?_ NB0_631.out _ | refine IsS88.far ?_ NB0_642.out _) | exact HI0.out))) : g ≠ gb661))
           have NB661_0 := Aside0.mk ((by rw [hg]; exact Nat.ne_of_gt (IsS88.lt (show IsS88 w0 _ g s0_0 t654 t655 from by repeat (first | (with_reducible first | exact HI0.out | apply IsS88.alloc | apply IsS88.drewN | apply IsS88.drew | apply IsS88.set_1 | apply IsS88.set_2 | refine IsS88.far ?_ NB0_630.out _ | refine IsS88.far ?_ NB0_631.out _ | refine IsS88.far ?_ NB0_642.out _) | exact HI0.out))) : gb661 ≠ g))
           replace HI0 := Aside0.mk (IsS88.below (by repeat (first | (with_reducible first | exact HI0.out | apply IsS88.alloc | apply IsS88.drewN | apply IsS88.drew | apply IsS88.set_1 | apply IsS88.set_2 | refine IsS88.far ?_ NB0_630.out _ | refine IsS88.far ?_ NB0_631.out _ | refine IsS88.far ?_ NB0_642.out _) | exact HI0.out)) hb)
           clear hb hbox hg
           refine hK.out _ _ ⟨(blk_cell BK642.out 0).trans rfl, (blk_cell BK642.out 1).trans rfl⟩ (fun hHeld => ?_)
           clear hK K
           refine norm_ (a' := ?_) ?_ ?_
           rotate_left
           ·show Act.put _ (some 15) _ = _
            simp only [Act.put, List.setIfInBounds_toArray, List.set_cons_zero, List.set_cons_succ, i64_w, i32_w]
            rfl
           refine one_ (i := 11) (N := some 93) #[true, true, true, true, true, true, true, true, true, true, true, true, false, false, false, true, false, false] rfl rfl (one_of HT_.out (by kernel_rfl)) (by decide) (fun K hK => ?_)
           refine goes_ Try.func94 (by kernel_rfl) rfl #[.agg #[.int .i64 x643000_3, .slice Ao58 x643001_3.length co58], .int .i64 t650, .int .i64 (Int.tmod (wrap64 ((wrap64 (t650 + 1)) + t653)) (wrap64 (2 + t632)))] (by rfl) rfl rfl (by (try simp only [List.map_toArray, List.map_cons, List.map_nil]); first | done | rfl | (simp only [List.length_drop, List.length_take]; rfl)) ?_
           with_reducible refine (spec_AddEdge.calls k3 x643000_3 _ _ x643001_3 t650 (Int.tmod (wrap64 ((wrap64 (t650 + 1)) + t653)) (wrap64 (2 + t632))) t656 t657 true _ ?side1 ?side2 A55.out).mono ?_
           (case side1 => exact Cz ((Kd.R_reads' HO_643001.out).2.2))
           (case side2 => exact (Kd.R_reads' HO_643001.out).2.1)
           rintro e w62 ⟨v658, rfl, ho0, hb⟩
           refine ⟨_, rfl, ?_⟩
           have HO659 := Aside0.mk (Kd.R_lower (Kd.R_new' (Kd.R_new' ho0 (Kd.R_lt (Rz HO_632001))) (Kd.R_lt (Rz HO_643001))) (keep_size (w := w) (g := g) (row := none) (by repeat (first | (with_reducible first | exact HK.out | apply KeepBut.set_ | apply keep_drewN | apply keep_drew | apply keep_alloc | refine keep_far ?_ GW630.out _ | refine keep_far ?_ GW631.out _ | refine keep_far ?_ GW642.out _ | refine keep_far ?_ GW661.out _) | exact HK.out))))
           replace HO_632001 := Aside0.mk (Kd.R_elder' (Rz HO_632001) (Kd.R_base ho0) hb)
           replace HO_643001 := Aside0.mk (Kd.R_elder' (Rz HO_643001) (Kd.R_base ho0) hb)
           replace BK630 := Aside0.mk (blk_below (g := gb630) (o := .cells #[.int .i64 0, .slice none 0 0] 30 (0, 0)) (Bz BK630) hb)
           replace BK631 := Aside0.mk (blk_below (g := gb631) (o := .cells #[.int .i64 x632000_1, u632001] 30 (0, 0)) (Bz BK631) hb)
           replace BK642 := Aside0.mk (blk_below (g := gb642) (o := .cells #[.int .i64 x643000_3, .slice Ao58 x643001_3.length co58] 30 (0, 0)) (Bz BK642) hb)
           replace BK661 := Aside0.mk (blk_below (g := gb661) (o := .cells #[.int .i64 0, .slice none 0 0] 30 (0, 0)) (Bz BK661) hb)
           replace HK := Aside0.mk (KeepBut.trans (by repeat (first | (with_reducible first | exact HK.out | apply KeepBut.set_ | apply keep_drewN | apply keep_drew | apply keep_alloc | refine keep_far ?_ GW630.out _ | refine keep_far ?_ GW631.out _ | refine keep_far ?_ GW642.out _ | refine keep_far ?_ GW661.out _) | exact HK.out)) (KeepBut.of_below hb g none) (.inl rfl))
           replace HB := Aside0.mk (below_step (by repeat (first | (with_reducible first | exact HB.out | apply below_alloc | apply pw_below_drewN | apply below_drew1 | refine below_set ?_ (IsS88.ge HI0.out) | refine below_set ?_ GE630.out | refine below_set ?_ GE631.out | refine below_set ?_ GE642.out | refine below_set ?_ GE661.out) | exact HB.out)) hb)
           replace HI0 := Aside0.mk (IsS88.below (by repeat (first | (with_reducible first | exact HI0.out | apply IsS88.alloc | apply IsS88.drewN | apply IsS88.drew | apply IsS88.set_1 | apply IsS88.set_2 | refine IsS88.far ?_ NB0_630.out _ | refine IsS88.far ?_ NB0_631.out _ | refine IsS88.far ?_ NB0_642.out _ | refine IsS88.far ?_ NB0_661.out _) | exact HI0.out)) hb)
           (try clear hb)
           (try clear hb2)
           (try clear hk)
           (try clear hi)
           (try clear ho0)
           refine hK.out _ _ ⟨(blk_cell BK642.out 0).trans rfl, (blk_cell BK642.out 1).trans rfl⟩ (fun hHeld => ?_)
           clear hK K
           refine norm_ (a' := ?_) ?_ ?_
           rotate_left
           ·show Act.put _ (some 93) _ = _
            simp only [Act.put, List.setIfInBounds_toArray, List.set_cons_zero, List.set_cons_succ, i64_w, i32_w]
            rfl
           refine pureT_ 12 81 HT_ ?_
           refine pureT_ 13 94 HT_ ?_
           refine pureT_ 14 95 HT_ ?_
           exact norm_ (by simp only [putAll, Act.put, List.setIfInBounds_toArray, List.set_cons_zero, List.set_cons_succ]) (hCont (v658, gb661) _ ⟨hHeld, (by (with_reducible repeat (first | apply Kd.R_alloc | apply Kd.R_drewN | apply Kd.R_drew)); exact Kd.R_mono HO659.out (fun _ hk => ⟨hk.1.2, hk.2⟩)), (by (with_reducible repeat (first | apply Kd.R_alloc | apply Kd.R_drewN | apply Kd.R_drew)); exact Kd.R_mono HO_632001.out (fun _ hk => ⟨hk.2, hk.1⟩)), (by (with_reducible repeat (first | apply Kd.R_alloc | apply Kd.R_drewN | apply Kd.R_drew)); exact Kd.R_mono HO_643001.out (fun _ hk => ⟨hk.2, hk.1⟩)), (Bz BK630), (Bz BK631), (Bz BK642), (Bz BK661), GW661.out, GE661.out, NB0_661.out, NB661_0.out, NB630_661.out, NB661_630.out, NB631_661.out, NB661_631.out, NB642_661.out, NB661_642.out, (by repeat (first | (with_reducible first | exact HI0.out | apply IsS88.alloc | apply IsS88.drewN | apply IsS88.drew | apply IsS88.set_1 | apply IsS88.set_2 | refine IsS88.far ?_ NB0_630.out _ | refine IsS88.far ?_ NB0_631.out _ | refine IsS88.far ?_ NB0_642.out _ | refine IsS88.far ?_ NB0_661.out _) | exact HI0.out)), (by repeat (first | (with_reducible first | exact HK.out | apply KeepBut.set_ | apply keep_drewN | apply keep_drew | apply keep_alloc | refine keep_far ?_ GW630.out _ | refine keep_far ?_ GW631.out _ | refine keep_far ?_ GW642.out _ | refine keep_far ?_ GW661.out _) | exact HK.out)), (by repeat (first | (with_reducible first | exact HB.out | apply below_alloc | apply pw_below_drewN | apply below_drew1 | refine below_set ?_ (IsS88.ge HI0.out) | refine below_set ?_ GE630.out | refine below_set ?_ GE631.out | refine below_set ?_ GE642.out | refine below_set ?_ GE661.out) | exact HB.out))⟩)
          skip
          refine box_step ?hg (N := 15) ?hd (cs := #[.int .i64 0, .slice none 0 0]) (t := 30) ?hr ?_; (case hd => rfl); (case hg => rfl); (case hr => first | (go_simp; done) | (go_simp; rfl))
          intro gb661 hg w60 hbox hb
          replace HO_632001 := Aside0.mk (Kd.R_below (Rz HO_632001) hb)
          replace HO_643001 := Aside0.mk (Kd.R_below (Rz HO_643001) hb)
          replace HB := Aside0.mk (below_step (by repeat (first | (with_reducible first | exact HB.out | apply below_alloc | apply pw_below_drewN | apply below_drew1 | refine below_set ?_ (IsS88.ge HI0.out) | refine below_set ?_ GE630.out | refine below_set ?_ GE631.out | refine below_set ?_ GE642.out) | exact HB.out)) hb)
          have BK661 := Aside0.mk (hbox)
          have GW661 := Aside0.mk ((by rw [hg]; exact (keep_size (w := w) (g := g) (row := none) (by repeat (first | (with_reducible first | exact HK.out | apply KeepBut.set_ | apply keep_drewN | apply keep_drew | apply keep_alloc | refine keep_far ?_ GW630.out _ | refine keep_far ?_ GW631.out _ | refine keep_far ?_ GW642.out _) | exact HK.out))) : w.heap.size ≤ gb661))
          have GE661 := Aside0.mk ((Nat.le_trans HW0.out (by rw [hg]; exact (keep_size (w := w) (g := g) (row := none) (by repeat (first | (with_reducible first | exact HK.out | apply KeepBut.set_ | apply keep_drewN | apply keep_drew | apply keep_alloc | refine keep_far ?_ GW630.out _ | refine keep_far ?_ GW631.out _ | refine keep_far ?_ GW642.out _) | exact HK.out))) : w.heap.size ≤ gb661) : w0.heap.size ≤ gb661))
          replace HK := Aside0.mk (KeepBut.trans (by repeat (first | (with_reducible first | exact HK.out | apply KeepBut.set_ | apply keep_drewN | apply keep_drew | apply keep_alloc | refine keep_far ?_ GW630.out _ | refine keep_far ?_ GW631.out _ | refine keep_far ?_ GW642.out _) | exact HK.out)) (KeepBut.of_below hb g none) (.inl rfl))
          have NB630_661 := Aside0.mk ((by rw [hg]; exact Nat.ne_of_lt (blk_lt (g := gb630) (o := .cells #[.int .i64 0, .slice none 0 0] 30 (0, 0)) (Bz BK630)) : gb630 ≠ gb661))
          have NB661_630 := Aside0.mk ((by rw [hg]; exact Nat.ne_of_gt (blk_lt (g := gb630) (o := .cells #[.int .i64 0, .slice none 0 0] 30 (0, 0)) (Bz BK630)) : gb661 ≠ gb630))
          replace BK630 := Aside0.mk (blk_below (g := gb630) (o := .cells #[.int .i64 0, .slice none 0 0] 30 (0, 0)) (Bz BK630) hb)
          have NB631_661 := Aside0.mk ((by rw [hg]; exact Nat.ne_of_lt (blk_lt (g := gb631) (o := .cells #[.int .i64 x632000_1, u632001] 30 (0, 0)) (Bz BK631)) : gb631 ≠ gb661))
          have NB661_631 := Aside0.mk ((by rw [hg]; exact Nat.ne_of_gt (blk_lt (g := gb631) (o := .cells #[.int .i64 x632000_1, u632001] 30 (0, 0)) (Bz BK631)) : gb661 ≠ gb631))
          replace BK631 := Aside0.mk (blk_below (g := gb631) (o := .cells #[.int .i64 x632000_1, u632001] 30 (0, 0)) (Bz BK631) hb)
          have NB642_661 := Aside0.mk ((by rw [hg]; exact Nat.ne_of_lt (blk_lt (g := gb642) (o := .cells #[.int .i64 x643000_3, .slice Ao58 x643001_3.length co58] 30 (0, 0)) (Bz BK642)) : gb642 ≠ gb661))
          have NB661_642 := Aside0.mk ((by rw [hg]; exact Nat.ne_of_gt (blk_lt (g := gb642) (o := .cells #[.int .i64 x643000_3, .slice Ao58 x643001_3.length co58] 30 (0, 0)) (Bz BK642)) : gb661 ≠ gb642))
          replace BK642 := Aside0.mk (blk_below (g := gb642) (o := .cells #[.int .i64 x643000_3, .slice Ao58 x643001_3.length co58] 30 (0, 0)) (Bz BK642) hb)
          have NB0_661 := Aside0.mk ((by rw [hg]; exact Nat.ne_of_lt (IsS88.lt (show IsS88 w0 _ g s0_0 t651 t652 from by repeat (first | (with_reducible first | exact HI0.out | apply IsS88.alloc | apply IsS88.drewN | apply IsS88.drew | apply IsS88.set_1 | apply IsS88.set_2 | refine IsS88.far ?_ NB0_630.out _ | refine IsS88.far ?_ NB0_631.out _ | refine IsS88.far ?_ NB0_642.out _) | exact HI0.out))) : g ≠ gb661))
          have NB661_0 := Aside0.mk ((by rw [hg]; exact Nat.ne_of_gt (IsS88.lt (show IsS88 w0 _ g s0_0 t651 t652 from by repeat (first | (with_reducible first | exact HI0.out | apply IsS88.alloc | apply IsS88.drewN | apply IsS88.drew | apply IsS88.set_1 | apply IsS88.set_2 | refine IsS88.far ?_ NB0_630.out _ | refine IsS88.far ?_ NB0_631.out _ | refine IsS88.far ?_ NB0_642.out _) | exact HI0.out))) : gb661 ≠ g))
          replace HI0 := Aside0.mk (IsS88.below (by repeat (first | (with_reducible first | exact HI0.out | apply IsS88.alloc | apply IsS88.drewN | apply IsS88.drew | apply IsS88.set_1 | apply IsS88.set_2 | refine IsS88.far ?_ NB0_630.out _ | refine IsS88.far ?_ NB0_631.out _ | refine IsS88.far ?_ NB0_642.out _) | exact HI0.out)) hb)
          clear hb hbox hg
          refine hK.out _ _ ⟨(blk_cell BK642.out 0).trans rfl, (blk_cell BK642.out 1).trans rfl⟩ (fun hHeld => ?_)
          clear hK K
          refine norm_ (a' := ?_) ?_ ?_
          rotate_left
          ·show Act.put _ (some 15) _ = _
           simp only [Act.put, List.setIfInBounds_toArray, List.set_cons_zero, List.set_cons_succ, i64_w, i32_w]
           rfl
          refine one_ (i := 7) (N := some 89) #[true, true, true, true, true, true, true, true, false, true, false, false, false, false, false, true, false, false] rfl rfl (one_of HT_.out (by kernel_rfl)) (by decide) (fun K hK => ?_)
          refine goes_ Try.func93 (by kernel_rfl) rfl #[.pointer (some ⟨g, 0, none⟩), .int .i64 (wrap64 ((wrap64 (2 + t632)) - 1))] (by rfl) rfl rfl (by (try simp only [List.map_toArray, List.map_cons, List.map_nil]); first | done | rfl | (simp only [List.length_drop, List.length_take]; rfl)) ?_
          with_reducible refine (spec_l01Below.calls g s0_0 t651 t652 (wrap64 ((wrap64 (2 + t632)) - 1)) t653 t654 t655 w0 _ ?side1 ?side2 A53.out).mono ?_
          (case side1 => repeat (first | (with_reducible first | exact HI0.out | apply IsS88.alloc | apply IsS88.drewN | apply IsS88.drew | apply IsS88.set_1 | apply IsS88.set_2 | refine IsS88.far ?_ NB0_630.out _ | refine IsS88.far ?_ NB0_631.out _ | refine IsS88.far ?_ NB0_642.out _ | refine IsS88.far ?_ NB0_661.out _) | exact HI0.out))
          (case side2 => repeat (first | (with_reducible first | exact HB.out | apply below_alloc | apply pw_below_drewN | apply below_drew1 | refine below_set ?_ (IsS88.ge HI0.out) | refine below_set ?_ GE630.out | refine below_set ?_ GE631.out | refine below_set ?_ GE642.out | refine below_set ?_ GE661.out) | exact HB.out))
          rintro e w61 ⟨rfl, hi, hb, hk⟩
          refine ⟨_, rfl, ?_⟩
          replace HO_632001 := Aside0.mk (Kd.R_mono (Kd.R_keep (IsS88.apart (show IsS88 w0 _ g s0_0 t651 t652 from by repeat (first | (with_reducible first | exact HI0.out | apply IsS88.alloc | apply IsS88.drewN | apply IsS88.drew | apply IsS88.set_1 | apply IsS88.set_2 | refine IsS88.far ?_ NB0_630.out _ | refine IsS88.far ?_ NB0_631.out _ | refine IsS88.far ?_ NB0_642.out _ | refine IsS88.far ?_ NB0_661.out _) | exact HI0.out)) (Rz HO_632001) (by decide)) hk (fun _ h => h.2)) (fun _ h => h.1))
          replace HO_643001 := Aside0.mk (Kd.R_mono (Kd.R_keep (IsS88.apart (show IsS88 w0 _ g s0_0 t651 t652 from by repeat (first | (with_reducible first | exact HI0.out | apply IsS88.alloc | apply IsS88.drewN | apply IsS88.drew | apply IsS88.set_1 | apply IsS88.set_2 | refine IsS88.far ?_ NB0_630.out _ | refine IsS88.far ?_ NB0_631.out _ | refine IsS88.far ?_ NB0_642.out _ | refine IsS88.far ?_ NB0_661.out _) | exact HI0.out)) (Rz HO_643001) (by decide)) hk (fun _ h => h.2)) (fun _ h => h.1))
          replace BK630 := Aside0.mk (KeepBut.blk hk (g' := gb630) (o := .cells #[.int .i64 0, .slice none 0 0] 30 (0, 0)) (Bz BK630) NB630_0.out (by simp))
          replace BK631 := Aside0.mk (KeepBut.blk hk (g' := gb631) (o := .cells #[.int .i64 x632000_1, u632001] 30 (0, 0)) (Bz BK631) NB631_0.out (by simp))
          replace BK642 := Aside0.mk (KeepBut.blk hk (g' := gb642) (o := .cells #[.int .i64 x643000_3, .slice Ao58 x643001_3.length co58] 30 (0, 0)) (Bz BK642) NB642_0.out (by simp))
          replace BK661 := Aside0.mk (KeepBut.blk hk (g' := gb661) (o := .cells #[.int .i64 0, .slice none 0 0] 30 (0, 0)) (Bz BK661) NB661_0.out (by simp))
          replace HK := Aside0.mk (KeepBut.trans (by repeat (first | (with_reducible first | exact HK.out | apply KeepBut.set_ | apply keep_drewN | apply keep_drew | apply keep_alloc | refine keep_far ?_ GW630.out _ | refine keep_far ?_ GW631.out _ | refine keep_far ?_ GW642.out _ | refine keep_far ?_ GW661.out _) | exact HK.out)) hk (.inl rfl))
          replace HB := Aside0.mk (hb)
          replace HI0 := Aside0.mk (hi)
          (try clear hb)
          (try clear hb2)
          (try clear hk)
          (try clear hi)
          refine hK.out _ _ ⟨(blk_cell BK642.out 0).trans rfl, (blk_cell BK642.out 1).trans rfl⟩ (fun hHeld => ?_)
          clear hK K
          refine norm_ (a' := ?_) ?_ ?_
          rotate_left
          ·show Act.put _ (some 89) _ = _
           simp only [Act.put, List.setIfInBounds_toArray, List.set_cons_zero, List.set_cons_succ, i64_w, i32_w]
           rfl
          refine pureT_ 8 90 HT_ ?_
          refine pureT_ 10 92 HT_ ?_
          refine one_ (i := 11) (N := some 93) #[true, true, true, true, true, true, true, true, true, true, true, true, false, false, false, true, false, false] rfl rfl (one_of HT_.out (by kernel_rfl)) (by decide) (fun K hK => ?_)
          refine goes_ Try.func94 (by kernel_rfl) rfl #[.agg #[.int .i64 x643000_3, .slice Ao58 x643001_3.length co58], .int .i64 t650, .int .i64 (Int.tmod (wrap64 ((wrap64 (t650 + 1)) + t653)) (wrap64 (2 + t632)))] (by rfl) rfl rfl (by (try simp only [List.map_toArray, List.map_cons, List.map_nil]); first | done | rfl | (simp only [List.length_drop, List.length_take]; rfl)) ?_
          with_reducible refine (spec_AddEdge.calls k3 x643000_3 _ _ x643001_3 t650 (Int.tmod (wrap64 ((wrap64 (t650 + 1)) + t653)) (wrap64 (2 + t632))) t656 t657 true _ ?side1 ?side2 A55.out).mono ?_
          (case side1 => exact Cz ((Kd.R_reads' HO_643001.out).2.2))
          (case side2 => exact (Kd.R_reads' HO_643001.out).2.1)
          rintro e w62 ⟨v658, rfl, ho0, hb⟩
          refine ⟨_, rfl, ?_⟩
          have HO659 := Aside0.mk (Kd.R_lower (Kd.R_new' (Kd.R_new' ho0 (Kd.R_lt (Rz HO_632001))) (Kd.R_lt (Rz HO_643001))) (keep_size (w := w) (g := g) (row := none) (by repeat (first | (with_reducible first | exact HK.out | apply KeepBut.set_ | apply keep_drewN | apply keep_drew | apply keep_alloc | refine keep_far ?_ GW630.out _ | refine keep_far ?_ GW631.out _ | refine keep_far ?_ GW642.out _ | refine keep_far ?_ GW661.out _) | exact HK.out))))
          replace HO_632001 := Aside0.mk (Kd.R_elder' (Rz HO_632001) (Kd.R_base ho0) hb)
          replace HO_643001 := Aside0.mk (Kd.R_elder' (Rz HO_643001) (Kd.R_base ho0) hb)
          replace BK630 := Aside0.mk (blk_below (g := gb630) (o := .cells #[.int .i64 0, .slice none 0 0] 30 (0, 0)) (Bz BK630) hb)
          replace BK631 := Aside0.mk (blk_below (g := gb631) (o := .cells #[.int .i64 x632000_1, u632001] 30 (0, 0)) (Bz BK631) hb)
          replace BK642 := Aside0.mk (blk_below (g := gb642) (o := .cells #[.int .i64 x643000_3, .slice Ao58 x643001_3.length co58] 30 (0, 0)) (Bz BK642) hb)
          replace BK661 := Aside0.mk (blk_below (g := gb661) (o := .cells #[.int .i64 0, .slice none 0 0] 30 (0, 0)) (Bz BK661) hb)
          replace HK := Aside0.mk (KeepBut.trans (by repeat (first | (with_reducible first | exact HK.out | apply KeepBut.set_ | apply keep_drewN | apply keep_drew | apply keep_alloc | refine keep_far ?_ GW630.out _ | refine keep_far ?_ GW631.out _ | refine keep_far ?_ GW642.out _ | refine keep_far ?_ GW661.out _) | exact HK.out)) (KeepBut.of_below hb g none) (.inl rfl))
          replace HB := Aside0.mk (below_step (by repeat (first | (with_reducible first | exact HB.out | apply below_alloc | apply pw_below_drewN | apply below_drew1 | refine below_set ?_ (IsS88.ge HI0.out) | refine below_set ?_ GE630.out | refine below_set ?_ GE631.out | refine below_set ?_ GE642.out | refine below_set ?_ GE661.out) | exact HB.out)) hb)
          replace HI0 := Aside0.mk (IsS88.below (by repeat (first | (with_reducible first | exact HI0.out | apply IsS88.alloc | apply IsS88.drewN | apply IsS88.drew | apply IsS88.set_1 | apply IsS88.set_2 | refine IsS88.far ?_ NB0_630.out _ | refine IsS88.far ?_ NB0_631.out _ | refine IsS88.far ?_ NB0_642.out _ | refine IsS88.far ?_ NB0_661.out _) | exact HI0.out)) hb)
          (try clear hb)
          (try clear hb2)
          (try clear hk)
          (try clear hi)
          (try clear ho0)
          refine hK.out _ _ ⟨(blk_cell BK642.out 0).trans rfl, (blk_cell BK642.out 1).trans rfl⟩ (fun hHeld => ?_)
          clear hK K
          refine norm_ (a' := ?_) ?_ ?_
          rotate_left
          ·show Act.put _ (some 93) _ = _
           simp only [Act.put, List.setIfInBounds_toArray, List.set_cons_zero, List.set_cons_succ, i64_w, i32_w]
           rfl
          refine pureT_ 12 81 HT_ ?_
          refine pureT_ 13 94 HT_ ?_
          refine pureT_ 14 95 HT_ ?_
          exact norm_ (by simp only [putAll, Act.put, List.setIfInBounds_toArray, List.set_cons_zero, List.set_cons_succ]) (hCont (v658, gb661) _ ⟨hHeld, (by (with_reducible repeat (first | apply Kd.R_alloc | apply Kd.R_drewN | apply Kd.R_drew)); exact Kd.R_mono HO659.out (fun _ hk => ⟨hk.1.2, hk.2⟩)), (by (with_reducible repeat (first | apply Kd.R_alloc | apply Kd.R_drewN | apply Kd.R_drew)); exact Kd.R_mono HO_632001.out (fun _ hk => ⟨hk.2, hk.1⟩)), (by (with_reducible repeat (first | apply Kd.R_alloc | apply Kd.R_drewN | apply Kd.R_drew)); exact Kd.R_mono HO_643001.out (fun _ hk => ⟨hk.2, hk.1⟩)), (Bz BK630), (Bz BK631), (Bz BK642), (Bz BK661), GW661.out, GE661.out, NB0_661.out, NB661_0.out, NB630_661.out, NB661_630.out, NB631_661.out, NB661_631.out, NB642_661.out, NB661_642.out, (by repeat (first | (with_reducible first | exact HI0.out | apply IsS88.alloc | apply IsS88.drewN | apply IsS88.drew | apply IsS88.set_1 | apply IsS88.set_2 | refine IsS88.far ?_ NB0_630.out _ | refine IsS88.far ?_ NB0_631.out _ | refine IsS88.far ?_ NB0_642.out _ | refine IsS88.far ?_ NB0_661.out _) | exact HI0.out)), (by repeat (first | (with_reducible first | exact HK.out | apply KeepBut.set_ | apply keep_drewN | apply keep_drew | apply keep_alloc | refine keep_far ?_ GW630.out _ | refine keep_far ?_ GW631.out _ | refine keep_far ?_ GW642.out _ | refine keep_far ?_ GW661.out _) | exact HK.out)), (by repeat (first | (with_reducible first | exact HB.out | apply below_alloc | apply pw_below_drewN | apply below_drew1 | refine below_set ?_ (IsS88.ge HI0.out) | refine below_set ?_ GE630.out | refine below_set ?_ GE631.out | refine below_set ?_ GE642.out | refine below_set ?_ GE661.out) | exact HB.out))⟩)
         rintro ⟨v658, gb661⟩ w63 ⟨hS_, h0_, h1_, h2_, h3_, h4_, h5_, h6_, h7_, h8_, h9_, h10_, h11_, h12_, h13_, h14_, h15_, h16_, h17_, h18_, h19_⟩
         have n0_ : Aside0 (Kd.R k57 57 w63 w.heap.size (fun k_ => some k_ ≠ (u632001 : Value).ownBlock ∧ some k_ ≠ (.slice Ao58 x643001_3.length co58 : Value).ownBlock) v658 t657) := ⟨h0_⟩
         have n1_ : Aside0 (Kd.R k57 57 w63 w.heap.size (fun k_ => some k_ ≠ (v658 : Value).ownBlock ∧ some k_ ≠ (.slice Ao58 x643001_3.length co58 : Value).ownBlock) u632001 x632001_1) := ⟨h1_⟩
         have n2_ : Aside0 (Kd.R k57 57 w63 w.heap.size (fun k_ => some k_ ≠ (v658 : Value).ownBlock ∧ some k_ ≠ (u632001 : Value).ownBlock) (.slice Ao58 x643001_3.length co58) x643001_3) := ⟨h2_⟩
         have n3_ : Aside0 (w63.heap[gb630]? = some (.cells #[.int .i64 0, .slice none 0 0] 30 (0, 0))) := ⟨h3_⟩
         have n4_ : Aside0 (w63.heap[gb631]? = some (.cells #[.int .i64 x632000_1, u632001] 30 (0, 0))) := ⟨h4_⟩
         have n5_ : Aside0 (w63.heap[gb642]? = some (.cells #[.int .i64 x643000_3, .slice Ao58 x643001_3.length co58] 30 (0, 0))) := ⟨h5_⟩
         have n6_ : Aside0 (w63.heap[gb661]? = some (.cells #[.int .i64 0, .slice none 0 0] 30 (0, 0))) := ⟨h6_⟩
         have n7_ : Aside0 (w.heap.size ≤ gb661) := ⟨h7_⟩
         have n8_ : Aside0 (w0.heap.size ≤ gb661) := ⟨h8_⟩
         have n9_ : Aside0 (g ≠ gb661) := ⟨h9_⟩
         have n10_ : Aside0 (gb661 ≠ g) := ⟨h10_⟩
         have n11_ : Aside0 (gb630 ≠ gb661) := ⟨h11_⟩
         have n12_ : Aside0 (gb661 ≠ gb630) := ⟨h12_⟩
         have n13_ : Aside0 (gb631 ≠ gb661) := ⟨h13_⟩
         have n14_ : Aside0 (gb661 ≠ gb631) := ⟨h14_⟩
         have n15_ : Aside0 (gb642 ≠ gb661) := ⟨h15_⟩
         have n16_ : Aside0 (gb661 ≠ gb642) := ⟨h16_⟩
         have n17_ : Aside0 (IsS88 w0 w63 g s0_0 t654 t655) := ⟨h17_⟩
         have n18_ : Aside0 (KeepBut w w63 g none) := ⟨h18_⟩
         have n19_ : Aside0 (Below w0.heap.size w0 w63) := ⟨h19_⟩
         clear HO_632001
         clear HO_643001
         clear BK630
         clear BK631
         clear BK642
         clear HI0
         clear HK
         clear HB
         clear h0_ h1_ h2_ h3_ h4_ h5_ h6_ h7_ h8_ h9_ h10_ h11_ h12_ h13_ h14_ h15_ h16_ h17_ h18_ h19_
         have HO659 := n0_
         have HO_632001 := n1_
         have HO_643001 := n2_
         have BK630 := n3_
         have BK631 := n4_
         have BK642 := n5_
         have BK661 := n6_
         have GW661 := n7_
         have GE661 := n8_
         have NB0_661 := n9_
         have NB661_0 := n10_
         have NB630_661 := n11_
         have NB661_630 := n12_
         have NB631_661 := n13_
         have NB661_631 := n14_
         have NB642_661 := n15_
         have NB661_642 := n16_
         have HI0 := n17_
         have HK := n18_
         have HB := n19_
         clear n0_ n1_ n2_ n3_ n4_ n5_ n6_ n7_ n8_ n9_ n10_ n11_ n12_ n13_ n14_ n15_ n16_ n17_ n18_ n19_
         have hHeld : w63.cell? ⟨gb642, 0, none⟩ = some (.int .i64 x643000_3) ∧ w63.cell? ⟨gb642, 1, none⟩ = some (.slice Ao58 x643001_3.length co58) := hS_
         obtain ⟨Ao65, co65, eo65⟩ := Kd.R_slice HO659.out
         (first | subst eo65 | (injection eo65 with f1_ f2_ f3_; have f4_ := f1_.symm; have f5_ := f3_.symm; clear f1_ f2_ f3_; subst f4_; subst f5_))
         refine norm_ (a' := ?_) ?_ ?_
         rotate_left
         ·simp only [putAll, Act.put, List.setIfInBounds_toArray, List.set_cons_zero, List.set_cons_succ]
          rfl
         refine one_ (i := 16) (N := none) #[true, true, true, true, true, true, true, true, true, true, true, true, true, true, true, true, true, false] rfl rfl (one_of HT_.out (by kernel_rfl)) (by decide) (fun K hK => ?_)
         have hs64 : w63.cell? ⟨gb661, 0, none⟩ = some (.int .i64 0) := (blk_cell BK661.out 0).trans rfl
         have hfs64 := blk_frozen BK661.out 0
         have hns64_0 := NB630_661.out
         have hns64_1 := NB631_661.out
         have hns64_2 := NB642_661.out
         have hms64_0 := NB661_630.out
         have hms64_1 := NB661_631.out
         have hms64_2 := NB661_642.out
         have hs66 : w63.cell? ⟨gb661, 1, none⟩ = some (.slice none 0 0) := (blk_cell BK661.out 1).trans rfl
         have hfs66 := blk_frozen BK661.out 1
         have hns66_0 := NB630_661.out
         have hns66_1 := NB631_661.out
         have hns66_2 := NB642_661.out
         have hms66_0 := NB661_630.out
         have hms66_1 := NB661_631.out
         have hms66_2 := NB661_642.out
         refine skip_ (w1 := ?_) (by rfl) rfl ?_ ?_
         rotate_left
         ·go_simp
          rfl
         refine hK.out _ _ ⟨((cell_far (p := ⟨gb661, _, none⟩) NB642_661.out _).trans (((cell_far (p := ⟨gb661, _, none⟩) NB642_661.out _).trans (hHeld.1)))), ((cell_far (p := ⟨gb661, _, none⟩) NB642_661.out _).trans (((cell_far (p := ⟨gb661, _, none⟩) NB642_661.out _).trans (hHeld.2))))⟩ (fun hHeld => ?_)
         clear hK K
         refine pureT_ 17 16 HT_ ?_
         refine done_ (done_of HT_.out (by kernel_rfl)) ?_
         have hnb67 := NB661_630.out
         have hnc67 := NB630_661.out
         have hnb68 := NB661_631.out
         have hnc68 := NB631_661.out
         have hnb69 := NB661_642.out
         have hnc69 := NB642_661.out
         have hnb70 := NB661_0.out
         have hnc70 := NB0_661.out
         have hcz71_0 : w63.cell? ⟨gb661, 0, none⟩ = some (.int .i64 0) := (blk_cell BK661.out 0).trans rfl
         have hcz71_1 : w63.cell? ⟨gb661, 1, none⟩ = some (.slice none 0 0) := (blk_cell BK661.out 1).trans rfl
         have hfz71_0 := blk_frozen BK661.out 0
         have hfz71_1 := blk_frozen BK661.out 1
         have hnb72 := NB642_630.out
         have hnc72 := NB630_642.out
         have hnb73 := NB642_631.out
         have hnc73 := NB631_642.out
         have hnb74 := NB642_0.out
         have hnc74 := NB0_642.out
         have hcz75_0 : w63.cell? ⟨gb642, 0, none⟩ = some (.int .i64 x643000_3) := (blk_cell BK642.out 0).trans rfl
         have hcz75_1 : w63.cell? ⟨gb642, 1, none⟩ = some (.slice Ao58 x643001_3.length co58) := (blk_cell BK642.out 1).trans rfl
         have hfz75_0 := blk_frozen BK642.out 0
         have hfz75_1 := blk_frozen BK642.out 1
         try go_wp2
         go_roundg k3
         case measure => have := HK1.out; have := HK2.out; have := HK3.out; omega
         case rel => exact ⟨(wrap64 (x13_3 - 1)), (t654), (t655), (t656), (t657), (.slice Ao65 t657.length co65), eqA, H', ⟨by have := HK1.out; have := HK2.out; have := HK3.out; omega⟩, ⟨by (with_reducible repeat (first | apply Kd.R_alloc | apply Kd.R_drewN | apply Kd.R_drew)); exact Kd.R_mono (Kd.R_far (p := ⟨gb642, 1, none⟩) (Kd.R_far (p := ⟨gb642, 0, none⟩) (Kd.R_far (p := ⟨gb661, 1, none⟩) (Kd.R_far (p := ⟨gb661, 0, none⟩) (Kd.R_types (Kd.R_types HO_632001.out BK661.out (by decide)) BK642.out (by decide)) (fun _ hk => hk.1.2) (.int .i64 t656)) (fun _ hk => hk.1.2) (.slice Ao65 t657.length co65)) (fun _ hk => hk.2) (.int .i64 t656)) (fun _ hk => hk.2) (.slice Ao65 t657.length co65)) (fun _ hk => hk.1.1.1)⟩, ⟨by (with_reducible repeat (first | apply Kd.R_alloc | apply Kd.R_drewN | apply Kd.R_drew)); exact Kd.R_mono (Kd.R_far (p := ⟨gb642, 1, none⟩) (Kd.R_far (p := ⟨gb642, 0, none⟩) (Kd.R_far (p := ⟨gb661, 1, none⟩) (Kd.R_far (p := ⟨gb661, 0, none⟩) (Kd.R_types (Kd.R_types HO659.out BK661.out (by decide)) BK642.out (by decide)) (fun _ hk => hk.1.2) (.int .i64 t656)) (fun _ hk => hk.1.2) (.slice Ao65 t657.length co65)) (fun _ hk => hk.2) (.int .i64 t656)) (fun _ hk => hk.2) (.slice Ao65 t657.length co65)) (fun _ hk => hk.1.1.1)⟩, ⟨by (with_reducible repeat (first | refine blk_drewN ?_ _ | refine blk_drew ?_ | refine blk_alloc ?_ _)); refine blk_far ?_ NB630_642.out _; (with_reducible repeat (first | refine blk_drewN ?_ _ | refine blk_drew ?_ | refine blk_alloc ?_ _)); refine blk_far ?_ NB630_642.out _; (with_reducible repeat (first | refine blk_drewN ?_ _ | refine blk_drew ?_ | refine blk_alloc ?_ _)); refine blk_far ?_ NB630_661.out _; (with_reducible repeat (first | refine blk_drewN ?_ _ | refine blk_drew ?_ | refine blk_alloc ?_ _)); refine blk_far ?_ NB630_661.out _; exact Bz BK630⟩, ⟨by (with_reducible repeat (first | refine blk_drewN ?_ _ | refine blk_drew ?_ | refine blk_alloc ?_ _)); refine blk_far ?_ NB631_642.out _; (with_reducible repeat (first | refine blk_drewN ?_ _ | refine blk_drew ?_ | refine blk_alloc ?_ _)); refine blk_far ?_ NB631_642.out _; (with_reducible repeat (first | refine blk_drewN ?_ _ | refine blk_drew ?_ | refine blk_alloc ?_ _)); refine blk_far ?_ NB631_661.out _; (with_reducible repeat (first | refine blk_drewN ?_ _ | refine blk_drew ?_ | refine blk_alloc ?_ _)); refine blk_far ?_ NB631_661.out _; exact Bz BK631⟩, ⟨by (with_reducible repeat (first | refine blk_drewN ?_ _ | refine blk_drew ?_ | refine blk_alloc ?_ _)); refine blk_put (cs := #[.int .i64 t656, .slice Ao58 x643001_3.length co58]) ?_ 1 _ rfl; (with_reducible repeat (first | refine blk_drewN ?_ _ | refine blk_drew ?_ | refine blk_alloc ?_ _)); refine blk_put (cs := #[.int .i64 x643000_3, .slice Ao58 x643001_3.length co58]) ?_ 0 _ rfl; (with_reducible repeat (first | refine blk_drewN ?_ _ | refine blk_drew ?_ | refine blk_alloc ?_ _)); refine blk_far ?_ NB642_661.out _; (with_reducible repeat (first | refine blk_drewN ?_ _ | refine blk_drew ?_ | refine blk_alloc ?_ _)); refine blk_far ?_ NB642_661.out _; exact Bz BK642⟩, ⟨by repeat (first | (with_reducible first | exact HI0.out | apply IsS88.alloc | apply IsS88.drewN | apply IsS88.drew | apply IsS88.set_1 | apply IsS88.set_2 | refine IsS88.far ?_ NB0_630.out _ | refine IsS88.far ?_ NB0_631.out _ | refine IsS88.far ?_ NB0_642.out _ | refine IsS88.far ?_ NB0_661.out _) | exact HI0.out)⟩, ⟨by repeat (first | (with_reducible first | exact HK.out | apply KeepBut.set_ | apply keep_drewN | apply keep_drew | apply keep_alloc | refine keep_far ?_ GW630.out _ | refine keep_far ?_ GW631.out _ | refine keep_far ?_ GW642.out _ | refine keep_far ?_ GW661.out _) | exact HK.out)⟩, ⟨by repeat (first | (with_reducible first | exact HB.out | apply below_alloc | apply pw_below_drewN | apply below_drew1 | refine below_set ?_ (IsS88.ge HI0.out) | refine below_set ?_ GE630.out | refine below_set ?_ GE631.out | refine below_set ?_ GE642.out | refine below_set ?_ GE661.out) | exact HB.out)⟩⟩
        replace c56 := Bool.eq_false_iff.mpr c56
        subst c56
        have H1 : (spec_l02Draw.l4 k3 (wrap64 (2 + t632)) (wrap64 (x13_3 - 1)) s0_0 t654 t655 x643000_3 x643001_3) = some (r1, r2, r3, r4) := by rw [if_neg (show ¬ (false = true) by decide)] at H; exact H
        clear H
        have H := H1
        clear H1
        have H' := Aside0.mk H
        clear H
        try go_wp2_with (first | ((with_reducible refine gate_callee (f := 93) rfl ?_); refine goesM_ (some 80) rfl rfl Try.func93 (by kernel_rfl) rfl #[.pointer (some ⟨g, 0, none⟩), .int .i64 (wrap64 (2 + t632))] rfl ?_; (with_reducible refine (spec_l01Below.calls g s0_0 x1001_3 x1002_3 (wrap64 (2 + t632)) t650 t651 t652 w0 _ ?side1 ?side2 A52.out).mono ?_); (case side1 => repeat (first | (with_reducible first | exact HI0.out | apply IsS88.alloc | apply IsS88.drewN | apply IsS88.drew | apply IsS88.set_1 | apply IsS88.set_2 | refine IsS88.far ?_ NB0_630.out _ | refine IsS88.far ?_ NB0_631.out _ | refine IsS88.far ?_ NB0_642.out _) | exact HI0.out)); (case side2 => repeat (first | (with_reducible first | exact HB.out | apply below_alloc | apply pw_below_drewN | apply below_drew1 | refine below_set ?_ (IsS88.ge HI0.out) | refine below_set ?_ GE630.out | refine below_set ?_ GE631.out | refine below_set ?_ GE642.out) | exact HB.out)); rintro e w76 ⟨rfl, hi, hb, hk⟩; refine ⟨_, rfl, ?_⟩; replace HO_632001 := Aside0.mk (Kd.R_mono (Kd.R_keep (IsS88.apart (show IsS88 w0 _ g s0_0 x1001_3 x1002_3 from by repeat (first | (with_reducible first | exact HI0.out | apply IsS88.alloc | apply IsS88.drewN | apply IsS88.drew | apply IsS88.set_1 | apply IsS88.set_2 | refine IsS88.far ?_ NB0_630.out _ | refine IsS88.far ?_ NB0_631.out _ | refine IsS88.far ?_ NB0_642.out _) | exact HI0.out)) (Rz HO_632001) (by decide)) hk (fun _ h => h.2)) (fun _ h => h.1)); replace HO_643001 := Aside0.mk (Kd.R_mono (Kd.R_keep (IsS88.apart (show IsS88 w0 _ g s0_0 x1001_3 x1002_3 from by repeat (first | (with_reducible first | exact HI0.out | apply IsS88.alloc | apply IsS88.drewN | apply IsS88.drew | apply IsS88.set_1 | apply IsS88.set_2 | refine IsS88.far ?_ NB0_630.out _ | refine IsS88.far ?_ NB0_631.out _ | refine IsS88.far ?_ NB0_642.out _) | exact HI0.out)) (Rz HO_643001) (by decide)) hk (fun _ h => h.2)) (fun _ h => h.1)); replace BK630 := Aside0.mk (KeepBut.blk hk (g' := gb630) (o := .cells #[.int .i64 0, .slice none 0 0] 30 (0, 0)) (Bz BK630) NB630_0.out (by simp)); replace BK631 := Aside0.mk (KeepBut.blk hk (g' := gb631) (o := .cells #[.int .i64 x632000_1, u632001] 30 (0, 0)) (Bz BK631) NB631_0.out (by simp)); replace BK642 := Aside0.mk (KeepBut.blk hk (g' := gb642) (o := .cells #[.int .i64 x643000_3, u643001] 30 (0, 0)) (Bz BK642) NB642_0.out (by simp)); replace HK := Aside0.mk (KeepBut.trans (by repeat (first | (with_reducible first | exact HK.out | apply KeepBut.set_ | apply keep_drewN | apply keep_drew | apply keep_alloc | refine keep_far ?_ GW630.out _ | refine keep_far ?_ GW631.out _ | refine keep_far ?_ GW642.out _) | exact HK.out)) hk (.inl rfl)); replace HB := Aside0.mk (hb); replace HI0 := Aside0.mk (hi); (try clear hb); (try clear hb2); (try clear hk); (try clear hi); obtain ⟨Ao77, co77, eo77⟩ := Kd.R_slice HO_643001.out; subst eo77))
        replace HO_632001 := Aside0.mk (Kd.R_drew HO_632001.out)
        replace HO_643001 := Aside0.mk (Kd.R_drew HO_643001.out)
        replace BK630 := Aside0.mk (blk_drew BK630.out)
        replace BK631 := Aside0.mk (blk_drew BK631.out)
        replace BK642 := Aside0.mk (blk_drew BK642.out)
        replace HI0 := Aside0.mk (IsS88.drew HI0.out)
        replace HK := Aside0.mk (keep_drew HK.out)
        replace HB := Aside0.mk (below_drew1 HB.out)
        refine start_ (n := 18) (S := fun w' => w'.cell? ⟨gb642, 0, none⟩ = some (.int .i64 x643000_3) ∧ w'.cell? ⟨gb642, 1, none⟩ = some (.slice Ao77 x643001_3.length co77)) (ds := []) #[false, false, false, false, false, false, false, false, false, false, false, false, false, false, false, false, false, false] (by kernel_rfl) rfl rfl ⟨(blk_cell BK642.out 0).trans rfl, (blk_cell BK642.out 1).trans rfl⟩ (fun hHeld => ?_); refine with_tabW spec_l02Draw.tab24 spec_l02Draw.bits24 (fun HT_ HW_ => ?_)
        generalize w76.drew = w78 at HO_632001 HO_643001 BK630 BK631 BK642 HI0 HK HB hHeld ⊢
        refine pureT_ 1 83 HT_ ?_
        refine pureT_ 2 84 HT_ ?_
        refine pureT_ 3 85 HT_ ?_
        refine pureT_ 4 86 HT_ ?_
        refine pureT_ 5 87 HT_ ?_
        refine pureT_ 6 88 HT_ ?_
        refine pureT_ 9 91 HT_ ?_
        refine takeT_ 0 82 HT_ HW_ hHeld rfl (by rintro w' ⟨s0, s1⟩; go_simp; with_reducible rfl) ?_
        refine join_ (σ := Value × Nat) 2 #[true, true, true, true, true, true, true, true, true, true, true, true, true, true, true, true, false, false] (fun s_ => [(89, .int .i64 t653), (93, .tuple #[.agg #[.int .i64 t656, s_.1], .bool false]), (15, .pointer (some ⟨s_.2, 0, none⟩)), (90, .int .i64 (wrap64 ((wrap64 (t650 + 1)) + t653))), (92, .int .i64 (Int.tmod (wrap64 ((wrap64 (t650 + 1)) + t653)) (wrap64 (2 + t632)))), (81, .tuple #[.agg #[.int .i64 t656, s_.1], .bool false]), (94, .agg #[.int .i64 t656, s_.1]), (95, .bool false)]) (fun s_ w' => (w'.cell? ⟨gb642, 0, none⟩ = some (.int .i64 x643000_3) ∧ w'.cell? ⟨gb642, 1, none⟩ = some (.slice Ao77 x643001_3.length co77)) ∧ (Kd.R k57 57 w' w.heap.size (fun k_ => some k_ ≠ (u632001 : Value).ownBlock ∧ some k_ ≠ (.slice Ao77 x643001_3.length co77 : Value).ownBlock) s_.1 t657) ∧ (Kd.R k57 57 w' w.heap.size (fun k_ => some k_ ≠ (s_.1 : Value).ownBlock ∧ some k_ ≠ (.slice Ao77 x643001_3.length co77 : Value).ownBlock) u632001 x632001_1) ∧ (Kd.R k57 57 w' w.heap.size (fun k_ => some k_ ≠ (s_.1 : Value).ownBlock ∧ some k_ ≠ (u632001 : Value).ownBlock) (.slice Ao77 x643001_3.length co77) x643001_3) ∧ (w'.heap[gb630]? = some (.cells #[.int .i64 0, .slice none 0 0] 30 (0, 0))) ∧ (w'.heap[gb631]? = some (.cells #[.int .i64 x632000_1, u632001] 30 (0, 0))) ∧ (w'.heap[gb642]? = some (.cells #[.int .i64 x643000_3, .slice Ao77 x643001_3.length co77] 30 (0, 0))) ∧ (w'.heap[s_.2]? = some (.cells #[.int .i64 0, .slice none 0 0] 30 (0, 0))) ∧ (w.heap.size ≤ s_.2) ∧ (w0.heap.size ≤ s_.2) ∧ (g ≠ s_.2) ∧ (s_.2 ≠ g) ∧ (gb630 ≠ s_.2) ∧ (s_.2 ≠ gb630) ∧ (gb631 ≠ s_.2) ∧ (s_.2 ≠ gb631) ∧ (gb642 ≠ s_.2) ∧ (s_.2 ≠ gb642) ∧ (IsS88 w0 w' g s0_0 t654 t655) ∧ (KeepBut w w' g none) ∧ (Below w0.heap.size w0 w')) ?_ ?_
        rotate_left
        ·intro hCont
         refine two_ (i := 7) (j := 15) (Ni := some 89) (Nj := some 15) #[true, true, true, true, true, true, true, true, false, true, false, false, false, false, false, false, false, false] #[true, true, true, true, true, true, true, false, false, true, false, false, false, false, false, true, false, false] rfl rfl rfl rfl (two_of HT_.out (by kernel_rfl)) (by decide) (by decide) (fun K hK => ?_) (fun K hK => ?_)
         ·skip
          refine goes_ Try.func93 (by kernel_rfl) rfl #[.pointer (some ⟨g, 0, none⟩), .int .i64 (wrap64 ((wrap64 (2 + t632)) - 1))] (by rfl) rfl rfl (by (try simp only [List.map_toArray, List.map_cons, List.map_nil]); first | done | rfl | (simp only [List.length_drop, List.length_take]; rfl)) ?_
          with_reducible refine (spec_l01Below.calls g s0_0 t651 t652 (wrap64 ((wrap64 (2 + t632)) - 1)) t653 t654 t655 w0 _ ?side1 ?side2 A53.out).mono ?_
          (case side1 => repeat (first | (with_reducible first | exact HI0.out | apply IsS88.alloc | apply IsS88.drewN | apply IsS88.drew | apply IsS88.set_1 | apply IsS88.set_2 | refine IsS88.far ?_ NB0_630.out _ | refine IsS88.far ?_ NB0_631.out _ | refine IsS88.far ?_ NB0_642.out _) | exact HI0.out))
          (case side2 => repeat (first | (with_reducible first | exact HB.out | apply below_alloc | apply pw_below_drewN | apply below_drew1 | refine below_set ?_ (IsS88.ge HI0.out) | refine below_set ?_ GE630.out | refine below_set ?_ GE631.out | refine below_set ?_ GE642.out) | exact HB.out))
          rintro e w79 ⟨rfl, hi, hb, hk⟩
          refine ⟨_, rfl, ?_⟩
          replace HO_632001 := Aside0.mk (Kd.R_mono (Kd.R_keep (IsS88.apart (show IsS88 w0 _ g s0_0 t651 t652 from by repeat (first | (with_reducible first | exact HI0.out | apply IsS88.alloc | apply IsS88.drewN | apply IsS88.drew | apply IsS88.set_1 | apply IsS88.set_2 | refine IsS88.far ?_ NB0_630.out _ | refine IsS88.far ?_ NB0_631.out _ | refine IsS88.far ?_ NB0_642.out _) | exact HI0.out)) (Rz HO_632001) (by decide)) hk (fun _ h => h.2)) (fun _ h => h.1))
          replace HO_643001 := Aside0.mk (Kd.R_mono (Kd.R_keep (IsS88.apart (show IsS88 w0 _ g s0_0 t651 t652 from by repeat (first | (with_reducible first | exact HI0.out | apply IsS88.alloc | apply IsS88.drewN | apply IsS88.drew | apply IsS88.set_1 | apply IsS88.set_2 | refine IsS88.far ?_ NB0_630.out _ | refine IsS88.far ?_ NB0_631.out _ | refine IsS88.far ?_ NB0_642.out _) | exact HI0.out)) (Rz HO_643001) (by decide)) hk (fun _ h => h.2)) (fun _ h => h.1))
          replace BK630 := Aside0.mk (KeepBut.blk hk (g' := gb630) (o := .cells #[.int .i64 0, .slice none 0 0] 30 (0, 0)) (Bz BK630) NB630_0.out (by simp))
          replace BK631 := Aside0.mk (KeepBut.blk hk (g' := gb631) (o := .cells #[.int .i64 x632000_1, u632001] 30 (0, 0)) (Bz BK631) NB631_0.out (by simp))
          replace BK642 := Aside0.mk (KeepBut.blk hk (g' := gb642) (o := .cells #[.int .i64 x643000_3, .slice Ao77 x643001_3.length co77] 30 (0, 0)) (Bz BK642) NB642_0.out (by simp))
          replace HK := Aside0.mk (KeepBut.trans (by repeat (first | (with_reducible first | exact HK.out | apply KeepBut.set_ | apply keep_drewN | apply keep_drew | apply keep_alloc | refine keep_far ?_ GW630.out _ | refine keep_far ?_ GW631.out _ | refine keep_far ?_ GW642.out _) | exact HK.out)) hk (.inl rfl))
          replace HB := Aside0.mk (hb)
          replace HI0 := Aside0.mk (hi)
          (try clear hb)
          (try clear hb2)
          (try clear hk)
          (try clear hi)
          refine hK.out _ _ ⟨(blk_cell BK642.out 0).trans rfl, (blk_cell BK642.out 1).trans rfl⟩ (fun hHeld => ?_)
          clear hK K
          refine norm_ (a' := ?_) ?_ ?_
          rotate_left
          ·show Act.put _ (some 89) _ = _
           simp only [Act.put, List.setIfInBounds_toArray, List.set_cons_zero, List.set_cons_succ, i64_w, i32_w]
           rfl
          refine pureT_ 8 90 HT_ ?_
          refine pureT_ 10 92 HT_ ?_
          refine two_ (i := 11) (j := 15) (Ni := some 93) (Nj := some 15) #[true, true, true, true, true, true, true, true, true, true, true, true, false, false, false, false, false, false] #[true, true, true, true, true, true, true, true, true, true, true, false, false, false, false, true, false, false] rfl rfl rfl rfl (two_of HT_.out (by kernel_rfl)) (by decide) (by decide) (fun K hK => ?_) (fun K hK => ?_)
          ·skip
           refine goes_ Try.func94 (by kernel_rfl) rfl #[.agg #[.int .i64 x643000_3, .slice Ao77 x643001_3.length co77], .int .i64 t650, .int .i64 (Int.tmod (wrap64 ((wrap64 (t650 + 1)) + t653)) (wrap64 (2 + t632)))] (by rfl) rfl rfl (by (try simp only [List.map_toArray, List.map_cons, List.map_nil]); first | done | rfl | (simp only [List.length_drop, List.length_take]; rfl)) ?_
           with_reducible refine (spec_AddEdge.calls k3 x643000_3 _ _ x643001_3 t650 (Int.tmod (wrap64 ((wrap64 (t650 + 1)) + t653)) (wrap64 (2 + t632))) t656 t657 false _ ?side1 ?side2 A55.out).mono ?_
           (case side1 => exact Cz ((Kd.R_reads' HO_643001.out).2.2))
           (case side2 => exact (Kd.R_reads' HO_643001.out).2.1)
           rintro e w80 ⟨v658, rfl, ho0, hb⟩
           refine ⟨_, rfl, ?_⟩
           have HO659 := Aside0.mk (Kd.R_lower (Kd.R_new' (Kd.R_new' ho0 (Kd.R_lt (Rz HO_632001))) (Kd.R_lt (Rz HO_643001))) (keep_size (w := w) (g := g) (row := none) (by repeat (first | (with_reducible first | exact HK.out | apply KeepBut.set_ | apply keep_drewN | apply keep_drew | apply keep_alloc | refine keep_far ?_ GW630.out _ | refine keep_far ?_ GW631.out _ | refine keep_far ?_ GW642.out _) | exact HK.out))))
           replace HO_632001 := Aside0.mk (Kd.R_elder' (Rz HO_632001) (Kd.R_base ho0) hb)
           replace HO_643001 := Aside0.mk (Kd.R_elder' (Rz HO_643001) (Kd.R_base ho0) hb)
           replace BK630 := Aside0.mk (blk_below (g := gb630) (o := .cells #[.int .i64 0, .slice none 0 0] 30 (0, 0)) (Bz BK630) hb)
           replace BK631 := Aside0.mk (blk_below (g := gb631) (o := .cells #[.int .i64 x632000_1, u632001] 30 (0, 0)) (Bz BK631) hb)
           replace BK642 := Aside0.mk (blk_below (g := gb642) (o := .cells #[.int .i64 x643000_3, .slice Ao77 x643001_3.length co77] 30 (0, 0)) (Bz BK642) hb)
           replace HK := Aside0.mk (KeepBut.trans (by repeat (first | (with_reducible first | exact HK.out | apply KeepBut.set_ | apply keep_drewN | apply keep_drew | apply keep_alloc | refine keep_far ?_ GW630.out _ | refine keep_far ?_ GW631.out _ | refine keep_far ?_ GW642.out _) | exact HK.out)) (KeepBut.of_below hb g none) (.inl rfl))
           replace HB := Aside0.mk (below_step (by repeat (first | (with_reducible first | exact HB.out | apply below_alloc | apply pw_below_drewN | apply below_drew1 | refine below_set ?_ (IsS88.ge HI0.out) | refine below_set ?_ GE630.out | refine below_set ?_ GE631.out | refine below_set ?_ GE642.out) | exact HB.out)) hb)
           replace HI0 := Aside0.mk (IsS88.below (by repeat (first | (with_reducible first | exact HI0.out | apply IsS88.alloc | apply IsS88.drewN | apply IsS88.drew | apply IsS88.set_1 | apply IsS88.set_2 | refine IsS88.far ?_ NB0_630.out _ | refine IsS88.far ?_ NB0_631.out _ | refine IsS88.far ?_ NB0_642.out _) | exact HI0.out)) hb)
           (try clear hb)
           (try clear hb2)
           (try clear hk)
           (try clear hi)
           (try clear ho0)
           refine hK.out _ _ ⟨(blk_cell BK642.out 0).trans rfl, (blk_cell BK642.out 1).trans rfl⟩ (fun hHeld => ?_)
           clear hK K
           refine norm_ (a' := ?_) ?_ ?_
           rotate_left
           ·show Act.put _ (some 93) _ = _
            simp only [Act.put, List.setIfInBounds_toArray, List.set_cons_zero, List.set_cons_succ, i64_w, i32_w]
            rfl
           refine pureT_ 12 81 HT_ ?_
           refine pureT_ 13 94 HT_ ?_
           refine pureT_ 14 95 HT_ ?_
           refine one_ (i := 15) (N := some 15) #[true, true, true, true, true, true, true, true, true, true, true, true, true, true, true, true, false, false] rfl rfl (one_of HT_.out (by kernel_rfl)) (by decide) (fun K hK => ?_)
           refine box_step ?hg (N := 15) ?hd (cs := #[.int .i64 0, .slice none 0 0]) (t := 30) ?hr ?_; (case hd => rfl); (case hg => rfl); (case hr => first | (go_simp; done) | (go_simp; rfl))
           intro gb661 hg w81 hbox hb
           replace HO_632001 := Aside0.mk (Kd.R_below (Rz HO_632001) hb)
           replace HO_643001 := Aside0.mk (Kd.R_below (Rz HO_643001) hb)
           replace HO659 := Aside0.mk (Kd.R_below (Rz HO659) hb)
           replace HB := Aside0.mk (below_step (by repeat (first | (with_reducible first | exact HB.out | apply below_alloc | apply pw_below_drewN | apply below_drew1 | refine below_set ?_ (IsS88.ge HI0.out) | refine below_set ?_ GE630.out | refine below_set ?_ GE631.out | refine below_set ?_ GE642.out) | exact HB.out)) hb)
           have BK661 := Aside0.mk (hbox)
           have GW661 := Aside0.mk ((by rw [hg]; exact (keep_size (w := w) (g := g) (row := none) (by repeat (first | (with_reducible first | exact HK.out | apply KeepBut.set_ | apply keep_drewN | apply keep_drew | apply keep_alloc | refine keep_far ?_ GW630.out _ | refine keep_far ?_ GW631.out _ | refine keep_far ?_ GW642.out _) | exact HK.out))) : w.heap.size ≤ gb661))
           have GE661 := Aside0.mk ((Nat.le_trans HW0.out (by rw [hg]; exact (keep_size (w := w) (g := g) (row := none) (by repeat (first | (with_reducible first | exact HK.out | apply KeepBut.set_ | apply keep_drewN | apply keep_drew | apply keep_alloc | refine keep_far ?_ GW630.out _ | refine keep_far ?_ GW631.out _ | refine keep_far ?_ GW642.out _) | exact HK.out))) : w.heap.size ≤ gb661) : w0.heap.size ≤ gb661))
           replace HK := Aside0.mk (KeepBut.trans (by repeat (first | (with_reducible first | exact HK.out | apply KeepBut.set_ | apply keep_drewN | apply keep_drew | apply keep_alloc | refine keep_far ?_ GW630.out _ | refine keep_far ?_ GW631.out _ | refine keep_far ?_ GW642.out _) | exact HK.out)) (KeepBut.of_below hb g none) (.inl rfl))
           have NB630_661 := Aside0.mk ((by rw [hg]; exact Nat.ne_of_lt (blk_lt (g := gb630) (o := .cells #[.int .i64 0, .slice none 0 0] 30 (0, 0)) (Bz BK630)) : gb630 ≠ gb661))
           have NB661_630 := Aside0.mk ((by rw [hg]; exact Nat.ne_of_gt (blk_lt (g := gb630) (o := .cells #[.int .i64 0, .slice none 0 0] 30 (0, 0)) (Bz BK630)) : gb661 ≠ gb630))
           replace BK630 := Aside0.mk (blk_below (g := gb630) (o := .cells #[.int .i64 0, .slice none 0 0] 30 (0, 0)) (Bz BK630) hb)
           have NB631_661 := Aside0.mk ((by rw [hg]; exact Nat.ne_of_lt (blk_lt (g := gb631) (o := .cells #[.int .i64 x632000_1, u632001] 30 (0, 0)) (Bz BK631)) : gb631 ≠ gb661))
           have NB661_631 := Aside0.mk ((by rw [hg]; exact Nat.ne_of_gt (blk_lt (g := gb631) (o := .cells #[.int .i64 x632000_1, u632001] 30 (0, 0)) (Bz BK631)) : gb661 ≠ gb631))
           replace BK631 := Aside0.mk (blk_below (g := gb631) (o := .cells #[.int .i64 x632000_1, u632001] 30 (0, 0)) (Bz BK631) hb)
           have NB642_661 := Aside0.mk ((by rw [hg]; exact Nat.ne_of_lt (blk_lt (g := gb642) (o := .cells #[.int .i64 x643000_3, .slice Ao77 x643001_3.length co77] 30 (0, 0)) (Bz BK642)) : gb642 ≠ gb661))
           have NB661_642 := Aside0.mk ((by rw [hg]; exact Nat.ne_of_gt (blk_lt (g := gb642) (o := .cells #[.int .i64 x643000_3, .slice Ao77 x643001_3.length co77] 30 (0, 0)) (Bz BK642)) : gb661 ≠ gb642))
           replace BK642 := Aside0.mk (blk_below (g := gb642) (o := .cells #[.int .i64 x643000_3, .slice Ao77 x643001_3.length co77] 30 (0, 0)) (Bz BK642) hb)
           have NB0_661 := Aside0.mk ((by rw [hg]; exact Nat.ne_of_lt (IsS88.lt (show IsS88 w0 _ g s0_0 t654 t655 from by repeat (first | (with_reducible first | exact HI0.out | apply IsS88.alloc | apply IsS88.drewN | apply IsS88.drew | apply IsS88.set_1 | apply IsS88.set_2 | refine IsS88.far ?_ NB0_630.out _ | refine IsS88.far ?_ NB0_631.out _ | refine IsS88.far ?_ NB0_642.out _) | exact HI0.out))) : g ≠ gb661))
           have NB661_0 := Aside0.mk ((by rw [hg]; exact Nat.ne_of_gt (IsS88.lt (show IsS88 w0 _ g s0_0 t654 t655 from by repeat (first | (with_reducible first | exact HI0.out | apply IsS88.alloc | apply IsS88.drewN | apply IsS88.drew | apply IsS88.set_1 | apply IsS88.set_2 | refine IsS88.far ?_ NB0_630.out _ | refine IsS88.far ?_ NB0_631.out _ | refine IsS88.far ?_ NB0_642.out _) | exact HI0.out))) : gb661 ≠ g))
           replace HI0 := Aside0.mk (IsS88.below (by repeat (first | (with_reducible first | exact HI0.out | apply IsS88.alloc | apply IsS88.drewN | apply IsS88.drew | apply IsS88.set_1 | apply IsS88.set_2 | refine IsS88.far ?_ NB0_630.out _ | refine IsS88.far ?_ NB0_631.out _ | refine IsS88.far ?_ NB0_642.out _) | exact HI0.out)) hb)
           clear hb hbox hg
           refine hK.out _ _ ⟨(blk_cell BK642.out 0).trans rfl, (blk_cell BK642.out 1).trans rfl⟩ (fun hHeld => ?_)
           clear hK K
           refine norm_ (a' := ?_) ?_ ?_
           rotate_left
           ·show Act.put _ (some 15) _ = _
            simp only [Act.put, List.setIfInBounds_toArray, List.set_cons_zero, List.set_cons_succ, i64_w, i32_w]
            rfl
           exact norm_ (by simp only [putAll, Act.put, List.setIfInBounds_toArray, List.set_cons_zero, List.set_cons_succ]) (hCont (v658, gb661) _ ⟨hHeld, (by (with_reducible repeat (first | apply Kd.R_alloc | apply Kd.R_drewN | apply Kd.R_drew)); exact Kd.R_mono HO659.out (fun _ hk => ⟨hk.1.2, hk.2⟩)), (by (with_reducible repeat (first | apply Kd.R_alloc | apply Kd.R_drewN | apply Kd.R_drew)); exact Kd.R_mono HO_632001.out (fun _ hk => ⟨hk.2, hk.1⟩)), (by (with_reducible repeat (first | apply Kd.R_alloc | apply Kd.R_drewN | apply Kd.R_drew)); exact Kd.R_mono HO_643001.out (fun _ hk => ⟨hk.2, hk.1⟩)), (Bz BK630), (Bz BK631), (Bz BK642), (Bz BK661), GW661.out, GE661.out, NB0_661.out, NB661_0.out, NB630_661.out, NB661_630.out, NB631_661.out, NB661_631.out, NB642_661.out, NB661_642.out, (by repeat (first | (with_reducible first | exact HI0.out | apply IsS88.alloc | apply IsS88.drewN | apply IsS88.drew | apply IsS88.set_1 | apply IsS88.set_2 | refine IsS88.far ?_ NB0_630.out _ | refine IsS88.far ?_ NB0_631.out _ | refine IsS88.far ?_ NB0_642.out _ | refine IsS88.far ?_ NB0_661.out _) | exact HI0.out)), (by repeat (first | (with_reducible first | exact HK.out | apply KeepBut.set_ | apply keep_drewN | apply keep_drew | apply keep_alloc | refine keep_far ?_ GW630.out _ | refine keep_far ?_ GW631.out _ | refine keep_far ?_ GW642.out _ | refine keep_far ?_ GW661.out _) | exact HK.out)), (by repeat (first | (with_reducible first | exact HB.out | apply below_alloc | apply pw_below_drewN | apply below_drew1 | refine below_set ?_ (IsS88.ge HI0.out) | refine below_set ?_ GE630.out | refine below_set ?_ GE631.out | refine below_set ?_ GE642.out | refine below_set ?_ GE661.out) | exact HB.out))⟩)
          skip
          refine box_step ?hg (N := 15) ?hd (cs := #[.int .i64 0, .slice none 0 0]) (t := 30) ?hr ?_; (case hd => rfl); (case hg => rfl); (case hr => first | (go_simp; done) | (go_simp; rfl))
          intro gb661 hg w80 hbox hb
          replace HO_632001 := Aside0.mk (Kd.R_below (Rz HO_632001) hb)
          replace HO_643001 := Aside0.mk (Kd.R_below (Rz HO_643001) hb)
          replace HB := Aside0.mk (below_step (by repeat (first | (with_reducible first | exact HB.out | apply below_alloc | apply pw_below_drewN | apply below_drew1 | refine below_set ?_ (IsS88.ge HI0.out) | refine below_set ?_ GE630.out | refine below_set ?_ GE631.out | refine below_set ?_ GE642.out) | exact HB.out)) hb)
          have BK661 := Aside0.mk (hbox)
          have GW661 := Aside0.mk ((by rw [hg]; exact (keep_size (w := w) (g := g) (row := none) (by repeat (first | (with_reducible first | exact HK.out | apply KeepBut.set_ | apply keep_drewN | apply keep_drew | apply keep_alloc | refine keep_far ?_ GW630.out _ | refine keep_far ?_ GW631.out _ | refine keep_far ?_ GW642.out _) | exact HK.out))) : w.heap.size ≤ gb661))
          have GE661 := Aside0.mk ((Nat.le_trans HW0.out (by rw [hg]; exact (keep_size (w := w) (g := g) (row := none) (by repeat (first | (with_reducible first | exact HK.out | apply KeepBut.set_ | apply keep_drewN | apply keep_drew | apply keep_alloc | refine keep_far ?_ GW630.out _ | refine keep_far ?_ GW631.out _ | refine keep_far ?_ GW642.out _) | exact HK.out))) : w.heap.size ≤ gb661) : w0.heap.size ≤ gb661))
          replace HK := Aside0.mk (KeepBut.trans (by repeat (first | (with_reducible first | exact HK.out | apply KeepBut.set_ | apply keep_drewN | apply keep_drew | apply keep_alloc | refine keep_far ?_ GW630.out _ | refine keep_far ?_ GW631.out _ | refine keep_far ?_ GW642.out _) | exact HK.out)) (KeepBut.of_below hb g none) (.inl rfl))
          have NB630_661 := Aside0.mk ((by rw [hg]; exact Nat.ne_of_lt (blk_lt (g := gb630) (o := .cells #[.int .i64 0, .slice none 0 0] 30 (0, 0)) (Bz BK630)) : gb630 ≠ gb661))
          have NB661_630 := Aside0.mk ((by rw [hg]; exact Nat.ne_of_gt (blk_lt (g := gb630) (o := .cells #[.int .i64 0, .slice none 0 0] 30 (0, 0)) (Bz BK630)) : gb661 ≠ gb630))
          replace BK630 := Aside0.mk (blk_below (g := gb630) (o := .cells #[.int .i64 0, .slice none 0 0] 30 (0, 0)) (Bz BK630) hb)
          have NB631_661 := Aside0.mk ((by rw [hg]; exact Nat.ne_of_lt (blk_lt (g := gb631) (o := .cells #[.int .i64 x632000_1, u632001] 30 (0, 0)) (Bz BK631)) : gb631 ≠ gb661))
          have NB661_631 := Aside0.mk ((by rw [hg]; exact Nat.ne_of_gt (blk_lt (g := gb631) (o := .cells #[.int .i64 x632000_1, u632001] 30 (0, 0)) (Bz BK631)) : gb661 ≠ gb631))
          replace BK631 := Aside0.mk (blk_below (g := gb631) (o := .cells #[.int .i64 x632000_1, u632001] 30 (0, 0)) (Bz BK631) hb)
          have NB642_661 := Aside0.mk ((by rw [hg]; exact Nat.ne_of_lt (blk_lt (g := gb642) (o := .cells #[.int .i64 x643000_3, .slice Ao77 x643001_3.length co77] 30 (0, 0)) (Bz BK642)) : gb642 ≠ gb661))
          have NB661_642 := Aside0.mk ((by rw [hg]; exact Nat.ne_of_gt (blk_lt (g := gb642) (o := .cells #[.int .i64 x643000_3, .slice Ao77 x643001_3.length co77] 30 (0, 0)) (Bz BK642)) : gb661 ≠ gb642))
          replace BK642 := Aside0.mk (blk_below (g := gb642) (o := .cells #[.int .i64 x643000_3, .slice Ao77 x643001_3.length co77] 30 (0, 0)) (Bz BK642) hb)
          have NB0_661 := Aside0.mk ((by rw [hg]; exact Nat.ne_of_lt (IsS88.lt (show IsS88 w0 _ g s0_0 t654 t655 from by repeat (first | (with_reducible first | exact HI0.out | apply IsS88.alloc | apply IsS88.drewN | apply IsS88.drew | apply IsS88.set_1 | apply IsS88.set_2 | refine IsS88.far ?_ NB0_630.out _ | refine IsS88.far ?_ NB0_631.out _ | refine IsS88.far ?_ NB0_642.out _) | exact HI0.out))) : g ≠ gb661))
          have NB661_0 := Aside0.mk ((by rw [hg]; exact Nat.ne_of_gt (IsS88.lt (show IsS88 w0 _ g s0_0 t654 t655 from by repeat (first | (with_reducible first | exact HI0.out | apply IsS88.alloc | apply IsS88.drewN | apply IsS88.drew | apply IsS88.set_1 | apply IsS88.set_2 | refine IsS88.far ?_ NB0_630.out _ | refine IsS88.far ?_ NB0_631.out _ | refine IsS88.far ?_ NB0_642.out _) | exact HI0.out))) : gb661 ≠ g))
          replace HI0 := Aside0.mk (IsS88.below (by repeat (first | (with_reducible first | exact HI0.out | apply IsS88.alloc | apply IsS88.drewN | apply IsS88.drew | apply IsS88.set_1 | apply IsS88.set_2 | refine IsS88.far ?_ NB0_630.out _ | refine IsS88.far ?_ NB0_631.out _ | refine IsS88.far ?_ NB0_642.out _) | exact HI0.out)) hb)
          clear hb hbox hg
          refine hK.out _ _ ⟨(blk_cell BK642.out 0).trans rfl, (blk_cell BK642.out 1).trans rfl⟩ (fun hHeld => ?_)
          clear hK K
          refine norm_ (a' := ?_) ?_ ?_
          rotate_left
          ·show Act.put _ (some 15) _ = _
           simp only [Act.put, List.setIfInBounds_toArray, List.set_cons_zero, List.set_cons_succ, i64_w, i32_w]
           rfl
          refine one_ (i := 11) (N := some 93) #[true, true, true, true, true, true, true, true, true, true, true, true, false, false, false, true, false, false] rfl rfl (one_of HT_.out (by kernel_rfl)) (by decide) (fun K hK => ?_)
          refine goes_ Try.func94 (by kernel_rfl) rfl #[.agg #[.int .i64 x643000_3, .slice Ao77 x643001_3.length co77], .int .i64 t650, .int .i64 (Int.tmod (wrap64 ((wrap64 (t650 + 1)) + t653)) (wrap64 (2 + t632)))] (by rfl) rfl rfl (by (try simp only [List.map_toArray, List.map_cons, List.map_nil]); first | done | rfl | (simp only [List.length_drop, List.length_take]; rfl)) ?_
          with_reducible refine (spec_AddEdge.calls k3 x643000_3 _ _ x643001_3 t650 (Int.tmod (wrap64 ((wrap64 (t650 + 1)) + t653)) (wrap64 (2 + t632))) t656 t657 false _ ?side1 ?side2 A55.out).mono ?_
          (case side1 => exact Cz ((Kd.R_reads' HO_643001.out).2.2))
          (case side2 => exact (Kd.R_reads' HO_643001.out).2.1)
          rintro e w81 ⟨v658, rfl, ho0, hb⟩
          refine ⟨_, rfl, ?_⟩
          have HO659 := Aside0.mk (Kd.R_lower (Kd.R_new' (Kd.R_new' ho0 (Kd.R_lt (Rz HO_632001))) (Kd.R_lt (Rz HO_643001))) (keep_size (w := w) (g := g) (row := none) (by repeat (first | (with_reducible first | exact HK.out | apply KeepBut.set_ | apply keep_drewN | apply keep_drew | apply keep_alloc | refine keep_far ?_ GW630.out _ | refine keep_far ?_ GW631.out _ | refine keep_far ?_ GW642.out _ | refine keep_far ?_ GW661.out _) | exact HK.out))))
          replace HO_632001 := Aside0.mk (Kd.R_elder' (Rz HO_632001) (Kd.R_base ho0) hb)
          replace HO_643001 := Aside0.mk (Kd.R_elder' (Rz HO_643001) (Kd.R_base ho0) hb)
          replace BK630 := Aside0.mk (blk_below (g := gb630) (o := .cells #[.int .i64 0, .slice none 0 0] 30 (0, 0)) (Bz BK630) hb)
          replace BK631 := Aside0.mk (blk_below (g := gb631) (o := .cells #[.int .i64 x632000_1, u632001] 30 (0, 0)) (Bz BK631) hb)
          replace BK642 := Aside0.mk (blk_below (g := gb642) (o := .cells #[.int .i64 x643000_3, .slice Ao77 x643001_3.length co77] 30 (0, 0)) (Bz BK642) hb)
          replace BK661 := Aside0.mk (blk_below (g := gb661) (o := .cells #[.int .i64 0, .slice none 0 0] 30 (0, 0)) (Bz BK661) hb)
          replace HK := Aside0.mk (KeepBut.trans (by repeat (first | (with_reducible first | exact HK.out | apply KeepBut.set_ | apply keep_drewN | apply keep_drew | apply keep_alloc | refine keep_far ?_ GW630.out _ | refine keep_far ?_ GW631.out _ | refine keep_far ?_ GW642.out _ | refine keep_far ?_ GW661.out _) | exact HK.out)) (KeepBut.of_below hb g none) (.inl rfl))
          replace HB := Aside0.mk (below_step (by repeat (first | (with_reducible first | exact HB.out | apply below_alloc | apply pw_below_drewN | apply below_drew1 | refine below_set ?_ (IsS88.ge HI0.out) | refine below_set ?_ GE630.out | refine below_set ?_ GE631.out | refine below_set ?_ GE642.out | refine below_set ?_ GE661.out) | exact HB.out)) hb)
          replace HI0 := Aside0.mk (IsS88.below (by repeat (first | (with_reducible first | exact HI0.out | apply IsS88.alloc | apply IsS88.drewN | apply IsS88.drew | apply IsS88.set_1 | apply IsS88.set_2 | refine IsS88.far ?_ NB0_630.out _ | refine IsS88.far ?_ NB0_631.out _ | refine IsS88.far ?_ NB0_642.out _ | refine IsS88.far ?_ NB0_661.out _) | exact HI0.out)) hb)
          (try clear hb)
          (try clear hb2)
          (try clear hk)
          (try clear hi)
          (try clear ho0)
          refine hK.out _ _ ⟨(blk_cell BK642.out 0).trans rfl, (blk_cell BK642.out 1).trans rfl⟩ (fun hHeld => ?_)
          clear hK K
          refine norm_ (a' := ?_) ?_ ?_
          rotate_left
          ·show Act.put _ (some 93) _ = _
           simp only [Act.put, List.setIfInBounds_toArray, List.set_cons_zero, List.set_cons_succ, i64_w, i32_w]
           rfl
          refine pureT_ 12 81 HT_ ?_
          refine pureT_ 13 94 HT_ ?_
          refine pureT_ 14 95 HT_ ?_
          exact norm_ (by simp only [putAll, Act.put, List.setIfInBounds_toArray, List.set_cons_zero, List.set_cons_succ]) (hCont (v658, gb661) _ ⟨hHeld, (by (with_reducible repeat (first | apply Kd.R_alloc | apply Kd.R_drewN | apply Kd.R_drew)); exact Kd.R_mono HO659.out (fun _ hk => ⟨hk.1.2, hk.2⟩)), (by (with_reducible repeat (first | apply Kd.R_alloc | apply Kd.R_drewN | apply Kd.R_drew)); exact Kd.R_mono HO_632001.out (fun _ hk => ⟨hk.2, hk.1⟩)), (by (with_reducible repeat (first | apply Kd.R_alloc | apply Kd.R_drewN | apply Kd.R_drew)); exact Kd.R_mono HO_643001.out (fun _ hk => ⟨hk.2, hk.1⟩)), (Bz BK630), (Bz BK631), (Bz BK642), (Bz BK661), GW661.out, GE661.out, NB0_661.out, NB661_0.out, NB630_661.out, NB661_630.out, NB631_661.out, NB661_631.out, NB642_661.out, NB661_642.out, (by repeat (first | (with_reducible first | exact HI0.out | apply IsS88.alloc | apply IsS88.drewN | apply IsS88.drew | apply IsS88.set_1 | apply IsS88.set_2 | refine IsS88.far ?_ NB0_630.out _ | refine IsS88.far ?_ NB0_631.out _ | refine IsS88.far ?_ NB0_642.out _ | refine IsS88.far ?_ NB0_661.out _) | exact HI0.out)), (by repeat (first | (with_reducible first | exact HK.out | apply KeepBut.set_ | apply keep_drewN | apply keep_drew | apply keep_alloc | refine keep_far ?_ GW630.out _ | refine keep_far ?_ GW631.out _ | refine keep_far ?_ GW642.out _ | refine keep_far ?_ GW661.out _) | exact HK.out)), (by repeat (first | (with_reducible first | exact HB.out | apply below_alloc | apply pw_below_drewN | apply below_drew1 | refine below_set ?_ (IsS88.ge HI0.out) | refine below_set ?_ GE630.out | refine below_set ?_ GE631.out | refine below_set ?_ GE642.out | refine below_set ?_ GE661.out) | exact HB.out))⟩)
         skip
         refine box_step ?hg (N := 15) ?hd (cs := #[.int .i64 0, .slice none 0 0]) (t := 30) ?hr ?_; (case hd => rfl); (case hg => rfl); (case hr => first | (go_simp; done) | (go_simp; rfl))
         intro gb661 hg w79 hbox hb
         replace HO_632001 := Aside0.mk (Kd.R_below (Rz HO_632001) hb)
         replace HO_643001 := Aside0.mk (Kd.R_below (Rz HO_643001) hb)
         replace HB := Aside0.mk (below_step (by repeat (first | (with_reducible first | exact HB.out | apply below_alloc | apply pw_below_drewN | apply below_drew1 | refine below_set ?_ (IsS88.ge HI0.out) | refine below_set ?_ GE630.out | refine below_set ?_ GE631.out | refine below_set ?_ GE642.out) | exact HB.out)) hb)
         have BK661 := Aside0.mk (hbox)
         have GW661 := Aside0.mk ((by rw [hg]; exact (keep_size (w := w) (g := g) (row := none) (by repeat (first | (with_reducible first | exact HK.out | apply KeepBut.set_ | apply keep_drewN | apply keep_drew | apply keep_alloc | refine keep_far ?_ GW630.out _ | refine keep_far ?_ GW631.out _ | refine keep_far ?_ GW642.out _) | exact HK.out))) : w.heap.size ≤ gb661))
         have GE661 := Aside0.mk ((Nat.le_trans HW0.out (by rw [hg]; exact (keep_size (w := w) (g := g) (row := none) (by repeat (first | (with_reducible first | exact HK.out | apply KeepBut.set_ | apply keep_drewN | apply keep_drew | apply keep_alloc | refine keep_far ?_ GW630.out _ | refine keep_far ?_ GW631.out _ | refine keep_far ?_ GW642.out _) | exact HK.out))) : w.heap.size ≤ gb661) : w0.heap.size ≤ gb661))
         replace HK := Aside0.mk (KeepBut.trans (by repeat (first | (with_reducible first | exact HK.out | apply KeepBut.set_ | apply keep_drewN | apply keep_drew | apply keep_alloc | refine keep_far ?_ GW630.out _ | refine keep_far ?_ GW631.out _ | refine keep_far ?_ GW642.out _) | exact HK.out)) (KeepBut.of_below hb g none) (.inl rfl))
         have NB630_661 := Aside0.mk ((by rw [hg]; exact Nat.ne_of_lt (blk_lt (g := gb630) (o := .cells #[.int .i64 0, .slice none 0 0] 30 (0, 0)) (Bz BK630)) : gb630 ≠ gb661))
         have NB661_630 := Aside0.mk ((by rw [hg]; exact Nat.ne_of_gt (blk_lt (g := gb630) (o := .cells #[.int .i64 0, .slice none 0 0] 30 (0, 0)) (Bz BK630)) : gb661 ≠ gb630))
         replace BK630 := Aside0.mk (blk_below (g := gb630) (o := .cells #[.int .i64 0, .slice none 0 0] 30 (0, 0)) (Bz BK630) hb)
         have NB631_661 := Aside0.mk ((by rw [hg]; exact Nat.ne_of_lt (blk_lt (g := gb631) (o := .cells #[.int .i64 x632000_1, u632001] 30 (0, 0)) (Bz BK631)) : gb631 ≠ gb661))
         have NB661_631 := Aside0.mk ((by rw [hg]; exact Nat.ne_of_gt (blk_lt (g := gb631) (o := .cells #[.int .i64 x632000_1, u632001] 30 (0, 0)) (Bz BK631)) : gb661 ≠ gb631))
         replace BK631 := Aside0.mk (blk_below (g := gb631) (o := .cells #[.int .i64 x632000_1, u632001] 30 (0, 0)) (Bz BK631) hb)
         have NB642_661 := Aside0.mk ((by rw [hg]; exact Nat.ne_of_lt (blk_lt (g := gb642) (o := .cells #[.int .i64 x643000_3, .slice Ao77 x643001_3.length co77] 30 (0, 0)) (Bz BK642)) : gb642 ≠ gb661))
         have NB661_642 := Aside0.mk ((by rw [hg]; exact Nat.ne_of_gt (blk_lt (g := gb642) (o := .cells #[.int .i64 x643000_3, .slice Ao77 x643001_3.length co77] 30 (0, 0)) (Bz BK642)) : gb661 ≠ gb642))
         replace BK642 := Aside0.mk (blk_below (g := gb642) (o := .cells #[.int .i64 x643000_3, .slice Ao77 x643001_3.length co77] 30 (0, 0)) (Bz BK642) hb)
         have NB0_661 := Aside0.mk ((by rw [hg]; exact Nat.ne_of_lt (IsS88.lt (show IsS88 w0 _ g s0_0 t651 t652 from by repeat (first | (with_reducible first | exact HI0.out | apply IsS88.alloc | apply IsS88.drewN | apply IsS88.drew | apply IsS88.set_1 | apply IsS88.set_2 | refine IsS88.far ?_ NB0_630.out _ | refine IsS88.far ?_ NB0_631.out _ | refine IsS88.far ?_ NB0_642.out _) | exact HI0.out))) : g ≠ gb661))
         have NB661_0 := Aside0.mk ((by rw [hg]; exact Nat.ne_of_gt (IsS88.lt (show IsS88 w0 _ g s0_0 t651 t652 from by repeat (first | (with_reducible first | exact HI0.out | apply IsS88.alloc | apply IsS88.drewN | apply IsS88.drew | apply IsS88.set_1 | apply IsS88.set_2 | refine IsS88.far ?_ NB0_630.out _ | refine IsS88.far ?_ NB0_631.out _ | refine IsS88.far ?_ NB0_642.out _) | exact HI0.out))) : gb661 ≠ g))
         replace HI0 := Aside0.mk (IsS88.below (by repeat (first | (with_reducible first | exact HI0.out | apply IsS88.alloc | apply IsS88.drewN | apply IsS88.drew | apply IsS88.set_1 | apply IsS88.set_2 | refine IsS88.far ?_ NB0_630.out _ | refine IsS88.far ?_ NB0_631.out _ | refine IsS88.far ?_ NB0_642.out _) | exact HI0.out)) hb)
         clear hb hbox hg
         refine hK.out _ _ ⟨(blk_cell BK642.out 0).trans rfl, (blk_cell BK642.out 1).trans rfl⟩ (fun hHeld => ?_)
         clear hK K
         refine norm_ (a' := ?_) ?_ ?_
         rotate_left
         ·show Act.put _ (some 15) _ = _
          simp only [Act.put, List.setIfInBounds_toArray, List.set_cons_zero, List.set_cons_succ, i64_w, i32_w]
          rfl
         refine one_ (i := 7) (N := some 89) #[true, true, true, true, true, true, true, true, false, true, false, false, false, false, false, true, false, false] rfl rfl (one_of HT_.out (by kernel_rfl)) (by decide) (fun K hK => ?_)
         refine goes_ Try.func93 (by kernel_rfl) rfl #[.pointer (some ⟨g, 0, none⟩), .int .i64 (wrap64 ((wrap64 (2 + t632)) - 1))] (by rfl) rfl rfl (by (try simp only [List.map_toArray, List.map_cons, List.map_nil]); first | done | rfl | (simp only [List.length_drop, List.length_take]; rfl)) ?_
         with_reducible refine (spec_l01Below.calls g s0_0 t651 t652 (wrap64 ((wrap64 (2 + t632)) - 1)) t653 t654 t655 w0 _ ?side1 ?side2 A53.out).mono ?_
         (case side1 => repeat (first | (with_reducible first | exact HI0.out | apply IsS88.alloc | apply IsS88.drewN | apply IsS88.drew | apply IsS88.set_1 | apply IsS88.set_2 | refine IsS88.far ?_ NB0_630.out _ | refine IsS88.far ?_ NB0_631.out _ | refine IsS88.far ?_ NB0_642.out _ | refine IsS88.far ?_ NB0_661.out _) | exact HI0.out))
         (case side2 => repeat (first | (with_reducible first | exact HB.out | apply below_alloc | apply pw_below_drewN | apply below_drew1 | refine below_set ?_ (IsS88.ge HI0.out) | refine below_set ?_ GE630.out | refine below_set ?_ GE631.out | refine below_set ?_ GE642.out | refine below_set ?_ GE661.out) | exact HB.out))
         rintro e w80 ⟨rfl, hi, hb, hk⟩
         refine ⟨_, rfl, ?_⟩
         replace HO_632001 := Aside0.mk (Kd.R_mono (Kd.R_keep (IsS88.apart (show IsS88 w0 _ g s0_0 t651 t652 from by repeat (first | (with_reducible first | exact HI0.out | apply IsS88.alloc | apply IsS88.drewN | apply IsS88.drew | apply IsS88.set_1 | apply IsS88.set_2 | refine IsS88.far ?_ NB0_630.out _ | refine IsS88.far ?_ NB0_631.out _ | refine IsS88.far ?_ NB0_642.out _ | refine IsS88.far ?_ NB0_661.out _) | exact HI0.out)) (Rz HO_632001) (by decide)) hk (fun _ h => h.2)) (fun _ h => h.1))
         replace HO_643001 := Aside0.mk (Kd.R_mono (Kd.R_keep (IsS88.apart (show IsS88 w0 _ g s0_0 t651 t652 from by repeat (first | (with_reducible first | exact HI0.out | apply IsS88.alloc | apply IsS88.drewN | apply IsS88.drew | apply IsS88.set_1 | apply IsS88.set_2 | refine IsS88.far ?_ NB0_630.out _ | refine IsS88.far ?_ NB0_631.out _ | refine IsS88.far ?_ NB0_642.out _ | refine IsS88.far ?_ NB0_661.out _) | exact HI0.out)) (Rz HO_643001) (by decide)) hk (fun _ h => h.2)) (fun _ h => h.1))
         replace BK630 := Aside0.mk (KeepBut.blk hk (g' := gb630) (o := .cells #[.int .i64 0, .slice none 0 0] 30 (0, 0)) (Bz BK630) NB630_0.out (by simp))
         replace BK631 := Aside0.mk (KeepBut.blk hk (g' := gb631) (o := .cells #[.int .i64 x632000_1, u632001] 30 (0, 0)) (Bz BK631) NB631_0.out (by simp))
         replace BK642 := Aside0.mk (KeepBut.blk hk (g' := gb642) (o := .cells #[.int .i64 x643000_3, .slice Ao77 x643001_3.length co77] 30 (0, 0)) (Bz BK642) NB642_0.out (by simp))
         replace BK661 := Aside0.mk (KeepBut.blk hk (g' := gb661) (o := .cells #[.int .i64 0, .slice none 0 0] 30 (0, 0)) (Bz BK661) NB661_0.out (by simp))
         replace HK := Aside0.mk (KeepBut.trans (by repeat (first | (with_reducible first | exact HK.out | apply KeepBut.set_ | apply keep_drewN | apply keep_drew | apply keep_alloc | refine keep_far ?_ GW630.out _ | refine keep_far ?_ GW631.out _ | refine keep_far ?_ GW642.out _ | refine keep_far ?_ GW661.out _) | exact HK.out)) hk (.inl rfl))
         replace HB := Aside0.mk (hb)
         replace HI0 := Aside0.mk (hi)
         (try clear hb)
         (try clear hb2)
         (try clear hk)
         (try clear hi)
         refine hK.out _ _ ⟨(blk_cell BK642.out 0).trans rfl, (blk_cell BK642.out 1).trans rfl⟩ (fun hHeld => ?_)
         clear hK K
         refine norm_ (a' := ?_) ?_ ?_
         rotate_left
         ·show Act.put _ (some 89) _ = _
          simp only [Act.put, List.setIfInBounds_toArray, List.set_cons_zero, List.set_cons_succ, i64_w, i32_w]
          rfl
         refine pureT_ 8 90 HT_ ?_
         refine pureT_ 10 92 HT_ ?_
         refine one_ (i := 11) (N := some 93) #[true, true, true, true, true, true, true, true, true, true, true, true, false, false, false, true, false, false] rfl rfl (one_of HT_.out (by kernel_rfl)) (by decide) (fun K hK => ?_)
         refine goes_ Try.func94 (by kernel_rfl) rfl #[.agg #[.int .i64 x643000_3, .slice Ao77 x643001_3.length co77], .int .i64 t650, .int .i64 (Int.tmod (wrap64 ((wrap64 (t650 + 1)) + t653)) (wrap64 (2 + t632)))] (by rfl) rfl rfl (by (try simp only [List.map_toArray, List.map_cons, List.map_nil]); first | done | rfl | (simp only [List.length_drop, List.length_take]; rfl)) ?_
         with_reducible refine (spec_AddEdge.calls k3 x643000_3 _ _ x643001_3 t650 (Int.tmod (wrap64 ((wrap64 (t650 + 1)) + t653)) (wrap64 (2 + t632))) t656 t657 false _ ?side1 ?side2 A55.out).mono ?_
         (case side1 => exact Cz ((Kd.R_reads' HO_643001.out).2.2))
         (case side2 => exact (Kd.R_reads' HO_643001.out).2.1)
         rintro e w81 ⟨v658, rfl, ho0, hb⟩
         refine ⟨_, rfl, ?_⟩
         have HO659 := Aside0.mk (Kd.R_lower (Kd.R_new' (Kd.R_new' ho0 (Kd.R_lt (Rz HO_632001))) (Kd.R_lt (Rz HO_643001))) (keep_size (w := w) (g := g) (row := none) (by repeat (first | (with_reducible first | exact HK.out | apply KeepBut.set_ | apply keep_drewN | apply keep_drew | apply keep_alloc | refine keep_far ?_ GW630.out _ | refine keep_far ?_ GW631.out _ | refine keep_far ?_ GW642.out _ | refine keep_far ?_ GW661.out _) | exact HK.out))))
         replace HO_632001 := Aside0.mk (Kd.R_elder' (Rz HO_632001) (Kd.R_base ho0) hb)
         replace HO_643001 := Aside0.mk (Kd.R_elder' (Rz HO_643001) (Kd.R_base ho0) hb)
         replace BK630 := Aside0.mk (blk_below (g := gb630) (o := .cells #[.int .i64 0, .slice none 0 0] 30 (0, 0)) (Bz BK630) hb)
         replace BK631 := Aside0.mk (blk_below (g := gb631) (o := .cells #[.int .i64 x632000_1, u632001] 30 (0, 0)) (Bz BK631) hb)
         replace BK642 := Aside0.mk (blk_below (g := gb642) (o := .cells #[.int .i64 x643000_3, .slice Ao77 x643001_3.length co77] 30 (0, 0)) (Bz BK642) hb)
         replace BK661 := Aside0.mk (blk_below (g := gb661) (o := .cells #[.int .i64 0, .slice none 0 0] 30 (0, 0)) (Bz BK661) hb)
         replace HK := Aside0.mk (KeepBut.trans (by repeat (first | (with_reducible first | exact HK.out | apply KeepBut.set_ | apply keep_drewN | apply keep_drew | apply keep_alloc | refine keep_far ?_ GW630.out _ | refine keep_far ?_ GW631.out _ | refine keep_far ?_ GW642.out _ | refine keep_far ?_ GW661.out _) | exact HK.out)) (KeepBut.of_below hb g none) (.inl rfl))
         replace HB := Aside0.mk (below_step (by repeat (first | (with_reducible first | exact HB.out | apply below_alloc | apply pw_below_drewN | apply below_drew1 | refine below_set ?_ (IsS88.ge HI0.out) | refine below_set ?_ GE630.out | refine below_set ?_ GE631.out | refine below_set ?_ GE642.out | refine below_set ?_ GE661.out) | exact HB.out)) hb)
         replace HI0 := Aside0.mk (IsS88.below (by repeat (first | (with_reducible first | exact HI0.out | apply IsS88.alloc | apply IsS88.drewN | apply IsS88.drew | apply IsS88.set_1 | apply IsS88.set_2 | refine IsS88.far ?_ NB0_630.out _ | refine IsS88.far ?_ NB0_631.out _ | refine IsS88.far ?_ NB0_642.out _ | refine IsS88.far ?_ NB0_661.out _) | exact HI0.out)) hb)
         (try clear hb)
         (try clear hb2)
         (try clear hk)
         (try clear hi)
         (try clear ho0)
         refine hK.out _ _ ⟨(blk_cell BK642.out 0).trans rfl, (blk_cell BK642.out 1).trans rfl⟩ (fun hHeld => ?_)
         clear hK K
         refine norm_ (a' := ?_) ?_ ?_
         rotate_left
         ·show Act.put _ (some 93) _ = _
          simp only [Act.put, List.setIfInBounds_toArray, List.set_cons_zero, List.set_cons_succ, i64_w, i32_w]
          rfl
         refine pureT_ 12 81 HT_ ?_
         refine pureT_ 13 94 HT_ ?_
         refine pureT_ 14 95 HT_ ?_
         exact norm_ (by simp only [putAll, Act.put, List.setIfInBounds_toArray, List.set_cons_zero, List.set_cons_succ]) (hCont (v658, gb661) _ ⟨hHeld, (by (with_reducible repeat (first | apply Kd.R_alloc | apply Kd.R_drewN | apply Kd.R_drew)); exact Kd.R_mono HO659.out (fun _ hk => ⟨hk.1.2, hk.2⟩)), (by (with_reducible repeat (first | apply Kd.R_alloc | apply Kd.R_drewN | apply Kd.R_drew)); exact Kd.R_mono HO_632001.out (fun _ hk => ⟨hk.2, hk.1⟩)), (by (with_reducible repeat (first | apply Kd.R_alloc | apply Kd.R_drewN | apply Kd.R_drew)); exact Kd.R_mono HO_643001.out (fun _ hk => ⟨hk.2, hk.1⟩)), (Bz BK630), (Bz BK631), (Bz BK642), (Bz BK661), GW661.out, GE661.out, NB0_661.out, NB661_0.out, NB630_661.out, NB661_630.out, NB631_661.out, NB661_631.out, NB642_661.out, NB661_642.out, (by repeat (first | (with_reducible first | exact HI0.out | apply IsS88.alloc | apply IsS88.drewN | apply IsS88.drew | apply IsS88.set_1 | apply IsS88.set_2 | refine IsS88.far ?_ NB0_630.out _ | refine IsS88.far ?_ NB0_631.out _ | refine IsS88.far ?_ NB0_642.out _ | refine IsS88.far ?_ NB0_661.out _) | exact HI0.out)), (by repeat (first | (with_reducible first | exact HK.out | apply KeepBut.set_ | apply keep_drewN | apply keep_drew | apply keep_alloc | refine keep_far ?_ GW630.out _ | refine keep_far ?_ GW631.out _ | refine keep_far ?_ GW642.out _ | refine keep_far ?_ GW661.out _) | exact HK.out)), (by repeat (first | (with_reducible first | exact HB.out | apply below_alloc | apply pw_below_drewN | apply below_drew1 | refine below_set ?_ (IsS88.ge HI0.out) | refine below_set ?_ GE630.out | refine below_set ?_ GE631.out | refine below_set ?_ GE642.out | refine below_set ?_ GE661.out) | exact HB.out))⟩)
        rintro ⟨v658, gb661⟩ w82 ⟨hS_, h0_, h1_, h2_, h3_, h4_, h5_, h6_, h7_, h8_, h9_, h10_, h11_, h12_, h13_, h14_, h15_, h16_, h17_, h18_, h19_⟩
        have n0_ : Aside0 (Kd.R k57 57 w82 w.heap.size (fun k_ => some k_ ≠ (u632001 : Value).ownBlock ∧ some k_ ≠ (.slice Ao77 x643001_3.length co77 : Value).ownBlock) v658 t657) := ⟨h0_⟩
        have n1_ : Aside0 (Kd.R k57 57 w82 w.heap.size (fun k_ => some k_ ≠ (v658 : Value).ownBlock ∧ some k_ ≠ (.slice Ao77 x643001_3.length co77 : Value).ownBlock) u632001 x632001_1) := ⟨h1_⟩
        have n2_ : Aside0 (Kd.R k57 57 w82 w.heap.size (fun k_ => some k_ ≠ (v658 : Value).ownBlock ∧ some k_ ≠ (u632001 : Value).ownBlock) (.slice Ao77 x643001_3.length co77) x643001_3) := ⟨h2_⟩
        have n3_ : Aside0 (w82.heap[gb630]? = some (.cells #[.int .i64 0, .slice none 0 0] 30 (0, 0))) := ⟨h3_⟩
        have n4_ : Aside0 (w82.heap[gb631]? = some (.cells #[.int .i64 x632000_1, u632001] 30 (0, 0))) := ⟨h4_⟩
        have n5_ : Aside0 (w82.heap[gb642]? = some (.cells #[.int .i64 x643000_3, .slice Ao77 x643001_3.length co77] 30 (0, 0))) := ⟨h5_⟩
        have n6_ : Aside0 (w82.heap[gb661]? = some (.cells #[.int .i64 0, .slice none 0 0] 30 (0, 0))) := ⟨h6_⟩
        have n7_ : Aside0 (w.heap.size ≤ gb661) := ⟨h7_⟩
        have n8_ : Aside0 (w0.heap.size ≤ gb661) := ⟨h8_⟩
        have n9_ : Aside0 (g ≠ gb661) := ⟨h9_⟩
        have n10_ : Aside0 (gb661 ≠ g) := ⟨h10_⟩
        have n11_ : Aside0 (gb630 ≠ gb661) := ⟨h11_⟩
        have n12_ : Aside0 (gb661 ≠ gb630) := ⟨h12_⟩
        have n13_ : Aside0 (gb631 ≠ gb661) := ⟨h13_⟩
        have n14_ : Aside0 (gb661 ≠ gb631) := ⟨h14_⟩
        have n15_ : Aside0 (gb642 ≠ gb661) := ⟨h15_⟩
        have n16_ : Aside0 (gb661 ≠ gb642) := ⟨h16_⟩
        have n17_ : Aside0 (IsS88 w0 w82 g s0_0 t654 t655) := ⟨h17_⟩
        have n18_ : Aside0 (KeepBut w w82 g none) := ⟨h18_⟩
        have n19_ : Aside0 (Below w0.heap.size w0 w82) := ⟨h19_⟩
        clear HO_632001
        clear HO_643001
        clear BK630
        clear BK631
        clear BK642
        clear HI0
        clear HK
        clear HB
        clear h0_ h1_ h2_ h3_ h4_ h5_ h6_ h7_ h8_ h9_ h10_ h11_ h12_ h13_ h14_ h15_ h16_ h17_ h18_ h19_
        have HO659 := n0_
        have HO_632001 := n1_
        have HO_643001 := n2_
        have BK630 := n3_
        have BK631 := n4_
        have BK642 := n5_
        have BK661 := n6_
        have GW661 := n7_
        have GE661 := n8_
        have NB0_661 := n9_
        have NB661_0 := n10_
        have NB630_661 := n11_
        have NB661_630 := n12_
        have NB631_661 := n13_
        have NB661_631 := n14_
        have NB642_661 := n15_
        have NB661_642 := n16_
        have HI0 := n17_
        have HK := n18_
        have HB := n19_
        clear n0_ n1_ n2_ n3_ n4_ n5_ n6_ n7_ n8_ n9_ n10_ n11_ n12_ n13_ n14_ n15_ n16_ n17_ n18_ n19_
        have hHeld : w82.cell? ⟨gb642, 0, none⟩ = some (.int .i64 x643000_3) ∧ w82.cell? ⟨gb642, 1, none⟩ = some (.slice Ao77 x643001_3.length co77) := hS_
        obtain ⟨Ao84, co84, eo84⟩ := Kd.R_slice HO659.out
        (first | subst eo84 | (injection eo84 with f1_ f2_ f3_; have f4_ := f1_.symm; have f5_ := f3_.symm; clear f1_ f2_ f3_; subst f4_; subst f5_))
        refine norm_ (a' := ?_) ?_ ?_
        rotate_left
        ·simp only [putAll, Act.put, List.setIfInBounds_toArray, List.set_cons_zero, List.set_cons_succ]
         rfl
        refine one_ (i := 16) (N := none) #[true, true, true, true, true, true, true, true, true, true, true, true, true, true, true, true, true, false] rfl rfl (one_of HT_.out (by kernel_rfl)) (by decide) (fun K hK => ?_)
        have hs83 : w82.cell? ⟨gb661, 0, none⟩ = some (.int .i64 0) := (blk_cell BK661.out 0).trans rfl
        have hfs83 := blk_frozen BK661.out 0
        have hns83_0 := NB630_661.out
        have hns83_1 := NB631_661.out
        have hns83_2 := NB642_661.out
        have hms83_0 := NB661_630.out
        have hms83_1 := NB661_631.out
        have hms83_2 := NB661_642.out
        have hs85 : w82.cell? ⟨gb661, 1, none⟩ = some (.slice none 0 0) := (blk_cell BK661.out 1).trans rfl
        have hfs85 := blk_frozen BK661.out 1
        have hns85_0 := NB630_661.out
        have hns85_1 := NB631_661.out
        have hns85_2 := NB642_661.out
        have hms85_0 := NB661_630.out
        have hms85_1 := NB661_631.out
        have hms85_2 := NB661_642.out
        refine skip_ (w1 := ?_) (by rfl) rfl ?_ ?_
        rotate_left
        ·go_simp
         rfl
        refine hK.out _ _ ⟨((cell_far (p := ⟨gb661, _, none⟩) NB642_661.out _).trans (((cell_far (p := ⟨gb661, _, none⟩) NB642_661.out _).trans (hHeld.1)))), ((cell_far (p := ⟨gb661, _, none⟩) NB642_661.out _).trans (((cell_far (p := ⟨gb661, _, none⟩) NB642_661.out _).trans (hHeld.2))))⟩ (fun hHeld => ?_)
        clear hK K
        refine pureT_ 17 16 HT_ ?_
        refine done_ (done_of HT_.out (by kernel_rfl)) ?_
        try go_wp2
        go_roundg k3
        case measure => have := HK1.out; have := HK2.out; have := HK3.out; omega
        case rel => exact ⟨(wrap64 (x13_3 - 1)), (t654), (t655), (x643000_3), (x643001_3), (.slice Ao77 x643001_3.length co77), eqA, H', ⟨by have := HK1.out; have := HK2.out; have := HK3.out; omega⟩, ⟨by (with_reducible repeat (first | apply Kd.R_alloc | apply Kd.R_drewN | apply Kd.R_drew)); exact Kd.R_mono (Kd.R_far (p := ⟨gb661, 1, none⟩) (Kd.R_far (p := ⟨gb661, 0, none⟩) (Kd.R_types HO_632001.out BK661.out (by decide)) (fun _ hk => hk.2) (.int .i64 t656)) (fun _ hk => hk.2) (.slice Ao84 t657.length co84)) (fun _ hk => hk.1.2)⟩, ⟨by (with_reducible repeat (first | apply Kd.R_alloc | apply Kd.R_drewN | apply Kd.R_drew)); exact Kd.R_mono (Kd.R_far (p := ⟨gb661, 1, none⟩) (Kd.R_far (p := ⟨gb661, 0, none⟩) (Kd.R_types HO_643001.out BK661.out (by decide)) (fun _ hk => hk.2) (.int .i64 t656)) (fun _ hk => hk.2) (.slice Ao84 t657.length co84)) (fun _ hk => hk.1.2)⟩, ⟨by (with_reducible repeat (first | refine blk_drewN ?_ _ | refine blk_drew ?_ | refine blk_alloc ?_ _)); refine blk_far ?_ NB630_661.out _; (with_reducible repeat (first | refine blk_drewN ?_ _ | refine blk_drew ?_ | refine blk_alloc ?_ _)); refine blk_far ?_ NB630_661.out _; exact Bz BK630⟩, ⟨by (with_reducible repeat (first | refine blk_drewN ?_ _ | refine blk_drew ?_ | refine blk_alloc ?_ _)); refine blk_far ?_ NB631_661.out _; (with_reducible repeat (first | refine blk_drewN ?_ _ | refine blk_drew ?_ | refine blk_alloc ?_ _)); refine blk_far ?_ NB631_661.out _; exact Bz BK631⟩, ⟨by (with_reducible repeat (first | refine blk_drewN ?_ _ | refine blk_drew ?_ | refine blk_alloc ?_ _)); refine blk_far ?_ NB642_661.out _; (with_reducible repeat (first | refine blk_drewN ?_ _ | refine blk_drew ?_ | refine blk_alloc ?_ _)); refine blk_far ?_ NB642_661.out _; exact Bz BK642⟩, ⟨by repeat (first | (with_reducible first | exact HI0.out | apply IsS88.alloc | apply IsS88.drewN | apply IsS88.drew | apply IsS88.set_1 | apply IsS88.set_2 | refine IsS88.far ?_ NB0_630.out _ | refine IsS88.far ?_ NB0_631.out _ | refine IsS88.far ?_ NB0_642.out _ | refine IsS88.far ?_ NB0_661.out _) | exact HI0.out)⟩, ⟨by repeat (first | (with_reducible first | exact HK.out | apply KeepBut.set_ | apply keep_drewN | apply keep_drew | apply keep_alloc | refine keep_far ?_ GW630.out _ | refine keep_far ?_ GW631.out _ | refine keep_far ?_ GW642.out _ | refine keep_far ?_ GW661.out _) | exact HK.out)⟩, ⟨by repeat (first | (with_reducible first | exact HB.out | apply below_alloc | apply pw_below_drewN | apply below_drew1 | refine below_set ?_ (IsS88.ge HI0.out) | refine below_set ?_ GE630.out | refine below_set ?_ GE631.out | refine below_set ?_ GE642.out | refine below_set ?_ GE661.out) | exact HB.out)⟩⟩
       rw [if_neg c51] at H
       have c51b0 : decide (0 < x13_3) = false := decide_eq_false c51
       clear c51
       simp only [Option.some.injEq, Prod.mk.injEq] at H
       obtain ⟨rfl, rfl, rfl, rfl⟩ := H
       have hnb86 := NB642_630.out
       have hnc86 := NB630_642.out
       have hnb87 := NB642_631.out
       have hnc87 := NB631_642.out
       have hnb88 := NB642_0.out
       have hnc88 := NB0_642.out
       have hcz89_0 : wr.cell? ⟨gb642, 0, none⟩ = some (.int .i64 x643000_3) := (blk_cell BK642.out 0).trans rfl
       have hcz89_1 : wr.cell? ⟨gb642, 1, none⟩ = some (u643001) := (blk_cell BK642.out 1).trans rfl
       have hfz89_0 := blk_frozen BK642.out 0
       have hfz89_1 := blk_frozen BK642.out 1
       have hnb90 := NB630_631.out
       have hnc90 := NB631_630.out
       have hnb91 := NB630_0.out
       have hnc91 := NB0_630.out
       have hcz92_0 : wr.cell? ⟨gb630, 0, none⟩ = some (.int .i64 0) := (blk_cell BK630.out 0).trans rfl
       have hcz92_1 : wr.cell? ⟨gb630, 1, none⟩ = some (.slice none 0 0) := (blk_cell BK630.out 1).trans rfl
       have hfz92_0 := blk_frozen BK630.out 0
       have hfz92_1 := blk_frozen BK630.out 1
       obtain ⟨Ao93, co93, eo93⟩ := Kd.R_slice HO_643001.out
       subst eo93
       go_wp2
       refine bodyPost_ret (results_cell_row rfl _ _ gb630 30 #[.int .i64 x643000_3, .slice Ao93 x643001_3.length co93] (0, 0) _ rfl (by (with_reducible repeat (first | refine blk_drewN ?_ _ | refine blk_drew ?_ | refine blk_alloc ?_ _)); refine blk_put (cs := #[.int .i64 x643000_3, .slice none 0 0]) ?_ 1 _ rfl; (with_reducible repeat (first | refine blk_drewN ?_ _ | refine blk_drew ?_ | refine blk_alloc ?_ _)); refine blk_put (cs := #[.int .i64 0, .slice none 0 0]) ?_ 0 _ rfl; exact Bz BK630) Try.underlying30 rfl (by kernel_rfl)) rfl ?_
       exact ⟨_, by first | rfl | (simp [errW_none, errW_some] <;> rfl) | (simp [*, errW_none, errW_some] <;> rfl), by (with_reducible repeat (first | apply Kd.R_alloc | apply Kd.R_drewN | apply Kd.R_drew)); exact Kd.R_mono (Kd.R_far (p := ⟨gb630, 1, none⟩) (Kd.R_far (p := ⟨gb630, 0, none⟩) (Kd.R_types HO_643001.out BK630.out (by decide)) (fun _ hk => hk.2) (.int .i64 x643000_3)) (fun _ hk => hk.2) (.slice Ao93 x643001_3.length co93)) (fun _ hk => trivial), by repeat (first | (with_reducible first | exact HI0.out | apply IsS88.alloc | apply IsS88.drewN | apply IsS88.drew | apply IsS88.set_1 | apply IsS88.set_2 | refine IsS88.far ?_ NB0_630.out _ | refine IsS88.far ?_ NB0_631.out _ | refine IsS88.far ?_ NB0_642.out _) | exact HI0.out), by repeat (first | (with_reducible first | exact HB.out | apply below_alloc | apply pw_below_drewN | apply below_drew1 | refine below_set ?_ (IsS88.ge HI0.out) | refine below_set ?_ GE630.out | refine below_set ?_ GE631.out | refine below_set ?_ GE642.out) | exact HB.out), by repeat (first | (with_reducible first | exact HK.out | apply KeepBut.set_ | apply keep_drewN | apply keep_drew | apply keep_alloc | refine keep_far ?_ GW630.out _ | refine keep_far ?_ GW631.out _ | refine keep_far ?_ GW642.out _) | exact HK.out)⟩
def spec_l02Graph.f (k : Nat) (s0_0 : List Int) (s0_1 : Int) (s0_2 : Int) : Option (Int × (List (S57)) × Int × Int) := (spec_l02Draw.f k s0_0 s0_1 s0_2 5).bind fun bt663 => (some (bt663.1, bt663.2.1, bt663.2.2.1, bt663.2.2.2))
set_option maxHeartbeats 8000000 in
set_option maxRecDepth 100000 in
theorem spec_l02Graph.calls (k : Nat) (g : Nat) (s0_0 : List Int) (s0_1 : Int) (s0_2 : Int) (r1 : Int) (r2 : List (S57)) (r3 : Int) (r4 : Int) (w0 w : World) (hI : IsS88 w0 w g s0_0 s0_1 s0_2) (hB : Below w0.heap.size w0 w) (h : spec_l02Graph.f k s0_0 s0_1 s0_2 = some (r1, r2, r3, r4)) :
  Calls Try.prog 72 #[.pointer (some ⟨g, 0, none⟩)] w fun e w' => ∃ v1_ : Value, e = .returned (.agg #[.int .i64 r1, v1_]) ∧ Kd.R k57 57 w' w.heap.size (fun _ => True) v1_ r2 ∧ IsS88 w0 w' g s0_0 r3 r4 ∧ Below w0.heap.size w0 w' ∧ KeepBut w w' g none := by
 have hu30 := Try.underlying30
 have HI0 := Aside0.mk hI
 have HK := Aside0.mk (KeepBut.refl w g none)
 have HL := Aside0.mk hB.size
 clear hI
 have HW0 := Aside0.mk hB.size
 have HB := Aside0.mk hB
 clear hB
 have H : ((spec_l02Draw.f k s0_0 s0_1 s0_2 5).bind fun bt663 => (some (bt663.1, bt663.2.1, bt663.2.2.1, bt663.2.2.2))) = some (r1, r2, r3, r4) := h
 clear h
 replace H := Option.bind_eq_some_iff.mp H
 obtain ⟨⟨t663, t664, t667, t668⟩, A20, H⟩ := H
 replace H : (some (t663, t664, t667, t668)) = some (r1, r2, r3, r4) := H
 have A2 := Aside0.mk A20
 clear A20
 simp only [Option.some.injEq, Prod.mk.injEq] at H
 obtain ⟨rfl, rfl, rfl, rfl⟩ := H
 go_enter Try.func72, Try.ntmps72
 go_wp2_with (first | ((with_reducible refine gate_dst (N := 2) rfl ?_); refine box_event ?hg (N := 2) ?hd (cs := #[.int .i64 0, .slice none 0 0]) (t := 30) ?hr ?_; (case hd => rfl); (case hg => rfl); (case hr => first | (go_simp; done) | (go_simp; rfl)); intro gb662 hg w3 hbox hb; replace HB := Aside0.mk (below_step (by repeat (first | (with_reducible first | exact HB.out | apply below_alloc | apply pw_below_drewN | apply below_drew1 | refine below_set ?_ (IsS88.ge HI0.out)) | exact HB.out)) hb); have BK662 := Aside0.mk (hbox); have GW662 := Aside0.mk ((by rw [hg]; exact (keep_size (w := w) (g := g) (row := none) (by repeat (first | (with_reducible first | exact HK.out | apply KeepBut.set_ | apply keep_drewN | apply keep_drew | apply keep_alloc) | exact HK.out))) : w.heap.size ≤ gb662)); have GE662 := Aside0.mk ((Nat.le_trans HW0.out (by rw [hg]; exact (keep_size (w := w) (g := g) (row := none) (by repeat (first | (with_reducible first | exact HK.out | apply KeepBut.set_ | apply keep_drewN | apply keep_drew | apply keep_alloc) | exact HK.out))) : w.heap.size ≤ gb662) : w0.heap.size ≤ gb662)); replace HK := Aside0.mk (KeepBut.trans (by repeat (first | (with_reducible first | exact HK.out | apply KeepBut.set_ | apply keep_drewN | apply keep_drew | apply keep_alloc) | exact HK.out)) (KeepBut.of_below hb g none) (.inl rfl)); have NB0_662 := Aside0.mk ((by rw [hg]; exact Nat.ne_of_lt (IsS88.lt (show IsS88 w0 _ g s0_0 s0_1 s0_2 from by repeat (first | (with_reducible first | exact HI0.out | apply IsS88.alloc | apply IsS88.drewN | apply IsS88.drew | apply IsS88.set_1 | apply IsS88.set_2) | exact HI0.out))) : g ≠ gb662)); have NB662_0 := Aside0.mk ((by rw [hg]; exact Nat.ne_of_gt (IsS88.lt (show IsS88 w0 _ g s0_0 s0_1 s0_2 from by repeat (first | (with_reducible first | exact HI0.out | apply IsS88.alloc | apply IsS88.drewN | apply IsS88.drew | apply IsS88.set_1 | apply IsS88.set_2) | exact HI0.out))) : gb662 ≠ g)); replace HI0 := Aside0.mk (IsS88.below (by repeat (first | (with_reducible first | exact HI0.out | apply IsS88.alloc | apply IsS88.drewN | apply IsS88.drew | apply IsS88.set_1 | apply IsS88.set_2) | exact HI0.out)) hb); clear hb hbox hg) | ((with_reducible refine gate_callee (f := 88) rfl ?_); refine goesM_ (some 4) rfl rfl Try.func88 (by kernel_rfl) rfl #[.pointer (some ⟨g, 0, none⟩), .int .i64 5] rfl ?_; (with_reducible refine (spec_l02Draw.calls k g s0_0 s0_1 s0_2 5 t663 t664 t667 t668 w0 _ ?side1 ?side2 A2.out).mono ?_); (case side1 => repeat (first | (with_reducible first | exact HI0.out | apply IsS88.alloc | apply IsS88.drewN | apply IsS88.drew | apply IsS88.set_1 | apply IsS88.set_2 | refine IsS88.far ?_ NB0_662.out _) | exact HI0.out)); (case side2 => repeat (first | (with_reducible first | exact HB.out | apply below_alloc | apply pw_below_drewN | apply below_drew1 | refine below_set ?_ (IsS88.ge HI0.out) | refine below_set ?_ GE662.out) | exact HB.out)); rintro e w4 ⟨v665, rfl, ho0, hi, hb, hk⟩; refine ⟨_, rfl, ?_⟩; replace BK662 := Aside0.mk (KeepBut.blk hk (g' := gb662) (o := .cells #[.int .i64 0, .slice none 0 0] 30 (0, 0)) (Bz BK662) NB662_0.out (by simp)); have HO666 := Aside0.mk (Kd.R_lower ho0 (keep_size (w := w) (g := g) (row := none) (by repeat (first | (with_reducible first | exact HK.out | apply KeepBut.set_ | apply keep_drewN | apply keep_drew | apply keep_alloc | refine keep_far ?_ GW662.out _) | exact HK.out)))); replace HK := Aside0.mk (KeepBut.trans (by repeat (first | (with_reducible first | exact HK.out | apply KeepBut.set_ | apply keep_drewN | apply keep_drew | apply keep_alloc | refine keep_far ?_ GW662.out _) | exact HK.out)) hk (.inl rfl)); replace HB := Aside0.mk (hb); replace HI0 := Aside0.mk (hi); (try clear hb); (try clear ho0); have hnb5 := NB662_0.out; have hnc5 := NB0_662.out; have hcz6_0 : w4.cell? ⟨gb662, 0, none⟩ = some (.int .i64 0) := (blk_cell BK662.out 0).trans rfl; have hcz6_1 : w4.cell? ⟨gb662, 1, none⟩ = some (.slice none 0 0) := (blk_cell BK662.out 1).trans rfl; have hfz6_0 := blk_frozen BK662.out 0; have hfz6_1 := blk_frozen BK662.out 1; obtain ⟨Ao7, co7, eo7⟩ := Kd.R_slice HO666.out; subst eo7))
 refine bodyPost_ret (results_cell_row rfl _ _ gb662 30 #[.int .i64 t663, .slice Ao7 t664.length co7] (0, 0) _ rfl (by (with_reducible repeat (first | refine blk_drewN ?_ _ | refine blk_drew ?_ | refine blk_alloc ?_ _)); refine blk_put (cs := #[.int .i64 t663, .slice none 0 0]) ?_ 1 _ rfl; (with_reducible repeat (first | refine blk_drewN ?_ _ | refine blk_drew ?_ | refine blk_alloc ?_ _)); refine blk_put (cs := #[.int .i64 0, .slice none 0 0]) ?_ 0 _ rfl; exact Bz BK662) Try.underlying30 rfl (by kernel_rfl)) rfl ?_
 exact ⟨_, by first | rfl | (simp [errW_none, errW_some] <;> rfl) | (simp [*, errW_none, errW_some] <;> rfl), by (with_reducible repeat (first | apply Kd.R_alloc | apply Kd.R_drewN | apply Kd.R_drew)); exact Kd.R_mono (Kd.R_far (p := ⟨gb662, 1, none⟩) (Kd.R_far (p := ⟨gb662, 0, none⟩) (Kd.R_types HO666.out BK662.out (by decide)) (fun _ hk => hk.2) (.int .i64 t663)) (fun _ hk => hk.2) (.slice Ao7 t664.length co7)) (fun _ hk => trivial), by repeat (first | (with_reducible first | exact HI0.out | apply IsS88.alloc | apply IsS88.drewN | apply IsS88.drew | apply IsS88.set_1 | apply IsS88.set_2 | refine IsS88.far ?_ NB0_662.out _) | exact HI0.out), by repeat (first | (with_reducible first | exact HB.out | apply below_alloc | apply pw_below_drewN | apply below_drew1 | refine below_set ?_ (IsS88.ge HI0.out) | refine below_set ?_ GE662.out) | exact HB.out), by repeat (first | (with_reducible first | exact HK.out | apply KeepBut.set_ | apply keep_drewN | apply keep_drew | apply keep_alloc | refine keep_far ?_ GW662.out _) | exact HK.out)⟩
def spec_l01New.l0 : Nat → List Int → Int → Int → Option (List Int × Int × Int)
 | 0, _, _, _ => none
 | k + 1, x0, x3, x4 => if x4 < (x0.length : Int) then (if x4 < 4000 then (if 0 ≤ x4 then (spec_l01New.l0 k x0 (Go.bits .and .i64 (wrap64 ((wrap64 ((wrap64 (x3 * 97)) + (wrap64 (rd x0 x4)))) + 7)) 1073741823) (wrap64 (x4 + 1))) else (none)) else (some (x0, 0, x3))) else (some (x0, 0, x3))
def spec_l01New.f (k : Nat) (l0 : List Int) : Option (List Int × Int × Int) := spec_l01New.l0 k l0 (wrap64 (2069 + (l0.length : Int))) 0
set_option maxHeartbeats 8000000 in
set_option maxRecDepth 100000 in
theorem spec_l01New.callsX (k : Nat) (A0 : Option Addr) (c0 : Nat) (l0 : List Int) (r1 : List Int) (r2 : Int) (r3 : Int) (w0 w : World) (hB : Below w0.heap.size w0 w) (hr0 : Kd.C (Kd.int .u8) w0 A0 l0.length l0) (hc0 : l0.length ≤ c0) (h : spec_l01New.f k l0 = some (r1, r2, r3)) :
  Calls Try.prog 73 #[.slice A0 l0.length c0] w fun e w' => ∃ g_ : Nat, e = .returned (.pointer (some ⟨g_, 0, none⟩)) ∧ IsS88 w0 w' g_ r1 r2 r3 ∧ Below w0.heap.size w0 w' ∧ Below w.heap.size w w' ∧ w.heap.size ≤ g_ := by
 have hu88 := Try.underlying88
 have HR0 := Aside0.mk hr0
 have HC0 := Aside0.mk hc0
 clear hr0 hc0
 have HBW := Aside0.mk (Below.refl w.heap.size w)
 have HW0 := Aside0.mk hB.size
 have HB := Aside0.mk hB
 clear hB
 have H : (spec_l01New.l0 k l0 (wrap64 (2069 + (l0.length : Int))) 0) = some (r1, r2, r3) := h
 clear h
 have H' := Aside0.mk H
 clear H
 go_enter Try.func73, Try.ntmps73
 go_wp2
 go_loopg [3, 4] k (fun kq v3 v4 w' => ∃ (x3_1 : Int) (x4_1 : Int), v3 = .int .i64 x3_1 ∧ v4 = .int .i64 x4_1 ∧ Aside0 (spec_l01New.l0 kq l0 x3_1 x4_1 = some (r1, r2, r3)) ∧ Aside0 (kq ≤ k) ∧ Aside0 (Below w0.heap.size w0 w') ∧ Aside0 (Below w.heap.size w w'))
 case atStart => exact ⟨(wrap64 (2069 + (l0.length : Int))), (0), eqA, eqA, H', ⟨Nat.le_refl _⟩, ⟨by exact Lz HB⟩, ⟨by exact Lz HBW⟩⟩
 case round =>
  clear H'
  obtain ⟨x3_1, x4_1, rfl, rfl, HA, HK1, HB, HBW⟩ := hrel
  cases gk with
  | zero => exact absurd HA.out (by simp [spec_l01New.l0])
  | succ k1 =>
   have H := HA.out
   clear HA
   simp only [spec_l01New.l0] at H
   by_cases c2 : x4_1 < (l0.length : Int)
   ·rw [if_pos c2] at H
    have c2b0 : decide (x4_1 < (l0.length : Int)) = true := decide_eq_true c2
    clear c2
    by_cases c3 : x4_1 < 4000
    ·rw [if_pos c3] at H
     have c3b0 : decide (x4_1 < 4000) = true := decide_eq_true c3
     clear c3
     by_cases c4 : 0 ≤ x4_1
     ·rw [if_pos c4] at H
      have c4b0 : decide (0 ≤ x4_1) = true := decide_eq_true c4
      clear c4
      have H' := Aside0.mk H
      clear H
      have p669 : 0 ≤ (x4_1 : Int) := ofA
      have q669 : x4_1 < (l0.length : Int) := ofA
      obtain ⟨ad669, e669, hx669_0⟩ := Kd.at_int HR0.out x4_1 p669 q669
      cases e669
      replace hx669_0 := pw_cell_below HB.out hx669_0
      replace p669 := eq_true p669
      replace q669 := eq_true q669
      go_wp2
      go_roundg k1
      case measure => have := HK1.out; omega
      case rel => exact ⟨(Go.bits .and .i64 (wrap64 ((wrap64 ((wrap64 (x3_1 * 97)) + (wrap64 (rd l0 x4_1)))) + 7)) 1073741823), (wrap64 (x4_1 + 1)), eqA, eqA, H', ⟨by have := HK1.out; omega⟩, ⟨by exact Lz HB⟩, ⟨by exact Lz HBW⟩⟩
     rw [if_neg c4] at H
     exact absurd H (by simp)
    rw [if_neg c3] at H
    have c3b0 : decide (x4_1 < 4000) = false := decide_eq_false c3
    clear c3
    simp only [Option.some.injEq, Prod.mk.injEq] at H
    obtain ⟨rfl, rfl, rfl⟩ := H
    go_wp2_with (first | ((with_reducible refine gate_dst (N := 31) rfl ?_); refine box_event ?hg (N := 31) ?hd (cs := #[.slice A0 l0.length c0, .int .i64 0, .int .i64 x3_1]) (t := 88) ?hr ?_; (case hd => rfl); (case hg => rfl); (case hr => first | (go_simp; done) | (go_simp; rfl)); intro gb670 hg w5 hbox hb; replace HB := Aside0.mk (below_step (Lz HB) hb); have BK670 := Aside0.mk (hbox); have GW670 := Aside0.mk ((by rw [hg]; exact (below_size (Lz HBW)) : w.heap.size ≤ gb670)); have GE670 := Aside0.mk ((Nat.le_trans HW0.out (by rw [hg]; exact (below_size (Lz HBW)) : w.heap.size ≤ gb670) : w0.heap.size ≤ gb670)); replace HBW := Aside0.mk (below_step HBW.out hb); clear hb hbox hg))
    go_ret
    exact ⟨_, rfl, (show IsS88 w0 _ gb670 l0 0 x3_1 from ⟨_, _, by exact Bz BK670, GE670.out, HR0.out⟩), by exact Lz1 HB GE670, by exact Lz1 HBW GW670, GW670.out⟩
   rw [if_neg c2] at H
   have c2b0 : decide (x4_1 < (l0.length : Int)) = false := decide_eq_false c2
   clear c2
   simp only [Option.some.injEq, Prod.mk.injEq] at H
   obtain ⟨rfl, rfl, rfl⟩ := H
   go_wp2_with (first | ((with_reducible refine gate_dst (N := 31) rfl ?_); refine box_event ?hg (N := 31) ?hd (cs := #[.slice A0 l0.length c0, .int .i64 0, .int .i64 x3_1]) (t := 88) ?hr ?_; (case hd => rfl); (case hg => rfl); (case hr => first | (go_simp; done) | (go_simp; rfl)); intro gb671 hg w6 hbox hb; replace HB := Aside0.mk (below_step (Lz HB) hb); have BK671 := Aside0.mk (hbox); have GW671 := Aside0.mk ((by rw [hg]; exact (below_size (Lz HBW)) : w.heap.size ≤ gb671)); have GE671 := Aside0.mk ((Nat.le_trans HW0.out (by rw [hg]; exact (below_size (Lz HBW)) : w.heap.size ≤ gb671) : w0.heap.size ≤ gb671)); replace HBW := Aside0.mk (below_step HBW.out hb); clear hb hbox hg))
   go_ret
   exact ⟨_, rfl, (show IsS88 w0 _ gb671 l0 0 x3_1 from ⟨_, _, by exact Bz BK671, GE671.out, HR0.out⟩), by exact Lz1 HB GE671, by exact Lz1 HBW GW671, GW671.out⟩
theorem spec_l01New.calls (k : Nat) (A0 : Option Addr) (c0 : Nat) (l0 : List Int) (r1 : List Int) (r2 : Int) (r3 : Int) (w0 w : World) (hB : Below w0.heap.size w0 w) (hr0 : Kd.C (Kd.int .u8) w0 A0 l0.length l0) (hc0 : l0.length ≤ c0) (h : spec_l01New.f k l0 = some (r1, r2, r3)) :
  Calls Try.prog 73 #[.slice A0 l0.length c0] w fun e w' => ∃ g_ : Nat, e = .returned (.pointer (some ⟨g_, 0, none⟩)) ∧ IsS88 w0 w' g_ r1 r2 r3 ∧ Below w0.heap.size w0 w' ∧ Below w.heap.size w w' := (spec_l01New.callsX k A0 c0 l0 r1 r2 r3 w0 w hB hr0 hc0 h).mono fun e w' ⟨g, he, hi, hb, hb2, _⟩ => ⟨g, he, hi, hb, hb2⟩
end Go.Proofs.Ytplcclifmajcfaa.P
end
