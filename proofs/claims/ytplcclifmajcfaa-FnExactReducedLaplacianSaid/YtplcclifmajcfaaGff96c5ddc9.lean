/- Functions of the program as plain Lean functions and that the machine's calls answer as they do, the words of the print that these use, lemmas and plain proofs of laws. Put together by a program of this work that leaves out what nothing uses; Lean checks it. -/
import Derived.Test.YtplcclifmajcfaaG57aacc24f0
import Derived.Test.YtplcclifmajcfaaG235d00e4a6
import Derived.Test.YtplcclifmajcfaaG252cba46f1
import Derived.Test.YtplcclifmajcfaaG41589f03eb
section
namespace Go.Proofs.Ytplcclifmajcfaa.P
open Go.RowKit Go.Proofs.YtplcclifmajcfaaW.PrintWords Go.Proofs.YtplcclifmajcfaaW.PrintLast Go.Proofs.YtplcclifmajcfaaW.PrintMore
attribute [local go_sem] max2_int min2_int max_two min_two max_three min_three max_four min_four
set_option linter.unusedVariables false
set_option linter.unusedSimpArgs false
def laws_markEdgeS.l0 : Nat → List (S57) → Int → Int → Option (Int × (List (S57)))
 | 0, _, _, _ => none
 | k + 1, x0, x1, x5 => if x5 < (x0.length : Int) then (if 0 ≤ x5 then ((some (x0.set (x5 : Int).toNat (⟨x1, (rd_T57 x0 x5).f1⟩ : S57) : List (S57))).bind fun y127 => (laws_markEdgeS.l0 k (y127.set (x5 : Int).toNat (⟨(rd_T57 y127 x5).f0, wrap64 (x1 + 1)⟩ : S57)) (wrap64 ((wrap64 (x1 + 1)) + 1)) (wrap64 (x5 + 1)))) else (none)) else (some (x1, x0))
def laws_markEdgeS.f (k : Nat) (l0 : List (S57)) (a1 : Int) : Option (Int × (List (S57))) := laws_markEdgeS.l0 k l0 a1 0
set_option maxHeartbeats 8000000 in
set_option maxRecDepth 100000 in
theorem laws_markEdgeS.calls (k : Nat) (P0_ : Nat → Prop) (u9000_ : Value) (l0 : List (S57)) (a1 : Int) (r1 : Int) (r2 : List (S57)) (w0 w : World) (hB : Below w0.heap.size w0 w) (ho0 : Kd.R k57 57 w w0.heap.size P0_ u9000_ l0) (h : laws_markEdgeS.f k l0 a1 = some (r1, r2)) :
  Calls Try.prog 52 #[u9000_, .int .i64 a1] w fun e w' => e = .returned (.int .i64 r1) ∧ Kd.R k57 57 w' w0.heap.size (fun k_ => (P0_ k_ ∨ w.heap.size ≤ k_)) u9000_ r2 ∧ Below w0.heap.size w0 w' ∧ Kept w w' (fun k_ => P0_ k_) := by
 have HO0 := Aside0.mk (show Kd.R k57 57 w w0.heap.size (fun k_ => (P0_ k_ ∨ w.heap.size ≤ k_)) u9000_ l0 from Kd.R_mono ho0 (fun k_ hk => (.inl hk)))
 have HK := Aside0.mk (Kept.refl w (fun k_ => P0_ k_))
 have HW0 := Aside0.mk hB.size
 have HB := Aside0.mk hB
 clear hB
 have H : (laws_markEdgeS.l0 k l0 a1 0) = some (r1, r2) := h
 clear h
 have H' := Aside0.mk H
 clear H
 go_enter Try.func52, Try.ntmps52
 go_wp2
 go_loopg [1, 5] k (fun kq v1 v5 w' => ∃ (x0_1 : List (S57)) (x1_1 : Int) (x5_1 : Int), v1 = .int .i64 x1_1 ∧ v5 = .int .i64 x5_1 ∧ Aside0 (laws_markEdgeS.l0 kq x0_1 x1_1 x5_1 = some (r1, r2)) ∧ Aside0 (kq ≤ k) ∧ Aside0 (Kd.R k57 57 w' w0.heap.size (fun k_ => (P0_ k_ ∨ w.heap.size ≤ k_)) u9000_ x0_1) ∧ Aside0 (Kept w w' (fun k_ => P0_ k_)) ∧ Aside0 (Below w0.heap.size w0 w'))
 case atStart => exact ⟨(l0), (a1), (0), eqA, eqA, H', ⟨Nat.le_refl _⟩, ⟨by exact Rz HO0⟩, ⟨by repeat (first | (with_reducible first | exact HK.out | apply Kept.alloc | apply Kept.drewN | apply Kept.drew) | exact HK.out)⟩, ⟨by exact Lz HB⟩⟩
 case round =>
  clear H'
  obtain ⟨x0_1, x1_1, x5_1, rfl, rfl, HA, HK1, HO_0, HK, HB⟩ := hrel
  cases gk with
  | zero => exact absurd HA.out (by simp [laws_markEdgeS.l0])
  | succ k1 =>
   have H := HA.out
   clear HA
   simp only [laws_markEdgeS.l0] at H
   by_cases c3 : x5_1 < (x0_1.length : Int)
   ·rw [if_pos c3] at H
    have c3b0 : decide (x5_1 < (x0_1.length : Int)) = true := decide_eq_true c3
    clear c3
    by_cases c4 : 0 ≤ x5_1
    ·rw [if_pos c4] at H
     have c4b0 : decide (0 ≤ x5_1) = true := decide_eq_true c4
     clear c4
     obtain ⟨y127, hy127⟩ : ∃ y_ : List (S57), y_ = (x0_1.set (x5_1 : Int).toNat (⟨x1_1, (rd_T57 x0_1 x5_1).f1⟩ : S57)) := ⟨_, rfl⟩
     replace H : (laws_markEdgeS.l0 k1 (y127.set (x5_1 : Int).toNat (⟨(rd_T57 y127 x5_1).f0, wrap64 (x1_1 + 1)⟩ : S57)) (wrap64 ((wrap64 (x1_1 + 1)) + 1)) (wrap64 (x5_1 + 1))) = some (r1, r2) := by first | (rw [hy127]; with_reducible exact H) | (have H2_ := (Option.bind_some _ _).symm.trans H; rw [hy127]; with_reducible exact H2_) | (have H2_ := (Option.bind_some _ _).symm.trans H; with_reducible exact H2_) | with_reducible exact H | (rw [hy127]; exact H) | exact H
     have Ny127 := Aside0.mk hy127
     clear hy127
     obtain ⟨y128, hy128⟩ : ∃ y_ : List (S57), y_ = (y127.set (x5_1 : Int).toNat (⟨(rd_T57 y127 x5_1).f0, wrap64 (x1_1 + 1)⟩ : S57)) := ⟨_, rfl⟩
     replace H : (laws_markEdgeS.l0 k1 y128 (wrap64 ((wrap64 (x1_1 + 1)) + 1)) (wrap64 (x5_1 + 1))) = some (r1, r2) := by first | (rw [hy128]; with_reducible exact H) | (have H2_ := (Option.bind_some _ _).symm.trans H; rw [hy128]; with_reducible exact H2_) | (have H2_ := (Option.bind_some _ _).symm.trans H; with_reducible exact H2_) | with_reducible exact H | (rw [hy128]; exact H) | exact H
     have Ny128 := Aside0.mk hy128
     clear hy128
     have H' := Aside0.mk H
     clear H
     obtain ⟨Ao7, co7, eo7⟩ := Kd.R_slice HO_0.out
     subst eo7
     have p5 : 0 ≤ (x5_1 : Int) := ofA
     have q5 : (x5_1 : Int) < ((x0_1.length : Int) : Int) := ofA
     obtain ⟨go5, co5, eo5, gb5, gl5, cl5, HG5⟩ := Kd.R_form HO_0.out (by omega)
     (first | cases eo5 | (injection eo5 with ea_ en_ ec_; (first | subst ea_ | (injection ea_ with ea_; subst ea_)); subst ec_; clear en_))
     have GB5 := Aside0.mk gb5
     have GG5 := Aside0.mk HG5
     clear gb5 gl5 HG5
     have HMgo5 := Aside0.mk (show (P0_ go5 ∨ w.heap.size ≤ go5) from (HO_0.out.1 _ rfl))
     obtain ⟨ce5, hcl5, hM5, hcc5, hfr5⟩ := Kd.R_elem HO_0.out z57 (x5_1 : Int) p5 q5
     obtain rfl := k57_openM hM5
     have hx5_0 : wr.cell? ⟨go5, (x5_1 : Int).toNat * 2, none⟩ = some (.int .i64 ((rd_T57 x0_1 x5_1).f0)) := hcc5 0 _ rfl
     have hx5_1 : wr.cell? ⟨go5, (x5_1 : Int).toNat * 2 + 1, none⟩ = some (.int .i64 ((rd_T57 x0_1 x5_1).f1)) := hcc5 1 _ rfl
     have hf5_0 : wr.frozen? ⟨go5, (x5_1 : Int).toNat * 2, none⟩ = false := hfr5 0
     have hf5_1 : wr.frozen? ⟨go5, (x5_1 : Int).toNat * 2 + 1, none⟩ = false := hfr5 1
     clear hcl5 hcc5 hfr5; (try clear hM5)
     replace p5 := eq_true p5
     replace q5 := eq_true q5
     have HX8 := Aside0.mk (show Kd.R k57 57 wr w0.heap.size (fun k_ => (P0_ k_ ∨ w.heap.size ≤ k_)) (.slice (some ⟨go5, 0, none⟩) x0_1.length co7) x0_1 from (Rz HO_0))
     obtain ⟨ce8, hcl8, hM8, hcc8, hfr8⟩ := Kd.R_elem HX8.out z57 (x5_1 : Int) (ofA) (by have h_ : (x5_1 : Int) < ((x0_1.length : Int) : Int) := ofA; first | exact h_ | (have e_ := (Kd.R_reads' HO_0.out).1; omega) | simpa using h_)
     obtain rfl := k57_openM hM8
     have HP8 := Kd.R_seg HX8.out (x5_1 : Int) (ofA) (by have h_ : (x5_1 : Int) < ((x0_1.length : Int) : Int) := ofA; first | exact h_ | (have e_ := (Kd.R_reads' HO_0.out).1; omega) | simpa using h_) (seg := [.int .i64 x1_1]) (j := 0) hcl8 hcc8 (show 1 ≤ 2 from by decide) (x' := (⟨x1_1, (rd_T57 x0_1 x5_1).f1⟩ : S57)) (k57_mkM _ _ _ (⟨x1_1, (rd_T57 x0_1 x5_1).f1⟩ : S57) ) (fun _ hk => hk)
     have hx8_0 := hcc8 0 _ rfl
     (try simp only [show (k57).sz = 2 from rfl, Nat.mul_one, Nat.add_zero] at hx8_0)
     have hf8_0 := hfr8 0
     (try simp only [show (k57).sz = 2 from rfl, Nat.mul_one, Nat.add_zero] at hf8_0)
     clear hcl8 hcc8 hfr8; (try clear hM8)
     go_wp2_with (first | ((with_reducible refine gate_store (t := 3) (p := 16) rfl ?_); refine store_event (t := 3) (p := 16) (v := ?vo_w9) (w1 := (wr.setCell ⟨go5, (x5_1 : Int).toNat * 2, none⟩ (.int .i64 x1_1))) ?hg ?ho ?hn ?hr ?_; (case ho => rfl); (case hg => rfl); (case hn => rfl); (case hr => first | (go_simp; done) | (go_simp; rfl)); intro w9 hw; have hg : wr.grownBy w9 (some go5) := (by rw [hw]; exact HP8.2); have hp_ : Kd.R k57 57 w9 w0.heap.size (fun k_ => (P0_ k_ ∨ w.heap.size ≤ k_)) (.slice (some ⟨go5, 0, none⟩) x0_1.length co7) y127 := (by rw [hw, Ny127.out]; exact HP8.1); clear HP8; replace HB := Aside0.mk ((by rw [hw]; exact below_set (HB.out) GB5.out : Below w0.heap.size w0 w9)); replace HK := Aside0.mk (Kept.of_grown (S := (fun k_ => P0_ k_)) hg (by repeat (first | (with_reducible first | exact HK.out | apply Kept.alloc | apply Kept.drewN | apply Kept.drew) | exact HK.out)) (fun k_ e_ => (HO_0.out.1 k_ e_))); replace HO_0 := Aside0.mk (hp_); clear hg hw hp_; have p6 : 0 ≤ (x5_1 : Int) := ofA; have q6 : (x5_1 : Int) < ((x0_1.length : Int) : Int) := ofA; obtain ⟨ce6, hcl6, hM6, hcc6, hfr6⟩ := Kd.R_elem HO_0.out z57 (x5_1 : Int) p6 q6; obtain rfl := k57_openM hM6; have hx6_0 : w9.cell? ⟨go5, (x5_1 : Int).toNat * 2, none⟩ = some (.int .i64 ((rd_T57 y127 x5_1).f0)) := hcc6 0 _ rfl; have hx6_1 : w9.cell? ⟨go5, (x5_1 : Int).toNat * 2 + 1, none⟩ = some (.int .i64 ((rd_T57 y127 x5_1).f1)) := hcc6 1 _ rfl; have hf6_0 : w9.frozen? ⟨go5, (x5_1 : Int).toNat * 2, none⟩ = false := hfr6 0; have hf6_1 : w9.frozen? ⟨go5, (x5_1 : Int).toNat * 2 + 1, none⟩ = false := hfr6 1; clear hcl6 hcc6 hfr6; (try clear hM6); replace p6 := eq_true p6; replace q6 := eq_true q6; have HX10 := Aside0.mk (show Kd.R k57 57 w9 w0.heap.size (fun k_ => (P0_ k_ ∨ w.heap.size ≤ k_)) (.slice (some ⟨go5, 0, none⟩) x0_1.length co7) y127 from (Rz HO_0)); obtain ⟨ce10, hcl10, hM10, hcc10, hfr10⟩ := Kd.R_elem HX10.out z57 (x5_1 : Int) (ofA) (by have h_ : (x5_1 : Int) < ((x0_1.length : Int) : Int) := ofA; first | exact h_ | (have e_ := (Kd.R_reads' HO_0.out).1; omega) | simpa using h_); obtain rfl := k57_openM hM10; have HP10 := Kd.R_seg HX10.out (x5_1 : Int) (ofA) (by have h_ : (x5_1 : Int) < ((x0_1.length : Int) : Int) := ofA; first | exact h_ | (have e_ := (Kd.R_reads' HO_0.out).1; omega) | simpa using h_) (seg := [.int .i64 (wrap64 (x1_1 + 1))]) (j := 1) hcl10 hcc10 (show 2 ≤ 2 from by decide) (x' := (⟨(rd_T57 y127 x5_1).f0, wrap64 (x1_1 + 1)⟩ : S57)) (k57_mkM _ _ _ (⟨(rd_T57 y127 x5_1).f0, wrap64 (x1_1 + 1)⟩ : S57) ) (fun _ hk => hk); have hx10_1 := hcc10 1 _ rfl; (try simp only [show (k57).sz = 2 from rfl, Nat.mul_one, Nat.add_zero] at hx10_1); have hf10_1 := hfr10 1; (try simp only [show (k57).sz = 2 from rfl, Nat.mul_one, Nat.add_zero] at hf10_1); clear hcl10 hcc10 hfr10; (try clear hM10)) | ((with_reducible refine gate_store (t := 3) (p := 23) rfl ?_); refine store_event (t := 3) (p := 23) (v := ?vo_w11) (w1 := (w9.setCell ⟨go5, (x5_1 : Int).toNat * 2 + 1, none⟩ (.int .i64 (wrap64 (x1_1 + 1))))) ?hg ?ho ?hn ?hr ?_; (case ho => rfl); (case hg => rfl); (case hn => rfl); (case hr => first | (go_simp; done) | (go_simp; rfl)); intro w11 hw; have hg : w9.grownBy w11 (some go5) := (by rw [hw]; exact HP10.2); have hp_ : Kd.R k57 57 w11 w0.heap.size (fun k_ => (P0_ k_ ∨ w.heap.size ≤ k_)) (.slice (some ⟨go5, 0, none⟩) x0_1.length co7) y128 := (by rw [hw, Ny128.out]; exact HP10.1); clear HP10; replace HB := Aside0.mk ((by rw [hw]; exact below_set (HB.out) GB5.out : Below w0.heap.size w0 w11)); replace HK := Aside0.mk (Kept.of_grown (S := (fun k_ => P0_ k_)) hg (by repeat (first | (with_reducible first | exact HK.out | apply Kept.alloc | apply Kept.drewN | apply Kept.drew) | exact HK.out)) (fun k_ e_ => (HO_0.out.1 k_ e_))); replace HO_0 := Aside0.mk (hp_); clear hg hw hp_))
     go_roundg k1
     case measure => have := HK1.out; omega
     case rel => exact ⟨(y128), (wrap64 ((wrap64 (x1_1 + 1)) + 1)), (wrap64 (x5_1 + 1)), eqA, eqA, H', ⟨by have := HK1.out; omega⟩, ⟨by exact Rz HO_0⟩, ⟨by repeat (first | (with_reducible first | exact HK.out | apply Kept.alloc | apply Kept.drewN | apply Kept.drew) | exact HK.out)⟩, ⟨by exact Lz HB⟩⟩
    rw [if_neg c4] at H
    exact absurd H (by simp)
   rw [if_neg c3] at H
   have c3b0 : decide (x5_1 < (x0_1.length : Int)) = false := decide_eq_false c3
   clear c3
   simp only [Option.some.injEq, Prod.mk.injEq] at H
   obtain ⟨rfl, rfl⟩ := H
   obtain ⟨Ao12, co12, eo12⟩ := Kd.R_slice HO_0.out
   subst eo12
   go_wp2
   go_ret
   exact ⟨by first | rfl | (simp [errW_none, errW_some] <;> rfl) | (simp [*, errW_none, errW_some] <;> rfl), by exact Rz HO_0, by exact Lz HB, by repeat (first | (with_reducible first | exact HK.out | apply Kept.alloc | apply Kept.drewN | apply Kept.drew) | exact HK.out)⟩
def laws_markGraph.f (k : Nat) (a0_0 : Int) (l0_1 : List (S57)) (a1 : Int) : Option (Int × (List (S57))) := (laws_markEdgeS.f k l0_1 a1).bind fun bt130 => (some (bt130.1, bt130.2))
set_option maxHeartbeats 8000000 in
set_option maxRecDepth 100000 in
theorem laws_markGraph.calls (k : Nat) (a0_0 : Int) (P0_1_ : Nat → Prop) (u9000_ : Value) (l0_1 : List (S57)) (a1 : Int) (r1 : Int) (r2 : List (S57)) (w0 w : World) (hB : Below w0.heap.size w0 w) (ho0_1 : Kd.R k57 57 w w0.heap.size P0_1_ u9000_ l0_1) (h : laws_markGraph.f k a0_0 l0_1 a1 = some (r1, r2)) :
  Calls Try.prog 17 #[.agg #[.int .i64 a0_0, u9000_], .int .i64 a1] w fun e w' => e = .returned (.int .i64 r1) ∧ Kd.R k57 57 w' w0.heap.size (fun k_ => (P0_1_ k_ ∨ w.heap.size ≤ k_)) u9000_ r2 ∧ Below w0.heap.size w0 w' ∧ Kept w w' (fun k_ => P0_1_ k_) := by
 have hu30 := Try.underlying30
 have HO0_1 := Aside0.mk (show Kd.R k57 57 w w0.heap.size (fun k_ => (P0_1_ k_ ∨ w.heap.size ≤ k_)) u9000_ l0_1 from Kd.R_mono ho0_1 (fun k_ hk => (.inl hk)))
 have HK := Aside0.mk (Kept.refl w (fun k_ => P0_1_ k_))
 have HW0 := Aside0.mk hB.size
 have HB := Aside0.mk hB
 clear hB
 have H : ((laws_markEdgeS.f k l0_1 a1).bind fun bt130 => (some (bt130.1, bt130.2))) = some (r1, r2) := h
 clear h
 replace H := Option.bind_eq_some_iff.mp H
 obtain ⟨⟨t130, t131⟩, A30, H⟩ := H
 replace H : (some (t130, t131)) = some (r1, r2) := H
 have A3 := Aside0.mk A30
 clear A30
 simp only [Option.some.injEq, Prod.mk.injEq] at H
 obtain ⟨rfl, rfl⟩ := H
 obtain ⟨Ao4, co4, eo4⟩ := Kd.R_slice HO0_1.out
 subst eo4
 go_enter Try.func17, Try.ntmps17
 go_wp2_with (first | ((with_reducible refine gate_dst (N := 2) rfl ?_); refine box_event ?hg (N := 2) ?hd (cs := #[.int .i64 a0_0, .slice Ao4 l0_1.length co4]) (t := 30) ?hr ?_; (case hd => rfl); (case hg => rfl); (case hr => first | (go_simp; done) | (go_simp; rfl)); intro gb129 hg w5 hbox hb; replace HO0_1 := Aside0.mk (Kd.R_below (Rz HO0_1) hb); have BK129 := Aside0.mk (hbox); have GW129 := Aside0.mk ((by rw [hg]; exact (by first | exact HK.out.1 | exact (show Kept w _ (fun k_ => P0_1_ k_) from by repeat (first | (with_reducible first | exact HK.out | apply Kept.alloc | apply Kept.drewN | apply Kept.drew) | exact HK.out)).1) : w.heap.size ≤ gb129)); replace HK := Aside0.mk (Kept.below (S := (fun k_ => P0_1_ k_)) (by repeat (first | (with_reducible first | exact HK.out | apply Kept.alloc | apply Kept.drewN | apply Kept.drew) | exact HK.out)) hb); have GE129 := Aside0.mk ((by rw [hg]; exact (below_size (Lz HB)) : w0.heap.size ≤ gb129)); replace HB := Aside0.mk (below_step (Lz HB) hb); clear hb hbox hg; have hcz6_0 : w5.cell? ⟨gb129, 0, none⟩ = some (.int .i64 a0_0) := (blk_cell BK129.out 0).trans rfl; have hcz6_1 : w5.cell? ⟨gb129, 1, none⟩ = some (.slice Ao4 l0_1.length co4) := (blk_cell BK129.out 1).trans rfl; have hfz6_0 := blk_frozen BK129.out 0; have hfz6_1 := blk_frozen BK129.out 1) | ((with_reducible refine gate_callee (f := 52) rfl ?_); refine goesM_ (some 8) rfl rfl Try.func52 (by kernel_rfl) rfl #[.slice Ao4 l0_1.length co4, .int .i64 a1] rfl ?_; (with_reducible refine (laws_markEdgeS.calls k (fun k_ => some k_ = (.slice Ao4 l0_1.length co4 : Value).ownBlock) (.slice Ao4 l0_1.length co4) l0_1 a1 t130 t131 w0 _ ?side1 ?side2 A3.out).mono ?_); (case side1 => exact Lz1 HB GE129); (case side2 => exact Kd.R_tight rfl HO0_1.out); rintro e w7 ⟨rfl, hy0, hb, hkp⟩; refine ⟨_, rfl, ?_⟩; replace BK129 := Aside0.mk (blk_kept (Bz BK129) hkp (fun hs_ => (fun e_ => (Kd.R_ne HO0_1.out BK129.out (by decide)) e_) hs_)); replace HK := Aside0.mk (Kept.then_ (S := (fun k_ => P0_1_ k_)) (by repeat (first | (with_reducible first | exact HK.out | apply Kept.alloc | apply Kept.drewN | apply Kept.drew | refine Kept.setCell ?_ (.inr GW129.out) _) | exact HK.out)) hkp (fun k_ hs_ => (fun e_ => (HO0_1.out.1 k_ e_.symm)) hs_)); replace HO0_1 := Aside0.mk (Kd.R_reok rfl hy0 (fun k_ e_ => HO0_1.out.1 k_ e_)); replace HB := Aside0.mk (hb); (try clear hb); (try clear hkp); (try clear hy0)))
 go_ret
 exact ⟨by first | rfl | (simp [errW_none, errW_some] <;> rfl) | (simp [*, errW_none, errW_some] <;> rfl), by exact Rz HO0_1, by exact Lz1 HB GE129, by repeat (first | (with_reducible first | exact HK.out | apply Kept.alloc | apply Kept.drewN | apply Kept.drew | refine Kept.setCell ?_ (.inr GW129.out) _) | exact HK.out)⟩
def laws_eqIntSS.l0 : Nat → List (List Int) → List (List Int) → Int → Option (Bool)
 | 0, _, _, _ => none
 | k + 1, x0, x1, x5 => if x5 < (x0.length : Int) then (if 0 ≤ x5 then (if x5 < (x1.length : Int) then ((laws_eqIntS.f k (rd_L4 x0 x5) (rd_L4 x1 x5)).bind fun t315 => (if t315 = true then (laws_eqIntSS.l0 k x0 x1 (wrap64 (x5 + 1))) else (some false))) else (none)) else (none)) else (some true)
def laws_eqIntSS.f (k : Nat) (l0 : List (List Int)) (l1 : List (List Int)) : Option (Bool) := if (l0.length : Int) = (l1.length : Int) then (laws_eqIntSS.l0 k l0 l1 0) else (some false)
set_option maxHeartbeats 8000000 in
set_option maxRecDepth 100000 in
theorem laws_eqIntSS.calls (k : Nat) (A0 : Option Addr) (c0 : Nat) (l0 : List (List Int)) (A1 : Option Addr) (c1 : Nat) (l1 : List (List Int)) (r : Bool) (w : World) (hr0 : Kd.C (Kd.slice 3 (Kd.int .i64)) w A0 l0.length l0) (hc0 : l0.length ≤ c0) (hr1 : Kd.C (Kd.slice 3 (Kd.int .i64)) w A1 l1.length l1) (hc1 : l1.length ≤ c1) (h : laws_eqIntSS.f k l0 l1 = some r) :
  Calls Try.prog 15 #[.slice A0 l0.length c0, .slice A1 l1.length c1] w fun e w' => e = .returned (.bool r) ∧ Drawn0 w w' := by
 have HR0 := Aside0.mk hr0
 have HC0 := Aside0.mk hc0
 clear hr0 hc0
 have HR1 := Aside0.mk hr1
 have HC1 := Aside0.mk hc1
 clear hr1 hc1
 have H : (if (l0.length : Int) = (l1.length : Int) then (laws_eqIntSS.l0 k l0 l1 0) else (some false)) = some r := h
 clear h
 by_cases c3 : (l0.length : Int) = (l1.length : Int)
 ·rw [if_pos c3] at H
  have c3b0 : ((l0.length : Int) == (l1.length : Int)) = true := beq_iff_eq.mpr c3
  have c3b1 : ((l0.length : Int) != (l1.length : Int)) = false := bne_eq_false_iff_eq.mpr c3
  have c3b2 : (l0.length == l1.length) = true := by first | simpa using c3 | (simp at c3 ⊢; omega)
  clear c3
  have H' := Aside0.mk H
  clear H
  go_enter Try.func15, Try.ntmps15
  go_wp2
  repeat (go_quiet (fail); try go_wp2)
  go_loopg [5] k (fun kq v5 w' => ∃ (x5_1 : Int), v5 = .int .i64 x5_1 ∧ Aside0 (laws_eqIntSS.l0 kq l0 l1 x5_1 = some r) ∧ Aside0 (kq ≤ k) ∧ Drawn0 w w')
  case atStart => exact ⟨(0), eqA, H', ⟨Nat.le_refl _⟩, by repeat (first | exact Drawn0.refl _ | apply Drawn0.step)⟩
  case round =>
   clear H'
   try clear c1
   try clear c3
   try clear c3b0
   try clear c3b1
   try clear c3b2
   obtain ⟨x5_1, rfl, HA, HK1, ⟨m1, rfl⟩⟩ := hrel
   cases gk with
   | zero => exact absurd HA.out (by simp [laws_eqIntSS.l0])
   | succ k1 =>
    have H := HA.out
    clear HA
    simp only [laws_eqIntSS.l0] at H
    by_cases c4 : x5_1 < (l0.length : Int)
    ·rw [if_pos c4] at H
     have c4b0 : decide (x5_1 < (l0.length : Int)) = true := decide_eq_true c4
     clear c4
     by_cases c5 : 0 ≤ x5_1
     ·rw [if_pos c5] at H
      have c5b0 : decide (0 ≤ x5_1) = true := decide_eq_true c5
      clear c5
      by_cases c6 : x5_1 < (l1.length : Int)
      ·rw [if_pos c6] at H
       have c6b0 : decide (x5_1 < (l1.length : Int)) = true := decide_eq_true c6
       clear c6
       replace H := Option.bind_eq_some_iff.mp H
       obtain ⟨t315, A70, H⟩ := H
       replace H : (if t315 = true then (laws_eqIntSS.l0 k1 l0 l1 (wrap64 (x5_1 + 1))) else (some false)) = some r := H
       have A7 := Aside0.mk A70
       clear A70
       by_cases c8 : t315 = true
       ·subst c8
        have H1 : (laws_eqIntSS.l0 k1 l0 l1 (wrap64 (x5_1 + 1))) = some r := by rw [if_pos rfl] at H; exact H
        clear H
        have H := H1
        clear H1
        have H' := Aside0.mk H
        clear H
        have p313 : 0 ≤ (x5_1 : Int) := ofA
        have q313 : x5_1 < (l0.length : Int) := ofA
        obtain ⟨ad313, A313_0, c313_0, e313, hx313_0, hl313_0, hi313_0⟩ := at_L4 HR0.out x5_1 p313 q313
        cases e313
        have HR313_0 := Aside0.mk hi313_0
        have HC313_0 := Aside0.mk hl313_0
        clear hi313_0 hl313_0
        replace p313 := eq_true p313
        replace q313 := eq_true q313
        have p314 : 0 ≤ (x5_1 : Int) := ofA
        have q314 : x5_1 < (l1.length : Int) := ofA
        obtain ⟨ad314, A314_0, c314_0, e314, hx314_0, hl314_0, hi314_0⟩ := at_L4 HR1.out x5_1 p314 q314
        cases e314
        have HR314_0 := Aside0.mk hi314_0
        have HC314_0 := Aside0.mk hl314_0
        clear hi314_0 hl314_0
        replace p314 := eq_true p314
        replace q314 := eq_true q314
        go_wp2_with (first | (go_at_call 24; (with_reducible refine (laws_eqIntS.calls k1 _ _ (rd_L4 l0 x5_1) _ _ (rd_L4 l1 x5_1) true _ ?side1 ?side2 ?side3 ?side4 A7.out).mono ?_); (case side1 => exact Cz (HR313_0.out)); (case side2 => exact HC313_0.out); (case side3 => exact Cz (HR314_0.out)); (case side4 => exact HC314_0.out); rintro e w' ⟨rfl, ⟨nd, rfl⟩⟩; (try first | exact ⟨rfl, _, World.drewN_drewN _ _ _⟩ | exact ⟨rfl, _, Eq.trans (World.drewN_drewN _ _ _) (congrArg (World.drewN _) (Nat.add_assoc _ _ _))⟩)))
        repeat (go_quiet (first | (go_at_call 24; (with_reducible refine (laws_eqIntS.calls k1 _ _ (rd_L4 l0 x5_1) _ _ (rd_L4 l1 x5_1) true _ ?side1 ?side2 ?side3 ?side4 A7.out).mono ?_); (case side1 => exact Cz (HR313_0.out)); (case side2 => exact HC313_0.out); (case side3 => exact Cz (HR314_0.out)); (case side4 => exact HC314_0.out); rintro e w' ⟨rfl, ⟨nd, rfl⟩⟩; (try first | exact ⟨rfl, _, World.drewN_drewN _ _ _⟩ | exact ⟨rfl, _, Eq.trans (World.drewN_drewN _ _ _) (congrArg (World.drewN _) (Nat.add_assoc _ _ _))⟩))); try go_wp2_with (first | (go_at_call 24; (with_reducible refine (laws_eqIntS.calls k1 _ _ (rd_L4 l0 x5_1) _ _ (rd_L4 l1 x5_1) true _ ?side1 ?side2 ?side3 ?side4 A7.out).mono ?_); (case side1 => exact Cz (HR313_0.out)); (case side2 => exact HC313_0.out); (case side3 => exact Cz (HR314_0.out)); (case side4 => exact HC314_0.out); rintro e w' ⟨rfl, ⟨nd, rfl⟩⟩; (try first | exact ⟨rfl, _, World.drewN_drewN _ _ _⟩ | exact ⟨rfl, _, Eq.trans (World.drewN_drewN _ _ _) (congrArg (World.drewN _) (Nat.add_assoc _ _ _))⟩))))
        go_roundg k1
        case measure => have := HK1.out; omega
        case rel => exact ⟨(wrap64 (x5_1 + 1)), eqA, H', ⟨by have := HK1.out; omega⟩, by repeat (first | exact Drawn0.refl _ | apply Drawn0.step)⟩
       replace c8 := Bool.eq_false_iff.mpr c8
       subst c8
       have H1 : (some false) = some r := by rw [if_neg (show ¬ (false = true) by decide)] at H; exact H
       clear H
       have H := H1
       clear H1
       obtain rfl := Option.some.inj H
       have p313 : 0 ≤ (x5_1 : Int) := ofA
       have q313 : x5_1 < (l0.length : Int) := ofA
       obtain ⟨ad313, A313_0, c313_0, e313, hx313_0, hl313_0, hi313_0⟩ := at_L4 HR0.out x5_1 p313 q313
       cases e313
       have HR313_0 := Aside0.mk hi313_0
       have HC313_0 := Aside0.mk hl313_0
       clear hi313_0 hl313_0
       replace p313 := eq_true p313
       replace q313 := eq_true q313
       have p314 : 0 ≤ (x5_1 : Int) := ofA
       have q314 : x5_1 < (l1.length : Int) := ofA
       obtain ⟨ad314, A314_0, c314_0, e314, hx314_0, hl314_0, hi314_0⟩ := at_L4 HR1.out x5_1 p314 q314
       cases e314
       have HR314_0 := Aside0.mk hi314_0
       have HC314_0 := Aside0.mk hl314_0
       clear hi314_0 hl314_0
       replace p314 := eq_true p314
       replace q314 := eq_true q314
       go_wp2_with (first | (go_at_call 24; (with_reducible refine (laws_eqIntS.calls k1 _ _ (rd_L4 l0 x5_1) _ _ (rd_L4 l1 x5_1) false _ ?side1 ?side2 ?side3 ?side4 A7.out).mono ?_); (case side1 => exact Cz (HR313_0.out)); (case side2 => exact HC313_0.out); (case side3 => exact Cz (HR314_0.out)); (case side4 => exact HC314_0.out); rintro e w' ⟨rfl, ⟨nd, rfl⟩⟩; (try first | exact ⟨rfl, _, World.drewN_drewN _ _ _⟩ | exact ⟨rfl, _, Eq.trans (World.drewN_drewN _ _ _) (congrArg (World.drewN _) (Nat.add_assoc _ _ _))⟩)))
       repeat (go_quiet (first | (go_at_call 24; (with_reducible refine (laws_eqIntS.calls k1 _ _ (rd_L4 l0 x5_1) _ _ (rd_L4 l1 x5_1) false _ ?side1 ?side2 ?side3 ?side4 A7.out).mono ?_); (case side1 => exact Cz (HR313_0.out)); (case side2 => exact HC313_0.out); (case side3 => exact Cz (HR314_0.out)); (case side4 => exact HC314_0.out); rintro e w' ⟨rfl, ⟨nd, rfl⟩⟩; (try first | exact ⟨rfl, _, World.drewN_drewN _ _ _⟩ | exact ⟨rfl, _, Eq.trans (World.drewN_drewN _ _ _) (congrArg (World.drewN _) (Nat.add_assoc _ _ _))⟩))); try go_wp2_with (first | (go_at_call 24; (with_reducible refine (laws_eqIntS.calls k1 _ _ (rd_L4 l0 x5_1) _ _ (rd_L4 l1 x5_1) false _ ?side1 ?side2 ?side3 ?side4 A7.out).mono ?_); (case side1 => exact Cz (HR313_0.out)); (case side2 => exact HC313_0.out); (case side3 => exact Cz (HR314_0.out)); (case side4 => exact HC314_0.out); rintro e w' ⟨rfl, ⟨nd, rfl⟩⟩; (try first | exact ⟨rfl, _, World.drewN_drewN _ _ _⟩ | exact ⟨rfl, _, Eq.trans (World.drewN_drewN _ _ _) (congrArg (World.drewN _) (Nat.add_assoc _ _ _))⟩))))
       go_ret
       exact ⟨eqA, by repeat (first | exact Drawn0.refl _ | apply Drawn0.step)⟩
      rw [if_neg c6] at H
      exact absurd H (by simp)
     rw [if_neg c5] at H
     exact absurd H (by simp)
    rw [if_neg c4] at H
    have c4b0 : decide (x5_1 < (l0.length : Int)) = false := decide_eq_false c4
    clear c4
    obtain rfl := Option.some.inj H
    go_wp2
    repeat (go_quiet (fail); try go_wp2)
    go_ret
    exact ⟨eqA, by repeat (first | exact Drawn0.refl _ | apply Drawn0.step)⟩
 rw [if_neg c3] at H
 have c3b0 : ((l0.length : Int) == (l1.length : Int)) = false := beq_eq_false_iff_ne.mpr c3
 have c3b1 : ((l0.length : Int) != (l1.length : Int)) = true := bne_iff_ne.mpr c3
 have c3b2 : (l0.length == l1.length) = false := by first | simpa using c3 | (simp at c3 ⊢; omega)
 obtain rfl := Option.some.inj H
 go_enter Try.func15, Try.ntmps15
 go_wp2
 repeat (go_quiet (fail); try go_wp2)
 go_ret
 exact ⟨eqA, by repeat (first | exact Drawn0.refl _ | apply Drawn0.step)⟩
def laws_markIntS.l0 : Nat → List Int → Int → Int → Option (Int × List Int)
 | 0, _, _, _ => none
 | k + 1, x0, x1, x5 => if x5 < (x0.length : Int) then (if 0 ≤ x5 then (laws_markIntS.l0 k (x0.set (x5 : Int).toNat x1) (wrap64 (x1 + 1)) (wrap64 (x5 + 1))) else (none)) else (some (x1, x0))
def laws_markIntS.f (k : Nat) (l0 : List Int) (a1 : Int) : Option (Int × List Int) := laws_markIntS.l0 k l0 a1 0
set_option maxHeartbeats 8000000 in
set_option maxRecDepth 100000 in
theorem laws_markIntS.calls (k : Nat) (P0_ : Nat → Prop) (u9000_ : Value) (l0 : List Int) (a1 : Int) (r1 : Int) (r2 : List Int) (w0 w : World) (hB : Below w0.heap.size w0 w) (ho0 : Kd.R (Kd.int .i64) 3 w w0.heap.size P0_ u9000_ l0) (h : laws_markIntS.f k l0 a1 = some (r1, r2)) :
  Calls Try.prog 25 #[u9000_, .int .i64 a1] w fun e w' => e = .returned (.int .i64 r1) ∧ Kd.R (Kd.int .i64) 3 w' w0.heap.size (fun k_ => (P0_ k_ ∨ w.heap.size ≤ k_)) u9000_ r2 ∧ Below w0.heap.size w0 w' ∧ Kept w w' (fun k_ => P0_ k_) := by
 have HO0 := Aside0.mk (show Kd.R (Kd.int .i64) 3 w w0.heap.size (fun k_ => (P0_ k_ ∨ w.heap.size ≤ k_)) u9000_ l0 from Kd.R_mono ho0 (fun k_ hk => (.inl hk)))
 have HK := Aside0.mk (Kept.refl w (fun k_ => P0_ k_))
 have HW0 := Aside0.mk hB.size
 have HB := Aside0.mk hB
 clear hB
 have H : (laws_markIntS.l0 k l0 a1 0) = some (r1, r2) := h
 clear h
 have H' := Aside0.mk H
 clear H
 go_enter Try.func25, Try.ntmps25
 go_wp2
 go_loopg [1, 5] k (fun kq v1 v5 w' => ∃ (x0_1 : List Int) (x1_1 : Int) (x5_1 : Int), v1 = .int .i64 x1_1 ∧ v5 = .int .i64 x5_1 ∧ Aside0 (laws_markIntS.l0 kq x0_1 x1_1 x5_1 = some (r1, r2)) ∧ Aside0 (kq ≤ k) ∧ Aside0 (Kd.R (Kd.int .i64) 3 w' w0.heap.size (fun k_ => (P0_ k_ ∨ w.heap.size ≤ k_)) u9000_ x0_1) ∧ Aside0 (Kept w w' (fun k_ => P0_ k_)) ∧ Aside0 (Below w0.heap.size w0 w'))
 case atStart => exact ⟨(l0), (a1), (0), eqA, eqA, H', ⟨Nat.le_refl _⟩, ⟨by exact Rz HO0⟩, ⟨by repeat (first | (with_reducible first | exact HK.out | apply Kept.alloc | apply Kept.drewN | apply Kept.drew) | exact HK.out)⟩, ⟨by exact Lz HB⟩⟩
 case round =>
  clear H'
  obtain ⟨x0_1, x1_1, x5_1, rfl, rfl, HA, HK1, HO_0, HK, HB⟩ := hrel
  cases gk with
  | zero => exact absurd HA.out (by simp [laws_markIntS.l0])
  | succ k1 =>
   have H := HA.out
   clear HA
   simp only [laws_markIntS.l0] at H
   by_cases c3 : x5_1 < (x0_1.length : Int)
   ·rw [if_pos c3] at H
    have c3b0 : decide (x5_1 < (x0_1.length : Int)) = true := decide_eq_true c3
    clear c3
    by_cases c4 : 0 ≤ x5_1
    ·rw [if_pos c4] at H
     have c4b0 : decide (0 ≤ x5_1) = true := decide_eq_true c4
     clear c4
     obtain ⟨y316, hy316⟩ : ∃ y_ : List Int, y_ = (x0_1.set (x5_1 : Int).toNat x1_1) := ⟨_, rfl⟩
     replace H : (laws_markIntS.l0 k1 y316 (wrap64 (x1_1 + 1)) (wrap64 (x5_1 + 1))) = some (r1, r2) := by first | (rw [hy316]; with_reducible exact H) | (have H2_ := (Option.bind_some _ _).symm.trans H; rw [hy316]; with_reducible exact H2_) | (have H2_ := (Option.bind_some _ _).symm.trans H; with_reducible exact H2_) | with_reducible exact H | (rw [hy316]; exact H) | exact H
     have Ny316 := Aside0.mk hy316
     clear hy316
     have H' := Aside0.mk H
     clear H
     obtain ⟨Ao6, co6, eo6⟩ := Kd.R_slice HO_0.out
     subst eo6
     have p5 : 0 ≤ (x5_1 : Int) := ofA
     have q5 : (x5_1 : Int) < ((x0_1.length : Int) : Int) := ofA
     obtain ⟨go5, co5, eo5, gb5, gl5, cl5, HG5⟩ := Kd.R_form HO_0.out (by omega)
     (first | cases eo5 | (injection eo5 with ea_ en_ ec_; (first | subst ea_ | (injection ea_ with ea_; subst ea_)); subst ec_; clear en_))
     have GB5 := Aside0.mk gb5
     have GG5 := Aside0.mk HG5
     clear gb5 gl5 HG5
     have HMgo5 := Aside0.mk (show (P0_ go5 ∨ w.heap.size ≤ go5) from (HO_0.out.1 _ rfl))
     obtain ⟨hx5_0, hf5_0⟩ := Kd.R_celln 0 HO_0.out (x5_1 : Int) p5 q5
     replace p5 := eq_true p5
     replace q5 := eq_true q5
     have HP7 := Kd.R_putg HO_0.out (x5_1 : Int) x1_1
     go_wp2_with (first | ((with_reducible refine gate_store (t := 3) (p := 15) rfl ?_); refine store_event (t := 3) (p := 15) (v := ?vo_w8) (w1 := (wr.setCell ⟨go5, (x5_1 : Int).toNat, none⟩ (.int .i64 x1_1))) ?hg ?ho ?hn ?hr ?_; (case ho => rfl); (case hg => rfl); (case hn => rfl); (case hr => first | (go_simp; done) | (go_simp; rfl)); intro w8 hw; have hg : wr.grownBy w8 (some go5) := (by rw [hw]; exact HP7.2); have hp_ : Kd.R (Kd.int .i64) 3 w8 w0.heap.size (fun k_ => (P0_ k_ ∨ w.heap.size ≤ k_)) (.slice (some ⟨go5, 0, none⟩) x0_1.length co6) y316 := (by rw [hw, Ny316.out]; exact HP7.1); clear HP7; replace HB := Aside0.mk ((by rw [hw]; exact below_set (HB.out) GB5.out : Below w0.heap.size w0 w8)); replace HK := Aside0.mk (Kept.of_grown (S := (fun k_ => P0_ k_)) hg (by repeat (first | (with_reducible first | exact HK.out | apply Kept.alloc | apply Kept.drewN | apply Kept.drew) | exact HK.out)) (fun k_ e_ => (HO_0.out.1 k_ e_))); replace HO_0 := Aside0.mk (hp_); clear hg hw hp_))
     go_roundg k1
     case measure => have := HK1.out; omega
     case rel => exact ⟨(y316), (wrap64 (x1_1 + 1)), (wrap64 (x5_1 + 1)), eqA, eqA, H', ⟨by have := HK1.out; omega⟩, ⟨by exact Rz HO_0⟩, ⟨by repeat (first | (with_reducible first | exact HK.out | apply Kept.alloc | apply Kept.drewN | apply Kept.drew) | exact HK.out)⟩, ⟨by exact Lz HB⟩⟩
    rw [if_neg c4] at H
    exact absurd H (by simp)
   rw [if_neg c3] at H
   have c3b0 : decide (x5_1 < (x0_1.length : Int)) = false := decide_eq_false c3
   clear c3
   simp only [Option.some.injEq, Prod.mk.injEq] at H
   obtain ⟨rfl, rfl⟩ := H
   obtain ⟨Ao9, co9, eo9⟩ := Kd.R_slice HO_0.out
   subst eo9
   go_wp2
   go_ret
   exact ⟨by first | rfl | (simp [errW_none, errW_some] <;> rfl) | (simp [*, errW_none, errW_some] <;> rfl), by exact Rz HO_0, by exact Lz HB, by repeat (first | (with_reducible first | exact HK.out | apply Kept.alloc | apply Kept.drewN | apply Kept.drew) | exact HK.out)⟩
def laws_markIntSS.l0 : Nat → List (List Int) → Int → Int → Option (Int × List (List Int))
 | 0, _, _, _ => none
 | k + 1, x0, x1, x5 => if x5 < (x0.length : Int) then (if 0 ≤ x5 then ((laws_markIntS.f k (x0.getD (x5 : Int).toNat []) x1).bind fun bt => (laws_markIntSS.l0 k (x0.set (x5 : Int).toNat bt.2) bt.1 (wrap64 (x5 + 1)))) else (none)) else (some (x1, x0))
def laws_markIntSS.f (k : Nat) (l0 : List (List Int)) (a1 : Int) : Option (Int × List (List Int)) := laws_markIntSS.l0 k l0 a1 0
set_option maxHeartbeats 8000000 in
set_option maxRecDepth 100000 in
theorem laws_markIntSS.calls (k : Nat) (P0_ : Nat → Prop) (u9000_ : Value) (l0 : List (List Int)) (a1 : Int) (r1 : Int) (r2 : List (List Int)) (w0 w : World) (hB : Below w0.heap.size w0 w) (ho0 : Kd.S (Kd.slice 3 (Kd.int .i64)) 37 w w0.heap.size P0_ u9000_ l0) (h : laws_markIntSS.f k l0 a1 = some (r1, r2)) :
  Calls Try.prog 18 #[u9000_, .int .i64 a1] w fun e w' => e = .returned (.int .i64 r1) ∧ Kd.S (Kd.slice 3 (Kd.int .i64)) 37 w' w0.heap.size P0_ u9000_ r2 ∧ Below w0.heap.size w0 w' ∧ Kept w w' (fun k_ => P0_ k_) := by
 have HO0 := Aside0.mk ho0
 have HK := Aside0.mk (Kept.refl w (fun k_ => P0_ k_))
 have HB := Aside0.mk hB
 clear hB ho0
 have H' := Aside0.mk (show (laws_markIntSS.l0 k l0 a1 0) = some (r1, r2) from h)
 clear h
 go_enter Try.func18, Try.ntmps18
 go_wp2
 go_loopg [1, 5] k (fun kq v1 v5 w' => ∃ (x0_1 : List (List Int)) (x1_1 : Int) (x5_1 : Int), v1 = .int .i64 x1_1 ∧ v5 = .int .i64 x5_1 ∧ Aside0 (laws_markIntSS.l0 kq x0_1 x1_1 x5_1 = some (r1, r2)) ∧ Aside0 (kq ≤ k) ∧ Aside0 (Kd.S (Kd.slice 3 (Kd.int .i64)) 37 w' w0.heap.size P0_ u9000_ x0_1) ∧ Aside0 (Kept w w' (fun k_ => P0_ k_)) ∧ Aside0 (Below w0.heap.size w0 w'))
 case atStart => exact ⟨l0, a1, 0, eqA, eqA, H', ⟨Nat.le_refl _⟩, HO0, HK, HB⟩
 case round =>
  clear H' HO0
  obtain ⟨x0_1, x1_1, x5_1, rfl, rfl, HA, HK1, HO_0, HK, HB⟩ := hrel
  cases gk with
  | zero => exact absurd HA.out (by simp [laws_markIntSS.l0])
  | succ k1 =>
   have H := HA.out
   clear HA
   simp only [laws_markIntSS.l0] at H
   by_cases c3 : x5_1 < (x0_1.length : Int)
   ·rw [if_pos c3] at H
    have c3b0 : decide (x5_1 < (x0_1.length : Int)) = true := decide_eq_true c3
    by_cases c4 : 0 ≤ x5_1
    ·rw [if_pos c4] at H
     have c4b0 : decide (0 ≤ x5_1) = true := decide_eq_true c4
     obtain ⟨⟨t1, t2⟩, A30, H⟩ := Option.bind_eq_some_iff.mp H
     have H' := Aside0.mk (show laws_markIntSS.l0 k1 (x0_1.set (x5_1 : Int).toNat t2) t1 (wrap64 (x5_1 + 1)) = some (r1, r2) from H)
     clear H
     obtain ⟨go, co, eo, gb, gl, cl, HG⟩ := Kd.S_form HO_0.out (by omega)
     (first | cases eo | subst eo)
     obtain ⟨oki, ce, hcl, hM, hcc, hfr, hoki, hH⟩ := Kd.S_elem HO_0.out ([] : List Int) x5_1 c4 c3
     generalize x0_1.getD (x5_1 : Int).toNat ([] : List Int) = el at A30 hM
     have A3 := Aside0.mk A30
     clear A30
     obtain ⟨ve, rfl, hRe⟩ := hM
     obtain ⟨Ae, cE, rfl⟩ := Kd.R_slice hRe
     have hx5_0 : wr.cell? ⟨go, (x5_1 : Int).toNat, none⟩ = some (.slice Ae el.length cE) := by have := hcc 0 _ rfl; simpa [Kd.slice] using this
     have hf5_0 : wr.frozen? ⟨go, (x5_1 : Int).toNat, none⟩ = false := by have := hfr 0; simpa [Kd.slice] using this
     have HRE := Aside0.mk hRe
     have HH := Aside0.mk hH
     have HOK := Aside0.mk hoki
     clear hRe hH hcl hcc hfr hoki HG
     replace c3 := Aside0.mk c3
     replace c4 := Aside0.mk c4
     have p5 := eq_true c4.out
     have q5 := eq_true c3.out
     go_wp2_with (first | ((with_reducible refine gate_callee (f := 25) rfl ?_); refine goesM_ (some 17) rfl rfl Try.func25 (by kernel_rfl) rfl #[.slice Ae el.length cE, .int .i64 x1_1] rfl ?_; (with_reducible refine (laws_markIntS.calls k1 oki (.slice Ae el.length cE) el x1_1 t1 t2 w0 _ HB.out HRE.out A3.out).mono ?_); rintro e w11 ⟨rfl, hy0, hb, hkp⟩; refine ⟨_, rfl, ?_⟩; replace HH := Aside0.mk (Kd.H_step HH.out (fun k_ _ hn_ hlt_ => hkp.2 k_ hlt_ hn_)); have HS2 := Aside0.mk (Kd.H_back HH.out (x' := t2) ⟨_, rfl, Kd.R_tight rfl hy0⟩ (fun k_ hk_ => HRE.out.1 k_ hk_.symm)); replace HK := Aside0.mk (Kept.then_ (S := (fun k_ => P0_ k_)) HK.out hkp (fun k_ hs_ => .inl (HOK.out k_ hs_).1)); replace HB := Aside0.mk hb; clear hy0 hkp hb))
     go_roundg k1
     case measure => have := HK1.out; omega
     case rel => exact ⟨_, t1, (wrap64 (x5_1 + 1)), eqA, eqA, H', ⟨by have := HK1.out; omega⟩, HS2, HK, HB⟩
    rw [if_neg c4] at H
    exact absurd H (by simp)
   rw [if_neg c3] at H
   have c3b0 : decide (x5_1 < (x0_1.length : Int)) = false := decide_eq_false c3
   clear c3
   simp only [Option.some.injEq, Prod.mk.injEq] at H
   obtain ⟨rfl, rfl⟩ := H
   obtain ⟨Ao12, co12, eo12⟩ := Kd.S_slice HO_0.out
   subst eo12
   go_wp2
   go_ret
   exact ⟨eqA, HO_0.out, HB.out, HK.out⟩
def laws_heldIntS.l0 : Nat → List Int → Int → Int → Option (Int)
 | 0, _, _, _ => none
 | k + 1, x0, x1, x5 => if x5 < (x0.length : Int) then (if 0 ≤ x5 then (if (rd x0 x5) = x1 then (laws_heldIntS.l0 k x0 (wrap64 (x1 + 1)) (wrap64 (x5 + 1))) else (some (-1))) else (none)) else (some x1)
def laws_heldIntS.f (k : Nat) (l0 : List Int) (a1 : Int) : Option (Int) := laws_heldIntS.l0 k l0 a1 0
set_option maxHeartbeats 8000000 in
set_option maxRecDepth 100000 in
theorem laws_heldIntS.calls (k : Nat) (A0 : Option Addr) (c0 : Nat) (l0 : List Int) (a1 : Int) (r : Int) (w : World) (hr0 : Kd.C (Kd.int .i64) w A0 l0.length l0) (hc0 : l0.length ≤ c0) (h : laws_heldIntS.f k l0 a1 = some r) :
  Calls Try.prog 26 #[.slice A0 l0.length c0, .int .i64 a1] w fun e w' => e = .returned (.int .i64 r) ∧ Drawn0 w w' := by
 have HR0 := Aside0.mk hr0
 have HC0 := Aside0.mk hc0
 clear hr0 hc0
 have H : (laws_heldIntS.l0 k l0 a1 0) = some r := h
 clear h
 have H' := Aside0.mk H
 clear H
 go_enter Try.func26, Try.ntmps26
 go_wp2
 go_loopg [1, 5] k (fun kq v1 v5 w' => ∃ (x1_1 : Int) (x5_1 : Int), v1 = .int .i64 x1_1 ∧ v5 = .int .i64 x5_1 ∧ Aside0 (laws_heldIntS.l0 kq l0 x1_1 x5_1 = some r) ∧ Aside0 (kq ≤ k) ∧ Drawn0 w w')
 case atStart => exact ⟨(a1), (0), eqA, eqA, H', ⟨Nat.le_refl _⟩, by repeat (first | exact Drawn0.refl _ | apply Drawn0.step)⟩
 case round =>
  clear H'
  obtain ⟨x1_1, x5_1, rfl, rfl, HA, HK1, ⟨m1, rfl⟩⟩ := hrel
  cases gk with
  | zero => exact absurd HA.out (by simp [laws_heldIntS.l0])
  | succ k1 =>
   have H := HA.out
   clear HA
   simp only [laws_heldIntS.l0] at H
   by_cases c3 : x5_1 < (l0.length : Int)
   ·rw [if_pos c3] at H
    have c3b0 : decide (x5_1 < (l0.length : Int)) = true := decide_eq_true c3
    clear c3
    by_cases c4 : 0 ≤ x5_1
    ·rw [if_pos c4] at H
     have c4b0 : decide (0 ≤ x5_1) = true := decide_eq_true c4
     clear c4
     by_cases c5 : (rd l0 x5_1) = x1_1
     ·rw [if_pos c5] at H
      have c5b0 : ((rd l0 x5_1) == x1_1) = true := beq_iff_eq.mpr c5
      have c5b1 : ((rd l0 x5_1) != x1_1) = false := bne_eq_false_iff_eq.mpr c5
      clear c5
      have H' := Aside0.mk H
      clear H
      have p317 : 0 ≤ (x5_1 : Int) := ofA
      have q317 : x5_1 < (l0.length : Int) := ofA
      obtain ⟨ad317, e317, hx317_0⟩ := Kd.at_int HR0.out x5_1 p317 q317
      cases e317
      replace p317 := eq_true p317
      replace q317 := eq_true q317
      go_wp2
      go_roundg k1
      case measure => have := HK1.out; omega
      case rel => exact ⟨(wrap64 (x1_1 + 1)), (wrap64 (x5_1 + 1)), eqA, eqA, H', ⟨by have := HK1.out; omega⟩, by repeat (first | exact Drawn0.refl _ | apply Drawn0.step)⟩
     rw [if_neg c5] at H
     have c5b0 : ((rd l0 x5_1) == x1_1) = false := beq_eq_false_iff_ne.mpr c5
     have c5b1 : ((rd l0 x5_1) != x1_1) = true := bne_iff_ne.mpr c5
     obtain rfl := Option.some.inj H
     have p317 : 0 ≤ (x5_1 : Int) := ofA
     have q317 : x5_1 < (l0.length : Int) := ofA
     obtain ⟨ad317, e317, hx317_0⟩ := Kd.at_int HR0.out x5_1 p317 q317
     cases e317
     replace p317 := eq_true p317
     replace q317 := eq_true q317
     go_wp2
     go_ret
     exact ⟨eqA, by repeat (first | exact Drawn0.refl _ | apply Drawn0.step)⟩
    rw [if_neg c4] at H
    exact absurd H (by simp)
   rw [if_neg c3] at H
   have c3b0 : decide (x5_1 < (l0.length : Int)) = false := decide_eq_false c3
   clear c3
   obtain rfl := Option.some.inj H
   go_wp2
   go_ret
   exact ⟨eqA, by repeat (first | exact Drawn0.refl _ | apply Drawn0.step)⟩
def laws_heldIntSS.l0 : Nat → List (List Int) → Int → Int → Option (Int)
 | 0, _, _, _ => none
 | k + 1, x0, x1, x5 => if x5 < (x0.length : Int) then (if 0 ≤ x5 then ((laws_heldIntS.f k (rd_L4 x0 x5) x1).bind fun t319 => (if t319 < 0 then (some (-1)) else (laws_heldIntSS.l0 k x0 t319 (wrap64 (x5 + 1))))) else (none)) else (some x1)
def laws_heldIntSS.f (k : Nat) (l0 : List (List Int)) (a1 : Int) : Option (Int) := laws_heldIntSS.l0 k l0 a1 0
set_option maxHeartbeats 8000000 in
set_option maxRecDepth 100000 in
theorem laws_heldIntSS.calls (k : Nat) (A0 : Option Addr) (c0 : Nat) (l0 : List (List Int)) (a1 : Int) (r : Int) (w : World) (hr0 : Kd.C (Kd.slice 3 (Kd.int .i64)) w A0 l0.length l0) (hc0 : l0.length ≤ c0) (h : laws_heldIntSS.f k l0 a1 = some r) :
  Calls Try.prog 19 #[.slice A0 l0.length c0, .int .i64 a1] w fun e w' => e = .returned (.int .i64 r) ∧ Drawn0 w w' := by
 have HR0 := Aside0.mk hr0
 have HC0 := Aside0.mk hc0
 clear hr0 hc0
 have H : (laws_heldIntSS.l0 k l0 a1 0) = some r := h
 clear h
 have H' := Aside0.mk H
 clear H
 go_enter Try.func19, Try.ntmps19
 go_wp2
 go_loopg [1, 5] k (fun kq v1 v5 w' => ∃ (x1_1 : Int) (x5_1 : Int), v1 = .int .i64 x1_1 ∧ v5 = .int .i64 x5_1 ∧ Aside0 (laws_heldIntSS.l0 kq l0 x1_1 x5_1 = some r) ∧ Aside0 (kq ≤ k) ∧ Drawn0 w w')
 case atStart => exact ⟨(a1), (0), eqA, eqA, H', ⟨Nat.le_refl _⟩, by repeat (first | exact Drawn0.refl _ | apply Drawn0.step)⟩
 case round =>
  clear H'
  obtain ⟨x1_1, x5_1, rfl, rfl, HA, HK1, ⟨m1, rfl⟩⟩ := hrel
  cases gk with
  | zero => exact absurd HA.out (by simp [laws_heldIntSS.l0])
  | succ k1 =>
   have H := HA.out
   clear HA
   simp only [laws_heldIntSS.l0] at H
   by_cases c3 : x5_1 < (l0.length : Int)
   ·rw [if_pos c3] at H
    have c3b0 : decide (x5_1 < (l0.length : Int)) = true := decide_eq_true c3
    clear c3
    by_cases c4 : 0 ≤ x5_1
    ·rw [if_pos c4] at H
     have c4b0 : decide (0 ≤ x5_1) = true := decide_eq_true c4
     clear c4
     replace H := Option.bind_eq_some_iff.mp H
     obtain ⟨t319, A50, H⟩ := H
     replace H : (if t319 < 0 then (some (-1)) else (laws_heldIntSS.l0 k1 l0 t319 (wrap64 (x5_1 + 1)))) = some r := H
     have A5 := Aside0.mk A50
     clear A50
     by_cases c6 : t319 < 0
     ·rw [if_pos c6] at H
      have c6b0 : decide (t319 < 0) = true := decide_eq_true c6
      clear c6
      obtain rfl := Option.some.inj H
      have p318 : 0 ≤ (x5_1 : Int) := ofA
      have q318 : x5_1 < (l0.length : Int) := ofA
      obtain ⟨ad318, A318_0, c318_0, e318, hx318_0, hl318_0, hi318_0⟩ := at_L4 HR0.out x5_1 p318 q318
      cases e318
      have HR318_0 := Aside0.mk hi318_0
      have HC318_0 := Aside0.mk hl318_0
      clear hi318_0 hl318_0
      replace p318 := eq_true p318
      replace q318 := eq_true q318
      go_wp2_with (first | ((with_reducible refine gate_callee (f := 26) rfl ?_); refine goesM_ (some 17) rfl rfl Try.func26 (by kernel_rfl) rfl #[.slice A318_0 (rd_L4 l0 x5_1).length c318_0, .int .i64 x1_1] rfl ?_; (with_reducible refine (laws_heldIntS.calls k1 _ _ (rd_L4 l0 x5_1) x1_1 t319 _ ?side1 ?side2 A5.out).mono ?_); (case side1 => exact Cz (HR318_0.out)); (case side2 => exact HC318_0.out); rintro e w' ⟨rfl, ⟨nd, rfl⟩⟩; refine ⟨_, rfl, ?_⟩))
      go_ret
      exact ⟨eqA, by repeat (first | exact Drawn0.refl _ | apply Drawn0.step)⟩
     rw [if_neg c6] at H
     have c6b0 : decide (t319 < 0) = false := decide_eq_false c6
     clear c6
     have H' := Aside0.mk H
     clear H
     have p318 : 0 ≤ (x5_1 : Int) := ofA
     have q318 : x5_1 < (l0.length : Int) := ofA
     obtain ⟨ad318, A318_0, c318_0, e318, hx318_0, hl318_0, hi318_0⟩ := at_L4 HR0.out x5_1 p318 q318
     cases e318
     have HR318_0 := Aside0.mk hi318_0
     have HC318_0 := Aside0.mk hl318_0
     clear hi318_0 hl318_0
     replace p318 := eq_true p318
     replace q318 := eq_true q318
     go_wp2_with (first | ((with_reducible refine gate_callee (f := 26) rfl ?_); refine goesM_ (some 17) rfl rfl Try.func26 (by kernel_rfl) rfl #[.slice A318_0 (rd_L4 l0 x5_1).length c318_0, .int .i64 x1_1] rfl ?_; (with_reducible refine (laws_heldIntS.calls k1 _ _ (rd_L4 l0 x5_1) x1_1 t319 _ ?side1 ?side2 A5.out).mono ?_); (case side1 => exact Cz (HR318_0.out)); (case side2 => exact HC318_0.out); rintro e w' ⟨rfl, ⟨nd, rfl⟩⟩; refine ⟨_, rfl, ?_⟩))
     go_roundg k1
     case measure => have := HK1.out; omega
     case rel => exact ⟨(t319), (wrap64 (x5_1 + 1)), eqA, eqA, H', ⟨by have := HK1.out; omega⟩, by repeat (first | exact Drawn0.refl _ | apply Drawn0.step)⟩
    rw [if_neg c4] at H
    exact absurd H (by simp)
   rw [if_neg c3] at H
   have c3b0 : decide (x5_1 < (l0.length : Int)) = false := decide_eq_false c3
   clear c3
   obtain rfl := Option.some.inj H
   go_wp2
   go_ret
   exact ⟨eqA, by repeat (first | exact Drawn0.refl _ | apply Drawn0.step)⟩
mutual
def laws_FnExactReducedLaplacian.j0 : Nat → Int → Int → List (S82) → Option (Bool)
 | 0, _, _, _ => none
 | k + 1, x1, x362000, x362001 => (laws_toGraph.f k x362000 x362001).bind fun bt363 => ((spec_ReducedLaplacian.f k bt363.1 bt363.2 x1).bind fun t367 => ((laws_toGraph.f k x362000 x362001).bind fun bt370 => ((impl_ReducedLaplacian.f k bt370.1 bt370.2 x1).bind fun t375 => ((laws_eqIntSS.f k t375 t367).bind fun t378 => (if t378 = true then (laws_FnExactReducedLaplacian.j1 k x1 t367 t375 x362000 x362001 bt370.1 bt370.2) else (some false))))))
def laws_FnExactReducedLaplacian.j1 : Nat → Int → List (List Int) → List (List Int) → Int → List (S82) → Int → List (S57) → Option (Bool)
 | 0, _, _, _, _, _, _, _ => none
 | k + 1, x1, x6, x8, x362000, x362001, x375000, x375001 => (laws_toGraph.f k x362000 x362001).bind fun bt379 => ((laws_eqGraph.f k x375000 x375001 bt379.1 bt379.2).bind fun t383 => (if t383 = true then (laws_FnExactReducedLaplacian.j2 k x1 x6 x8 x362000 x362001 x375000 x375001) else (some false)))
def laws_FnExactReducedLaplacian.j2 : Nat → Int → List (List Int) → List (List Int) → Int → List (S82) → Int → List (S57) → Option (Bool)
 | 0, _, _, _, _, _, _, _ => none
 | k + 1, x1, x6, x8, x362000, x362001, x375000, x375001 => (laws_markGraph.f k x375000 x375001 1).bind fun bt384 => (if bt384.1 < 0 then (laws_FnExactReducedLaplacian.j3 k x1 x6 x8 true x362000 x362001) else ((laws_eqIntSS.f k x8 x6).bind fun t386 => (laws_FnExactReducedLaplacian.j3 k x1 x6 x8 (!t386) x362000 x362001)))
def laws_FnExactReducedLaplacian.j3 : Nat → Int → List (List Int) → List (List Int) → Bool → Int → List (S82) → Option (Bool)
 | 0, _, _, _, _, _, _ => none
 | k + 1, x1, x6, x8, x46, x362000, x362001 => if x46 = true then (some false) else (laws_FnExactReducedLaplacian.j4 k x1 x6 x8 x362000 x362001)
def laws_FnExactReducedLaplacian.j4 : Nat → Int → List (List Int) → List (List Int) → Int → List (S82) → Option (Bool)
 | 0, _, _, _, _, _ => none
 | k + 1, x1, x6, x8, x362000, x362001 => (laws_markIntSS.f k x8 1).bind fun bt387 => ((laws_heldIntSS.f k bt387.2 1).bind fun t389 => (if t389 < 0 then (some false) else (laws_FnExactReducedLaplacian.j5 k x1 x6 bt387.2 bt387.1 t389 x362000 x362001)))
def laws_FnExactReducedLaplacian.j5 : Nat → Int → List (List Int) → List (List Int) → Int → Int → Int → List (S82) → Option (Bool)
 | 0, _, _, _, _, _, _, _ => none
 | k + 1, x1, x6, x8, x10, x11, x362000, x362001 => if x11 = x10 then (laws_FnExactReducedLaplacian.j6 k x1 x6 x8 x10 x362000 x362001) else (some false)
def laws_FnExactReducedLaplacian.j6 : Nat → Int → List (List Int) → List (List Int) → Int → Int → List (S82) → Option (Bool)
 | 0, _, _, _, _, _, _ => none
 | k + 1, x1, x6, x8, x10, x362000, x362001 => (laws_toGraph.f k x362000 x362001).bind fun bt390 => ((impl_ReducedLaplacian.f k bt390.1 bt390.2 x1).bind fun t394 => ((laws_eqIntSS.f k t394 x6).bind fun t397 => (if t397 = true then (laws_FnExactReducedLaplacian.j7 k x8 x10) else (some false))))
def laws_FnExactReducedLaplacian.j7 : Nat → List (List Int) → Int → Option (Bool)
 | 0, _, _ => none
 | k + 1, x8, x10 => (laws_heldIntSS.f k x8 1).bind fun t398 => (if t398 < 0 then (some false) else (laws_FnExactReducedLaplacian.j8 k x10 t398))
def laws_FnExactReducedLaplacian.j8 : Nat → Int → Int → Option (Bool)
 | 0, _, _ => none
 | k + 1, x10, x11 => if x11 = x10 then (some true) else (some false)
end
def laws_FnExactReducedLaplacian.f (k : Nat) (a0_0 : Int) (l0_1 : List (S82)) (a1 : Int) : Option (Bool) := (laws_szGraph.f a0_0 l0_1 1048576).bind fun t362 => (if t362 < 0 then (some true) else (laws_FnExactReducedLaplacian.j0 k a1 a0_0 l0_1))
theorem laws_FnExactReducedLaplacian.ages {α : Type} {d : Kd α} {e base : Nat} {W w' : World} {ok ok0 : Nat → Prop} {u v : Value} {xs ys : List α} (ho : Kd.S d e w' W.heap.size ok v xs) (h0 : Kd.S d e W base ok0 u ys) (hb : Below W.heap.size W w') :
    ∃ N : Nat, Kd.S d e w' W.heap.size (fun k_ => ok k_ ∧ (some k_ ≠ u.ownBlock ∧ N ≤ k_)) v xs ∧ Kd.S d e w' base (fun k_ => ok0 k_ ∧ (some k_ ≠ v.ownBlock ∧ k_ < N)) u ys :=
  ⟨W.heap.size, Kd.S_mono (Kd.S_bound (Kd.S_new' ho (Kd.S_lt h0))) (fun _ hk => ⟨hk.1.1, hk.1.2, hk.2.1⟩), Kd.S_mono (Kd.S_elder' (Kd.S_mono (ok' := fun k_ => ok0 k_ ∧ k_ < W.heap.size) (Kd.S_bound h0) (fun _ hk => ⟨hk.1, hk.2.2.1⟩)) (Kd.S_base ho) hb) (fun _ hk => ⟨hk.1.1, hk.2, hk.1.2⟩)⟩
set_option maxHeartbeats 8000000 in
set_option maxRecDepth 100000 in
theorem laws_FnExactReducedLaplacian.calls (k : Nat) (a0_0 : Int) (A0_1 : Option Addr) (c0_1 : Nat) (l0_1 : List (S82)) (a1 : Int) (r : Bool) (w : World) (hr0_1 : Kd.C k82 w A0_1 l0_1.length l0_1) (hc0_1 : l0_1.length ≤ c0_1) (h : laws_FnExactReducedLaplacian.f k a0_0 l0_1 a1 = some r) (hR_ : r = true := by rfl) :
  Calls Try.prog 5 #[.agg #[.int .i64 a0_0, .slice A0_1 l0_1.length c0_1], .int .i64 a1] w fun e w' => e = .returned (.bool r) ∧ Below w.heap.size w w' := by
 have HR_ := Aside0.mk hR_
 clear hR_
 have hu24 := Try.underlying24
 have hu30 := Try.underlying30
 have HR0_1 := Aside0.mk hr0_1
 have HC0_1 := Aside0.mk hc0_1
 clear hr0_1 hc0_1
 have HB := Aside0.mk (Below.refl w.heap.size w)
 have H : ((laws_szGraph.f a0_0 l0_1 1048576).bind fun t362 => (if t362 < 0 then (some true) else (laws_FnExactReducedLaplacian.j0 k a1 a0_0 l0_1))) = some r := h
 clear h
 replace H := Option.bind_eq_some_iff.mp H
 obtain ⟨t362, A30, H⟩ := H
 replace H : (if t362 < 0 then (some true) else (laws_FnExactReducedLaplacian.j0 k a1 a0_0 l0_1)) = some r := H
 have A3 := Aside0.mk A30
 clear A30
 have HC4 := Aside0.mk H
 clear H
 go_enter Try.func5, Try.ntmps5
 go_upto_if 17 with (first | ((with_reducible refine gate_dst (N := 2) rfl ?_); refine box_event ?hg (N := 2) ?hd (cs := #[.int .i64 a0_0, .slice A0_1 l0_1.length c0_1]) (t := 24) ?hr ?_; (case hd => rfl); (case hg => rfl); (case hr => first | (go_simp; done) | (go_simp; rfl)); intro gb361 hg w5 hbox hb; have BK361 := Aside0.mk (hbox); have GW361 := Aside0.mk ((by rw [hg]; exact (below_size (Lz HB)) : w.heap.size ≤ gb361)); have GE361 := Aside0.mk ((by rw [hg]; exact (below_size (Lz HB)) : w.heap.size ≤ gb361)); replace HB := Aside0.mk (below_step (Lz HB) hb); clear hb hbox hg; have hcz6_0 : w5.cell? ⟨gb361, 0, none⟩ = some (.int .i64 a0_0) := (blk_cell BK361.out 0).trans rfl; have hcz6_1 : w5.cell? ⟨gb361, 1, none⟩ = some (.slice A0_1 l0_1.length c0_1) := (blk_cell BK361.out 1).trans rfl; have hfz6_0 := blk_frozen BK361.out 0; have hfz6_1 := blk_frozen BK361.out 1) | ((with_reducible refine gate_callee (f := 11) rfl ?_); refine goesM_ (some 15) rfl rfl Try.func11 (by kernel_rfl) rfl #[.agg #[.int .i64 a0_0, .slice A0_1 l0_1.length c0_1], .int .i64 1048576] rfl ?_; (with_reducible refine (laws_szGraph.calls a0_0 _ _ l0_1 1048576 t362 _ ?side1 ?side2 A3.out).mono ?_); (case side1 => exact Cz ((Kd.C_below HR0_1.out HB.out))); (case side2 => exact HC0_1.out); rintro e w7 ⟨rfl, hb⟩; refine ⟨_, rfl, ?_⟩; replace BK361 := Aside0.mk (blk_below (g := gb361) (o := .cells #[.int .i64 a0_0, .slice A0_1 l0_1.length c0_1] 24 (0, 0)) (Bz BK361) hb); replace HB := Aside0.mk (below_step (by exact Lz1 HB GE361) hb); (try clear hb); (try clear hb2); (try clear hk); (try clear hi)))
 (try simp only [Act.put, List.setIfInBounds_toArray, List.set_cons_zero, List.set_cons_succ])
 go_cut [] (fun wc => ∃ (kq : Nat), Aside0 (laws_FnExactReducedLaplacian.j0 kq a1 a0_0 l0_1 = some r) ∧ Aside0 (kq ≤ k) ∧ Aside0 (wc.heap[gb361]? = some (.cells #[.int .i64 a0_0, (.slice A0_1 l0_1.length c0_1)] 24 (0, 0))) ∧ Aside0 (Below w.heap.size w wc))
 case first =>
  have H := HC4.out
  clear HC4
  by_cases c8 : t362 < 0
  ·rw [if_pos c8] at H
   have c8b0 : decide (t362 < 0) = true := decide_eq_true c8
   clear c8
   (first | rw [c8b0] | (simp only [i64_w, i32_w]; rw [c8b0]) | skip)
   obtain rfl := Option.some.inj H
   go_wp2
   go_ret
   exact ⟨by first | rfl | (simp [errW_none, errW_some] <;> rfl) | (simp [*, errW_none, errW_some] <;> rfl), by exact Lz1 HB GE361⟩
  rw [if_neg c8] at H
  have c8b0 : decide (t362 < 0) = false := decide_eq_false c8
  clear c8
  (first | rw [c8b0] | (simp only [i64_w, i32_w]; rw [c8b0]) | skip)
  have H' := Aside0.mk H
  clear H
  go_wp2
  go_meet
  case rel => exact ⟨_, H', ⟨by first | omega | exact Nat.le_refl _⟩, ⟨by exact Bz BK361⟩, ⟨by exact Lz1 HB GE361⟩⟩
 case rest =>
  clear HC4
  try clear c8
  try clear c8b0
  obtain ⟨kq, HA, HJ3, BK361, HB⟩ := hcut
  cases kq with
  | zero => exact absurd HA.out (by simp [laws_FnExactReducedLaplacian.j0])
  | succ kj3 =>
   have H := HA.out
   clear HA
   simp only [laws_FnExactReducedLaplacian.j0] at H
   replace H := Option.bind_eq_some_iff.mp H
   obtain ⟨⟨t363, t364⟩, A90, H⟩ := H
   replace H : ((spec_ReducedLaplacian.f kj3 t363 t364 a1).bind fun t367 => ((laws_toGraph.f kj3 a0_0 l0_1).bind fun bt370 => ((impl_ReducedLaplacian.f kj3 bt370.1 bt370.2 a1).bind fun t375 => ((laws_eqIntSS.f kj3 t375 t367).bind fun t378 => (if t378 = true then (laws_FnExactReducedLaplacian.j1 kj3 a1 t367 t375 a0_0 l0_1 bt370.1 bt370.2) else (some false)))))) = some r := H
   have A9 := Aside0.mk A90
   clear A90
   replace H := Option.bind_eq_some_iff.mp H
   obtain ⟨t367, A100, H⟩ := H
   replace H : ((laws_toGraph.f kj3 a0_0 l0_1).bind fun bt370 => ((impl_ReducedLaplacian.f kj3 bt370.1 bt370.2 a1).bind fun t375 => ((laws_eqIntSS.f kj3 t375 t367).bind fun t378 => (if t378 = true then (laws_FnExactReducedLaplacian.j1 kj3 a1 t367 t375 a0_0 l0_1 bt370.1 bt370.2) else (some false))))) = some r := H
   have A10 := Aside0.mk A100
   clear A100
   replace H := Option.bind_eq_some_iff.mp H
   obtain ⟨⟨t370, t371⟩, A110, H⟩ := H
   replace H : ((impl_ReducedLaplacian.f kj3 t370 t371 a1).bind fun t375 => ((laws_eqIntSS.f kj3 t375 t367).bind fun t378 => (if t378 = true then (laws_FnExactReducedLaplacian.j1 kj3 a1 t367 t375 a0_0 l0_1 t370 t371) else (some false)))) = some r := H
   have A11 := Aside0.mk A110
   clear A110
   replace H := Option.bind_eq_some_iff.mp H
   obtain ⟨t375, A120, H⟩ := H
   replace H : ((laws_eqIntSS.f kj3 t375 t367).bind fun t378 => (if t378 = true then (laws_FnExactReducedLaplacian.j1 kj3 a1 t367 t375 a0_0 l0_1 t370 t371) else (some false))) = some r := H
   have A12 := Aside0.mk A120
   clear A120
   replace H := Option.bind_eq_some_iff.mp H
   obtain ⟨t378, A130, H⟩ := H
   replace H : (if t378 = true then (laws_FnExactReducedLaplacian.j1 kj3 a1 t367 t375 a0_0 l0_1 t370 t371) else (some false)) = some r := H
   have A13 := Aside0.mk A130
   clear A130
   have HC14 := Aside0.mk H
   clear H
   have hcz15_0 : wc.cell? ⟨gb361, 0, none⟩ = some (.int .i64 a0_0) := (blk_cell BK361.out 0).trans rfl
   have hcz15_1 : wc.cell? ⟨gb361, 1, none⟩ = some (.slice A0_1 l0_1.length c0_1) := (blk_cell BK361.out 1).trans rfl
   have hfz15_0 := blk_frozen BK361.out 0
   have hfz15_1 := blk_frozen BK361.out 1
   go_upto_if 30 with (first | ((with_reducible refine gate_callee (f := 13) rfl ?_); refine goesM_ (some 19) rfl rfl Try.func13 (by kernel_rfl) rfl #[.agg #[.int .i64 a0_0, .slice A0_1 l0_1.length c0_1]] rfl ?_; (with_reducible refine (laws_toGraph.calls kj3 a0_0 _ _ l0_1 t363 t364 _ ?side1 ?side2 A9.out).mono ?_); (case side1 => exact Cz ((Kd.C_below HR0_1.out HB.out))); (case side2 => exact HC0_1.out); rintro e w16 ⟨v365, rfl, ho0, hb⟩; refine ⟨_, rfl, ?_⟩; have HO366 := Aside0.mk (Kd.R_lower ho0 (below_size (by exact Lz1 HB GE361))); replace BK361 := Aside0.mk (blk_below (g := gb361) (o := .cells #[.int .i64 a0_0, .slice A0_1 l0_1.length c0_1] 24 (0, 0)) (Bz BK361) hb); replace HB := Aside0.mk (below_step (by exact Lz1 HB GE361) hb); (try clear hb); (try clear ho0); obtain ⟨Ao17, co17, eo17⟩ := Kd.R_slice HO366.out; subst eo17) | ((with_reducible refine gate_callee (f := 27) rfl ?_); refine goesM_ (some 21) rfl rfl Try.func27 (by kernel_rfl) rfl #[.agg #[.int .i64 t363, .slice Ao17 t364.length co17], .int .i64 a1] rfl ?_; (with_reducible refine (spec_ReducedLaplacian.calls kj3 t363 _ _ t364 a1 t367 _ ?side1 ?side2 A10.out).mono ?_); (case side1 => exact Cz ((Kd.R_reads' HO366.out).2.2)); (case side2 => exact (Kd.R_reads' HO366.out).2.1); rintro e w18 ⟨v368, rfl, ho0, hb⟩; refine ⟨_, rfl, ?_⟩; replace HO366 := Aside0.mk (Kd.R_below (Rz HO366) hb); have HO369 := Aside0.mk (Kd.S_lower ho0 (below_size (by exact Lz1 HB GE361))); replace BK361 := Aside0.mk (blk_below (g := gb361) (o := .cells #[.int .i64 a0_0, .slice A0_1 l0_1.length c0_1] 24 (0, 0)) (Bz BK361) hb); replace HB := Aside0.mk (below_step (by exact Lz1 HB GE361) hb); (try clear hb); (try clear ho0); have hcz19_0 : w18.cell? ⟨gb361, 0, none⟩ = some (.int .i64 a0_0) := (blk_cell BK361.out 0).trans rfl; have hcz19_1 : w18.cell? ⟨gb361, 1, none⟩ = some (.slice A0_1 l0_1.length c0_1) := (blk_cell BK361.out 1).trans rfl; have hfz19_0 := blk_frozen BK361.out 0; have hfz19_1 := blk_frozen BK361.out 1) | ((with_reducible refine gate_callee (f := 13) rfl ?_); refine goesM_ (some 23) rfl rfl Try.func13 (by kernel_rfl) rfl #[.agg #[.int .i64 a0_0, .slice A0_1 l0_1.length c0_1]] rfl ?_; (with_reducible refine (laws_toGraph.calls kj3 a0_0 _ _ l0_1 t370 t371 _ ?side1 ?side2 A11.out).mono ?_); (case side1 => exact Cz ((Kd.C_below HR0_1.out HB.out))); (case side2 => exact HC0_1.out); rintro e w20 ⟨v372, rfl, ho0, hb⟩; refine ⟨_, rfl, ?_⟩; replace HO369 := Aside0.mk (Kd.S_below (by (with_reducible repeat (first | apply Kd.S_alloc | apply Kd.S_drewN | apply Kd.S_drew)); exact HO369.out) hb); have HO373 := Aside0.mk (Kd.R_lower (Kd.R_new' ho0 (Kd.R_lt (Rz HO366))) (below_size (by exact Lz1 HB GE361))); replace HO366 := Aside0.mk (Kd.R_elder' (Rz HO366) (Kd.R_base ho0) hb); replace BK361 := Aside0.mk (blk_below (g := gb361) (o := .cells #[.int .i64 a0_0, .slice A0_1 l0_1.length c0_1] 24 (0, 0)) (Bz BK361) hb); replace HB := Aside0.mk (below_step (by exact Lz1 HB GE361) hb); (try clear hb); (try clear ho0)) | ((with_reducible refine gate_dst (N := 7) rfl ?_); refine box_event ?hg (N := 7) ?hd (cs := #[.int .i64 0, .slice none 0 0]) (t := 30) ?hr ?_; (case hd => rfl); (case hg => rfl); (case hr => first | (go_simp; done) | (go_simp; rfl)); intro gb374 hg w21 hbox hb; replace HO366 := Aside0.mk (Kd.R_below (Rz HO366) hb); replace HO369 := Aside0.mk (Kd.S_below (by (with_reducible repeat (first | apply Kd.S_alloc | apply Kd.S_drewN | apply Kd.S_drew)); exact HO369.out) hb); replace HO373 := Aside0.mk (Kd.R_below (Rz HO373) hb); have BK374 := Aside0.mk (hbox); have GW374 := Aside0.mk ((by rw [hg]; exact (below_size (by exact Lz1 HB GE361)) : w.heap.size ≤ gb374)); have GE374 := Aside0.mk ((by rw [hg]; exact (below_size (by exact Lz1 HB GE361)) : w.heap.size ≤ gb374)); replace HB := Aside0.mk (below_step (by exact Lz1 HB GE361) hb); have NB361_374 := Aside0.mk ((by rw [hg]; exact Nat.ne_of_lt (blk_lt (g := gb361) (o := .cells #[.int .i64 a0_0, .slice A0_1 l0_1.length c0_1] 24 (0, 0)) (Bz BK361)) : gb361 ≠ gb374)); have NB374_361 := Aside0.mk ((by rw [hg]; exact Nat.ne_of_gt (blk_lt (g := gb361) (o := .cells #[.int .i64 a0_0, .slice A0_1 l0_1.length c0_1] 24 (0, 0)) (Bz BK361)) : gb374 ≠ gb361)); replace BK361 := Aside0.mk (blk_below (g := gb361) (o := .cells #[.int .i64 a0_0, .slice A0_1 l0_1.length c0_1] 24 (0, 0)) (Bz BK361) hb); clear hb hbox hg; have hnb22 := NB374_361.out; have hnc22 := NB361_374.out; have hcz23_0 : w21.cell? ⟨gb374, 0, none⟩ = some (.int .i64 0) := (blk_cell BK374.out 0).trans rfl; have hcz23_1 : w21.cell? ⟨gb374, 1, none⟩ = some (.slice none 0 0) := (blk_cell BK374.out 1).trans rfl; have hfz23_0 := blk_frozen BK374.out 0; have hfz23_1 := blk_frozen BK374.out 1; obtain ⟨Ao24, co24, eo24⟩ := Kd.R_slice HO373.out; subst eo24) | ((with_reducible refine gate_callee (f := 28) rfl ?_); refine goesM_ (some 26) rfl rfl Try.func28 (by kernel_rfl) rfl #[.agg #[.int .i64 t370, .slice Ao24 t371.length co24], .int .i64 a1] rfl ?_; (with_reducible refine (impl_ReducedLaplacian.calls kj3 t370 _ _ t371 a1 t375 _ ?side1 ?side2 A12.out).mono ?_); (case side1 => refine (Kd.R_reads' (e := 57) (base := w.heap.size) (ok := fun k_ => (True ∧ some k_ ≠ (.slice Ao17 t364.length co17 : Value).ownBlock)) (n := t371.length) (c := co24) ?_).2.2; exact (by (with_reducible repeat (first | apply Kd.R_alloc | apply Kd.R_drewN | apply Kd.R_drew)); exact (Kd.R_mono (Kd.R_far (p := ⟨gb374, 1, none⟩) (Kd.R_far (p := ⟨gb374, 0, none⟩) (Kd.R_types HO373.out BK374.out (by decide)) (fun _ hk => hk.2) (.int .i64 t370)) (fun _ hk => hk.2) (.slice Ao24 t371.length co24)) (fun _ h_ => h_.1)))); (case side2 => exact (Kd.R_reads' HO373.out).2.1); rintro e w25 ⟨v376, rfl, ho0, hb⟩; refine ⟨_, rfl, ?_⟩; replace HO366 := Aside0.mk (Kd.R_below (by (with_reducible repeat (first | apply Kd.R_alloc | apply Kd.R_drewN | apply Kd.R_drew)); exact (Kd.R_mono (Kd.R_far (p := ⟨gb374, 1, none⟩) (Kd.R_far (p := ⟨gb374, 0, none⟩) (Kd.R_types HO366.out BK374.out (by decide)) (fun _ hk => hk.2) (.int .i64 t370)) (fun _ hk => hk.2) (.slice Ao24 t371.length co24)) (fun _ h_ => h_.1))) hb); replace HO373 := Aside0.mk (Kd.R_below (by (with_reducible repeat (first | apply Kd.R_alloc | apply Kd.R_drewN | apply Kd.R_drew)); exact (Kd.R_mono (Kd.R_far (p := ⟨gb374, 1, none⟩) (Kd.R_far (p := ⟨gb374, 0, none⟩) (Kd.R_types HO373.out BK374.out (by decide)) (fun _ hk => hk.2) (.int .i64 t370)) (fun _ hk => hk.2) (.slice Ao24 t371.length co24)) (fun _ h_ => h_.1))) hb); obtain ⟨NN_, hp1_, hp2_⟩ := laws_FnExactReducedLaplacian.ages ho0 (by (with_reducible repeat (first | apply Kd.S_alloc | apply Kd.S_drewN | apply Kd.S_drew)); exact (Kd.S_mono (Kd.S_far (p := ⟨gb374, 1, none⟩) (Kd.S_far (p := ⟨gb374, 0, none⟩) (Kd.S_types HO369.out BK374.out (by decide)) (fun _ hk => hk.2) (.int .i64 t370)) (fun _ hk => hk.2) (.slice Ao24 t371.length co24)) (fun _ h_ => h_.1))) hb; have HO377 := Aside0.mk (Kd.S_lower hp1_ (below_size (by exact Lz2 HB GE361 GE374))); replace HO369 := Aside0.mk hp2_; clear hp1_ hp2_; replace BK361 := Aside0.mk (blk_below (g := gb361) (o := .cells #[.int .i64 a0_0, .slice A0_1 l0_1.length c0_1] 24 (0, 0)) (by (with_reducible repeat (first | refine blk_drewN ?_ _ | refine blk_drew ?_ | refine blk_alloc ?_ _)); refine blk_far ?_ NB361_374.out _; (with_reducible repeat (first | refine blk_drewN ?_ _ | refine blk_drew ?_ | refine blk_alloc ?_ _)); refine blk_far ?_ NB361_374.out _; exact Bz BK361) hb); replace BK374 := Aside0.mk (blk_below (g := gb374) (o := .cells #[.int .i64 t370, .slice Ao24 t371.length co24] 30 (0, 0)) (by (with_reducible repeat (first | refine blk_drewN ?_ _ | refine blk_drew ?_ | refine blk_alloc ?_ _)); refine blk_put (cs := #[.int .i64 t370, .slice none 0 0]) ?_ 1 _ rfl; (with_reducible repeat (first | refine blk_drewN ?_ _ | refine blk_drew ?_ | refine blk_alloc ?_ _)); refine blk_put (cs := #[.int .i64 0, .slice none 0 0]) ?_ 0 _ rfl; exact Bz BK374) hb); replace HB := Aside0.mk (below_step (by exact Lz2 HB GE361 GE374) hb); (try clear hb); (try clear ho0); obtain ⟨Ao26, co26, eo26⟩ := Kd.S_slice HO377.out; subst eo26; obtain ⟨Ao27, co27, eo27⟩ := Kd.S_slice HO369.out; subst eo27) | ((with_reducible refine gate_callee (f := 15) rfl ?_); refine goesM_ (some 29) rfl rfl Try.func15 (by kernel_rfl) rfl #[.slice Ao26 t375.length co26, .slice Ao27 t367.length co27] rfl ?_; (with_reducible refine (laws_eqIntSS.calls kj3 _ _ t375 _ _ t367 t378 _ ?side1 ?side2 ?side3 ?side4 A13.out).mono ?_); (case side1 => exact Cz ((Kd.S_reads' HO377.out).2.2)); (case side2 => exact (Kd.S_reads' HO377.out).2.1); (case side3 => exact Cz ((Kd.S_reads' HO369.out).2.2)); (case side4 => exact (Kd.S_reads' HO369.out).2.1); rintro e w' ⟨rfl, ⟨nd, rfl⟩⟩; refine ⟨_, rfl, ?_⟩))
   (try simp only [Act.put, List.setIfInBounds_toArray, List.set_cons_zero, List.set_cons_succ])
   go_cut [] (fun wc => ∃ (kq : Nat), Aside0 (laws_FnExactReducedLaplacian.j1 kq a1 t367 t375 a0_0 l0_1 t370 t371 = some r) ∧ Aside0 (kq ≤ kj3) ∧ Aside0 (Kd.S (Kd.slice 3 (Kd.int .i64)) 37 wc w.heap.size (fun k_ => (some k_ ≠ ((.slice Ao26 t375.length co26) : Value).ownBlock ∧ k_ < NN_)) (.slice Ao27 t367.length co27) t367) ∧ Aside0 (Kd.S (Kd.slice 3 (Kd.int .i64)) 37 wc w.heap.size (fun k_ => (some k_ ≠ ((.slice Ao27 t367.length co27) : Value).ownBlock ∧ NN_ ≤ k_)) (.slice Ao26 t375.length co26) t375) ∧ Aside0 (Kd.R k57 57 wc w.heap.size (fun _ => True) (.slice Ao24 t371.length co24) t371) ∧ Aside0 (wc.heap[gb361]? = some (.cells #[.int .i64 a0_0, (.slice A0_1 l0_1.length c0_1)] 24 (0, 0))) ∧ Aside0 (wc.heap[gb374]? = some (.cells #[.int .i64 t370, (.slice Ao24 t371.length co24)] 30 (0, 0))) ∧ Aside0 (Below w.heap.size w wc))
   case first =>
    have H := HC14.out
    clear HC14
    by_cases c28 : t378 = true
    ·subst c28
     have H1 : (laws_FnExactReducedLaplacian.j1 kj3 a1 t367 t375 a0_0 l0_1 t370 t371) = some r := by rw [if_pos rfl] at H; exact H
     clear H
     have H := H1
     clear H1
     have H' := Aside0.mk H
     clear H
     go_wp2
     go_meet
     case rel => exact ⟨_, H', ⟨by have := HJ3.out; first | omega | exact Nat.le_refl _⟩, ⟨by (with_reducible repeat (first | apply Kd.S_alloc | apply Kd.S_drewN | apply Kd.S_drew)); exact Kd.S_mono HO369.out (fun _ hk => hk.2)⟩, ⟨by (with_reducible repeat (first | apply Kd.S_alloc | apply Kd.S_drewN | apply Kd.S_drew)); exact Kd.S_mono HO377.out (fun _ hk => hk.2)⟩, ⟨by (with_reducible repeat (first | apply Kd.R_alloc | apply Kd.R_drewN | apply Kd.R_drew)); exact Kd.R_mono HO373.out (fun _ hk => trivial)⟩, ⟨by exact Bz BK361⟩, ⟨by exact Bz BK374⟩, ⟨by exact Lz2 HB GE361 GE374⟩⟩
    replace c28 := Bool.eq_false_iff.mpr c28
    subst c28
    have H1 : (some false) = some r := by rw [if_neg (show ¬ (false = true) by decide)] at H; exact H
    clear H
    have H := H1
    clear H1
    exact absurd (Option.some.inj H) (by rw [HR_.out]; decide)
   case rest =>
    clear HC14
    try clear c8
    try clear c8b0
    try clear c28
    obtain ⟨kq, HA, HJ13, HO_6, HO_8, HO_375001, BK361, BK374, HB⟩ := hcut
    cases kq with
    | zero => exact absurd HA.out (by simp [laws_FnExactReducedLaplacian.j1])
    | succ kj13 =>
     have H := HA.out
     clear HA
     simp only [laws_FnExactReducedLaplacian.j1] at H
     replace H := Option.bind_eq_some_iff.mp H
     obtain ⟨⟨t379, t380⟩, A290, H⟩ := H
     replace H : ((laws_eqGraph.f kj13 t370 t371 t379 t380).bind fun t383 => (if t383 = true then (laws_FnExactReducedLaplacian.j2 kj13 a1 t367 t375 a0_0 l0_1 t370 t371) else (some false))) = some r := H
     have A29 := Aside0.mk A290
     clear A290
     replace H := Option.bind_eq_some_iff.mp H
     obtain ⟨t383, A300, H⟩ := H
     replace H : (if t383 = true then (laws_FnExactReducedLaplacian.j2 kj13 a1 t367 t375 a0_0 l0_1 t370 t371) else (some false)) = some r := H
     have A30 := Aside0.mk A300
     clear A300
     have HC31 := Aside0.mk H
     clear H
     try go_wp2
     replace HO_6 := Aside0.mk (Kd.S_drew HO_6.out)
     replace HO_8 := Aside0.mk (Kd.S_drew HO_8.out)
     replace HO_375001 := Aside0.mk (Kd.R_drew HO_375001.out)
     replace BK361 := Aside0.mk (blk_drew BK361.out)
     replace BK374 := Aside0.mk (blk_drew BK374.out)
     replace HB := Aside0.mk (below_drew1 HB.out)
     refine start_ (n := 5) (S := fun w' => w'.cell? ⟨gb374, 0, none⟩ = some (.int .i64 t370) ∧ w'.cell? ⟨gb374, 1, none⟩ = some (.slice Ao24 t371.length co24) ∧ w'.cell? ⟨gb361, 0, none⟩ = some (.int .i64 a0_0) ∧ w'.cell? ⟨gb361, 1, none⟩ = some (.slice A0_1 l0_1.length c0_1)) (ds := []) #[false, false, false, false, false] (by kernel_rfl) rfl rfl ⟨(blk_cell BK374.out 0).trans rfl, (blk_cell BK374.out 1).trans rfl, (blk_cell BK361.out 0).trans rfl, (blk_cell BK361.out 1).trans rfl⟩ (fun hHeld => ?_)
     generalize wc.drew = w32 at HO_6 HO_8 HO_375001 BK361 BK374 HB hHeld ⊢
     refine take_ (i := 0) (N := some 31) (v := ?_) (a' := ?_) #[true, false, false, false, false] rfl rfl (by kernel_rfl) (fun _ _ _ h => h) (Or.inl ⟨by rfl, ?_⟩) hHeld ?_ ?_
     rotate_left
     ·rintro w' ⟨s0, s1, s2, s3⟩
      go_simp
      with_reducible rfl
     rotate_left
     ·simp only [Act.put, List.setIfInBounds_toArray, List.set_cons_zero, List.set_cons_succ, i64_w, i32_w]
      rfl
     refine take_ (i := 1) (N := some 32) (v := ?_) (a' := ?_) #[true, true, false, false, false] rfl rfl (by kernel_rfl) (fun _ _ _ h => h) (Or.inl ⟨by rfl, ?_⟩) hHeld ?_ ?_
     rotate_left
     ·rintro w' ⟨s0, s1, s2, s3⟩
      go_simp
      with_reducible rfl
     rotate_left
     ·simp only [Act.put, List.setIfInBounds_toArray, List.set_cons_zero, List.set_cons_succ, i64_w, i32_w]
      rfl
     refine one_ (i := 2) (N := some 33) #[true, true, true, false, false] rfl rfl (by kernel_rfl) (by decide) (fun K hK => ?_)
     refine goes_ Try.func13 (by kernel_rfl) rfl #[.agg #[.int .i64 a0_0, .slice A0_1 l0_1.length c0_1]] (by rfl) rfl rfl (by (try simp only [List.map_toArray, List.map_cons, List.map_nil]); first | done | rfl | (simp only [List.length_drop, List.length_take]; rfl)) ?_
     with_reducible refine (laws_toGraph.calls kj13 a0_0 _ _ l0_1 t379 t380 _ ?side1 ?side2 A29.out).mono ?_
     (case side1 => exact Cz ((Kd.C_below HR0_1.out HB.out)))
     (case side2 => exact HC0_1.out)
     rintro e w33 ⟨v381, rfl, ho0, hb⟩
     refine ⟨_, rfl, ?_⟩
     replace HO_6 := Aside0.mk (Kd.S_below (by (with_reducible repeat (first | apply Kd.S_alloc | apply Kd.S_drewN | apply Kd.S_drew)); exact HO_6.out) hb)
     replace HO_8 := Aside0.mk (Kd.S_below (by (with_reducible repeat (first | apply Kd.S_alloc | apply Kd.S_drewN | apply Kd.S_drew)); exact HO_8.out) hb)
     have HO382 := Aside0.mk (Kd.R_lower (Kd.R_new' ho0 (Kd.R_lt (Rz HO_375001))) (below_size (by exact Lz2 HB GE361 GE374)))
     replace HO_375001 := Aside0.mk (Kd.R_elder' (Rz HO_375001) (Kd.R_base ho0) hb)
     replace BK361 := Aside0.mk (blk_below (g := gb361) (o := .cells #[.int .i64 a0_0, .slice A0_1 l0_1.length c0_1] 24 (0, 0)) (Bz BK361) hb)
     replace BK374 := Aside0.mk (blk_below (g := gb374) (o := .cells #[.int .i64 t370, .slice Ao24 t371.length co24] 30 (0, 0)) (Bz BK374) hb)
     replace HB := Aside0.mk (below_step (by exact Lz2 HB GE361 GE374) hb)
     (try clear hb)
     (try clear hb2)
     (try clear hk)
     (try clear hi)
     (try clear ho0)
     obtain ⟨Ao34, co34, eo34⟩ := Kd.R_slice HO382.out
     (first | subst eo34 | (injection eo34 with f1_ f2_ f3_; have f4_ := f1_.symm; have f5_ := f3_.symm; clear f1_ f2_ f3_; subst f4_; subst f5_))
     refine hK.out _ _ ⟨(blk_cell BK374.out 0).trans rfl, (blk_cell BK374.out 1).trans rfl, (blk_cell BK361.out 0).trans rfl, (blk_cell BK361.out 1).trans rfl⟩ (fun hHeld => ?_)
     clear hK K
     refine norm_ (a' := ?_) ?_ ?_
     rotate_left
     ·show Act.put _ (some 33) _ = _
      simp only [Act.put, List.setIfInBounds_toArray, List.set_cons_zero, List.set_cons_succ, i64_w, i32_w]
      rfl
     refine one_ (i := 3) (N := some 34) #[true, true, true, true, false] rfl rfl (by kernel_rfl) (by decide) (fun K hK => ?_)
     refine goes_ Try.func16 (by kernel_rfl) rfl #[.agg #[.int .i64 t370, .slice Ao24 t371.length co24], .agg #[.int .i64 t379, .slice Ao34 t380.length co34]] (by rfl) rfl rfl (by (try simp only [List.map_toArray, List.map_cons, List.map_nil]); first | done | rfl | (simp only [List.length_drop, List.length_take]; rfl)) ?_
     with_reducible refine (laws_eqGraph.calls kj13 t370 _ _ t371 t379 _ _ t380 t383 _ ?side1 ?side2 ?side3 ?side4 A30.out).mono ?_
     (case side1 => exact Cz ((Kd.R_reads' HO_375001.out).2.2))
     (case side2 => exact (Kd.R_reads' HO_375001.out).2.1)
     (case side3 => exact Cz ((Kd.R_reads' HO382.out).2.2))
     (case side4 => exact (Kd.R_reads' HO382.out).2.1)
     rintro e w35 ⟨rfl, hb⟩
     refine ⟨_, rfl, ?_⟩
     replace HO_6 := Aside0.mk (Kd.S_below (by (with_reducible repeat (first | apply Kd.S_alloc | apply Kd.S_drewN | apply Kd.S_drew)); exact HO_6.out) hb)
     replace HO_8 := Aside0.mk (Kd.S_below (by (with_reducible repeat (first | apply Kd.S_alloc | apply Kd.S_drewN | apply Kd.S_drew)); exact HO_8.out) hb)
     replace HO_375001 := Aside0.mk (Kd.R_below (Rz HO_375001) hb)
     replace HO382 := Aside0.mk (Kd.R_below (Rz HO382) hb)
     replace BK361 := Aside0.mk (blk_below (g := gb361) (o := .cells #[.int .i64 a0_0, .slice A0_1 l0_1.length c0_1] 24 (0, 0)) (Bz BK361) hb)
     replace BK374 := Aside0.mk (blk_below (g := gb374) (o := .cells #[.int .i64 t370, .slice Ao24 t371.length co24] 30 (0, 0)) (Bz BK374) hb)
     replace HB := Aside0.mk (below_step (by exact Lz2 HB GE361 GE374) hb)
     (try clear hb)
     (try clear hb2)
     (try clear hk)
     (try clear hi)
     refine hK.out _ _ ⟨(blk_cell BK374.out 0).trans rfl, (blk_cell BK374.out 1).trans rfl, (blk_cell BK361.out 0).trans rfl, (blk_cell BK361.out 1).trans rfl⟩ (fun hHeld => ?_)
     clear hK K
     refine norm_ (a' := ?_) ?_ ?_
     rotate_left
     ·show Act.put _ (some 34) _ = _
      simp only [Act.put, List.setIfInBounds_toArray, List.set_cons_zero, List.set_cons_succ, i64_w, i32_w]
      rfl
     refine pure_ (i := 4) (N := some 35) (v := ?_) (a' := ?_) #[true, true, true, true, true] rfl rfl (by kernel_rfl) (fun _ _ _ h => h) (Or.inl ⟨by rfl, ?_⟩) ?_ ?_
     rotate_left
     ·intro w'
      go_simp
      with_reducible rfl
     rotate_left
     ·simp only [Act.put, List.setIfInBounds_toArray, List.set_cons_zero, List.set_cons_succ, i64_w, i32_w]
      rfl
     refine done_ (by kernel_rfl) ?_
     go_upto_if 35 with (fail)
     go_cut [] (fun wc => ∃ (kq : Nat), Aside0 (laws_FnExactReducedLaplacian.j2 kq a1 t367 t375 a0_0 l0_1 t370 t371 = some r) ∧ Aside0 (kq ≤ kj13) ∧ Aside0 (Kd.S (Kd.slice 3 (Kd.int .i64)) 37 wc w.heap.size (fun k_ => (some k_ ≠ ((.slice Ao26 t375.length co26) : Value).ownBlock ∧ k_ < NN_)) (.slice Ao27 t367.length co27) t367) ∧ Aside0 (Kd.S (Kd.slice 3 (Kd.int .i64)) 37 wc w.heap.size (fun k_ => (some k_ ≠ ((.slice Ao27 t367.length co27) : Value).ownBlock ∧ NN_ ≤ k_)) (.slice Ao26 t375.length co26) t375) ∧ Aside0 (Kd.R k57 57 wc w.heap.size (fun _ => True) (.slice Ao24 t371.length co24) t371) ∧ Aside0 (wc.heap[gb361]? = some (.cells #[.int .i64 a0_0, (.slice A0_1 l0_1.length c0_1)] 24 (0, 0))) ∧ Aside0 (wc.heap[gb374]? = some (.cells #[.int .i64 t370, (.slice Ao24 t371.length co24)] 30 (0, 0))) ∧ Aside0 (Below w.heap.size w wc))
     case first =>
      have H := HC31.out
      clear HC31
      by_cases c36 : t383 = true
      ·subst c36
       have H1 : (laws_FnExactReducedLaplacian.j2 kj13 a1 t367 t375 a0_0 l0_1 t370 t371) = some r := by rw [if_pos rfl] at H; exact H
       clear H
       have H := H1
       clear H1
       have H' := Aside0.mk H
       clear H
       go_wp2
       go_meet
       case rel => exact ⟨_, H', ⟨by have := HJ3.out; have := HJ13.out; first | omega | exact Nat.le_refl _⟩, ⟨by (with_reducible repeat (first | apply Kd.S_alloc | apply Kd.S_drewN | apply Kd.S_drew)); exact HO_6.out⟩, ⟨by (with_reducible repeat (first | apply Kd.S_alloc | apply Kd.S_drewN | apply Kd.S_drew)); exact HO_8.out⟩, ⟨by (with_reducible repeat (first | apply Kd.R_alloc | apply Kd.R_drewN | apply Kd.R_drew)); exact Kd.R_mono HO_375001.out (fun _ hk => trivial)⟩, ⟨by exact Bz BK361⟩, ⟨by exact Bz BK374⟩, ⟨by exact Lz2 HB GE361 GE374⟩⟩
      replace c36 := Bool.eq_false_iff.mpr c36
      subst c36
      have H1 : (some false) = some r := by rw [if_neg (show ¬ (false = true) by decide)] at H; exact H
      clear H
      have H := H1
      clear H1
      exact absurd (Option.some.inj H) (by rw [HR_.out]; decide)
     case rest =>
      clear HC31
      try clear c8
      try clear c8b0
      try clear c28
      try clear c36
      obtain ⟨kq, HA, HJ30, HO_6, HO_8, HO_375001, BK361, BK374, HB⟩ := hcut
      cases kq with
      | zero => exact absurd HA.out (by simp [laws_FnExactReducedLaplacian.j2])
      | succ kj30 =>
       have H := HA.out
       clear HA
       simp only [laws_FnExactReducedLaplacian.j2] at H
       replace H := Option.bind_eq_some_iff.mp H
       obtain ⟨⟨t384, t385⟩, A370, H⟩ := H
       replace H : (if t384 < 0 then (laws_FnExactReducedLaplacian.j3 kj30 a1 t367 t375 true a0_0 l0_1) else ((laws_eqIntSS.f kj30 t375 t367).bind fun t386 => (laws_FnExactReducedLaplacian.j3 kj30 a1 t367 t375 (!t386) a0_0 l0_1))) = some r := H
       have A37 := Aside0.mk A370
       clear A370
       have HC38 := Aside0.mk H
       clear H
       have hnb39 := NB374_361.out
       have hnc39 := NB361_374.out
       have hcz40_0 : wc.cell? ⟨gb374, 0, none⟩ = some (.int .i64 t370) := (blk_cell BK374.out 0).trans rfl
       have hcz40_1 : wc.cell? ⟨gb374, 1, none⟩ = some (.slice Ao24 t371.length co24) := (blk_cell BK374.out 1).trans rfl
       have hfz40_0 := blk_frozen BK374.out 0
       have hfz40_1 := blk_frozen BK374.out 1
       go_upto_region 14 with (first | ((with_reducible refine gate_callee (f := 17) rfl ?_); refine goesM_ (some 38) rfl rfl Try.func17 (by kernel_rfl) rfl #[.agg #[.int .i64 t370, .slice Ao24 t371.length co24], .int .i64 1] rfl ?_; (with_reducible refine (laws_markGraph.calls kj30 t370 (fun k_ => some k_ = (.slice Ao24 t371.length co24 : Value).ownBlock) (.slice Ao24 t371.length co24) t371 1 t384 t385 w _ ?side1 ?side2 A37.out).mono ?_); (case side1 => exact Lz2 HB GE361 GE374); (case side2 => exact Kd.R_tight rfl HO_375001.out); rintro e w41 ⟨rfl, hy0, hb, hkp⟩; refine ⟨_, rfl, ?_⟩; replace HO_6 := Aside0.mk (Kd.S_mono (ok' := fun k_ => (some k_ ≠ (.slice Ao26 t375.length co26 : Value).ownBlock ∧ k_ < NN_)) (Kd.S_keptB ((Kd.S_apart' HO_6.out (Kd.R_typed HO_375001.out) (by decide))) hkp (fun k_ hk_ hs_ => (hk_.2) hs_)) (fun k_ hk_ => hk_.1.1)); replace HO_8 := Aside0.mk (Kd.S_mono (ok' := fun k_ => (some k_ ≠ (.slice Ao27 t367.length co27 : Value).ownBlock ∧ NN_ ≤ k_)) (Kd.S_keptB ((Kd.S_apart' HO_8.out (Kd.R_typed HO_375001.out) (by decide))) hkp (fun k_ hk_ hs_ => (hk_.2) hs_)) (fun k_ hk_ => hk_.1.1)); replace BK361 := Aside0.mk (blk_kept (Bz BK361) hkp (fun hs_ => (fun e_ => (Kd.R_ne HO_375001.out BK361.out (by decide)) e_) hs_)); replace BK374 := Aside0.mk (blk_kept (Bz BK374) hkp (fun hs_ => (fun e_ => (Kd.R_ne HO_375001.out BK374.out (by decide)) e_) hs_)); replace HO_375001 := Aside0.mk (Kd.R_reok rfl hy0 (fun k_ e_ => HO_375001.out.1 k_ e_)); replace HB := Aside0.mk (hb); (try clear hb); (try clear hkp); (try clear hy0)))
       (try simp only [Act.put, List.setIfInBounds_toArray, List.set_cons_zero, List.set_cons_succ])
       go_cut [46] (fun v46 wc => ∃ (kq : Nat) (x46_37 : Bool), v46 = .bool x46_37 ∧ Aside0 (laws_FnExactReducedLaplacian.j3 kq a1 t367 t375 x46_37 a0_0 l0_1 = some r) ∧ Aside0 (kq ≤ kj30) ∧ Aside0 (Kd.S (Kd.slice 3 (Kd.int .i64)) 37 wc w.heap.size (fun k_ => (some k_ ≠ ((.slice Ao26 t375.length co26) : Value).ownBlock ∧ k_ < NN_)) (.slice Ao27 t367.length co27) t367) ∧ Aside0 (Kd.S (Kd.slice 3 (Kd.int .i64)) 37 wc w.heap.size (fun k_ => (some k_ ≠ ((.slice Ao27 t367.length co27) : Value).ownBlock ∧ NN_ ≤ k_)) (.slice Ao26 t375.length co26) t375) ∧ Aside0 (Kd.R k57 57 wc w.heap.size (fun _ => True) (.slice Ao24 t371.length co24) t385) ∧ Aside0 (wc.heap[gb361]? = some (.cells #[.int .i64 a0_0, (.slice A0_1 l0_1.length c0_1)] 24 (0, 0))) ∧ Aside0 (wc.heap[gb374]? = some (.cells #[.int .i64 t370, (.slice Ao24 t371.length co24)] 30 (0, 0))) ∧ Aside0 (Below w.heap.size w wc))
       case first =>
        have H := HC38.out
        clear HC38
        by_cases c42 : t384 < 0
        ·rw [if_pos c42] at H
         have c42b0 : decide (t384 < 0) = true := decide_eq_true c42
         clear c42
         (first | rw [c42b0] | (simp only [i64_w, i32_w]; rw [c42b0]) | skip)
         have H' := Aside0.mk H
         clear H
         go_wp2
         go_meet
         case rel => exact ⟨_, (true), eqA, H', ⟨by have := HJ3.out; have := HJ13.out; have := HJ30.out; first | omega | exact Nat.le_refl _⟩, ⟨by (with_reducible repeat (first | apply Kd.S_alloc | apply Kd.S_drewN | apply Kd.S_drew)); exact HO_6.out⟩, ⟨by (with_reducible repeat (first | apply Kd.S_alloc | apply Kd.S_drewN | apply Kd.S_drew)); exact HO_8.out⟩, ⟨by exact Rz HO_375001⟩, ⟨by exact Bz BK361⟩, ⟨by exact Bz BK374⟩, ⟨by exact Lz2 HB GE361 GE374⟩⟩
        rw [if_neg c42] at H
        have c42b0 : decide (t384 < 0) = false := decide_eq_false c42
        clear c42
        (first | rw [c42b0] | (simp only [i64_w, i32_w]; rw [c42b0]) | skip)
        replace H := Option.bind_eq_some_iff.mp H
        obtain ⟨t386, A430, H⟩ := H
        replace H : (laws_FnExactReducedLaplacian.j3 kj30 a1 t367 t375 (!t386) a0_0 l0_1) = some r := H
        have A43 := Aside0.mk A430
        clear A430
        have H' := Aside0.mk H
        clear H
        go_wp2_with (first | (go_at_call 15; (with_reducible refine (laws_eqIntSS.calls kj30 _ _ t375 _ _ t367 t386 _ ?side1 ?side2 ?side3 ?side4 A43.out).mono ?_); (case side1 => exact Cz ((Kd.S_reads' HO_8.out).2.2)); (case side2 => exact (Kd.S_reads' HO_8.out).2.1); (case side3 => exact Cz ((Kd.S_reads' HO_6.out).2.2)); (case side4 => exact (Kd.S_reads' HO_6.out).2.1); rintro e w' ⟨rfl, ⟨nd, rfl⟩⟩))
        go_meet
        case rel => exact ⟨_, (!t386), eqA, H', ⟨by have := HJ3.out; have := HJ13.out; have := HJ30.out; first | omega | exact Nat.le_refl _⟩, ⟨by (with_reducible repeat (first | apply Kd.S_alloc | apply Kd.S_drewN | apply Kd.S_drew)); exact HO_6.out⟩, ⟨by (with_reducible repeat (first | apply Kd.S_alloc | apply Kd.S_drewN | apply Kd.S_drew)); exact HO_8.out⟩, ⟨by exact Rz HO_375001⟩, ⟨by exact Bz BK361⟩, ⟨by exact Bz BK374⟩, ⟨by exact Lz2 HB GE361 GE374⟩⟩
       case rest =>
        clear HC38
        try clear c8
        try clear c8b0
        try clear c28
        try clear c36
        try clear c42
        try clear c42b0
        obtain ⟨kq, x46_37, rfl, HA, HJ37, HO_6, HO_8, HO_375001, BK361, BK374, HB⟩ := hcut
        have hl375001_37 := (Kd.R_reads' HO_375001.out).1
        rw [hl375001_37] at HO_375001
        (try simp only [hl375001_37])
        (try simp only [hl375001_37] at BK361)
        (try simp only [hl375001_37] at BK374)
        (try simp only [hl375001_37] at HO_6)
        (try simp only [hl375001_37] at HO_8)
        cases kq with
        | zero => exact absurd HA.out (by simp [laws_FnExactReducedLaplacian.j3])
        | succ kj37 =>
         have H := HA.out
         clear HA
         simp only [laws_FnExactReducedLaplacian.j3] at H
         have HC44 := Aside0.mk H
         clear H
         go_upto_if 46 with (fail)
         go_cut [] (fun wc => ∃ (kq : Nat), Aside0 (laws_FnExactReducedLaplacian.j4 kq a1 t367 t375 a0_0 l0_1 = some r) ∧ Aside0 (kq ≤ kj37) ∧ Aside0 (Kd.S (Kd.slice 3 (Kd.int .i64)) 37 wc w.heap.size (fun k_ => (some k_ ≠ ((.slice Ao26 t375.length co26) : Value).ownBlock ∧ k_ < NN_)) (.slice Ao27 t367.length co27) t367) ∧ Aside0 (Kd.S (Kd.slice 3 (Kd.int .i64)) 37 wc w.heap.size (fun k_ => (some k_ ≠ ((.slice Ao27 t367.length co27) : Value).ownBlock ∧ NN_ ≤ k_)) (.slice Ao26 t375.length co26) t375) ∧ Aside0 (Kd.R k57 57 wc w.heap.size (fun _ => True) (.slice Ao24 t385.length co24) t385) ∧ Aside0 (wc.heap[gb361]? = some (.cells #[.int .i64 a0_0, (.slice A0_1 l0_1.length c0_1)] 24 (0, 0))) ∧ Aside0 (wc.heap[gb374]? = some (.cells #[.int .i64 t370, (.slice Ao24 t385.length co24)] 30 (0, 0))) ∧ Aside0 (Below w.heap.size w wc))
         case first =>
          have H := HC44.out
          clear HC44
          by_cases c45 : x46_37 = true
          ·subst c45
           have H1 : (some false) = some r := by rw [if_pos rfl] at H; exact H
           clear H
           have H := H1
           clear H1
           exact absurd (Option.some.inj H) (by rw [HR_.out]; decide)
          replace c45 := Bool.eq_false_iff.mpr c45
          subst c45
          have H1 : (laws_FnExactReducedLaplacian.j4 kj37 a1 t367 t375 a0_0 l0_1) = some r := by rw [if_neg (show ¬ (false = true) by decide)] at H; exact H
          clear H
          have H := H1
          clear H1
          have H' := Aside0.mk H
          clear H
          go_wp2
          go_meet
          case rel => exact ⟨_, H', ⟨by have := HJ3.out; have := HJ13.out; have := HJ30.out; have := HJ37.out; first | omega | exact Nat.le_refl _⟩, ⟨by (try simp only [hl375001_37]); (with_reducible repeat (first | apply Kd.S_alloc | apply Kd.S_drewN | apply Kd.S_drew)); exact HO_6.out⟩, ⟨by (try simp only [hl375001_37]); (with_reducible repeat (first | apply Kd.S_alloc | apply Kd.S_drewN | apply Kd.S_drew)); exact HO_8.out⟩, ⟨by (try simp only [hl375001_37]); exact Rz HO_375001⟩, ⟨by (try simp only [hl375001_37]); exact Bz BK361⟩, ⟨by (try simp only [hl375001_37]); exact Bz BK374⟩, ⟨by exact Lz2 HB GE361 GE374⟩⟩
         case rest =>
          clear HC44
          try clear c8
          try clear c8b0
          try clear c28
          try clear c36
          try clear c42
          try clear c42b0
          try clear c45
          obtain ⟨kq, HA, HJ43, HO_6, HO_8, HO_375001, BK361, BK374, HB⟩ := hcut
          cases kq with
          | zero => exact absurd HA.out (by simp [laws_FnExactReducedLaplacian.j4])
          | succ kj43 =>
           have H := HA.out
           clear HA
           simp only [laws_FnExactReducedLaplacian.j4] at H
           replace H := Option.bind_eq_some_iff.mp H
           obtain ⟨⟨t387, t388⟩, A460, H⟩ := H
           replace H : ((laws_heldIntSS.f kj43 t388 1).bind fun t389 => (if t389 < 0 then (some false) else (laws_FnExactReducedLaplacian.j5 kj43 a1 t367 t388 t387 t389 a0_0 l0_1))) = some r := H
           have A46 := Aside0.mk A460
           clear A460
           replace H := Option.bind_eq_some_iff.mp H
           obtain ⟨t389, A470, H⟩ := H
           replace H : (if t389 < 0 then (some false) else (laws_FnExactReducedLaplacian.j5 kj43 a1 t367 t388 t387 t389 a0_0 l0_1)) = some r := H
           have A47 := Aside0.mk A470
           clear A470
           have HC48 := Aside0.mk H
           clear H
           go_upto_if 54 with (first | ((with_reducible refine gate_callee (f := 18) rfl ?_); refine goesM_ (some 49) rfl rfl Try.func18 (by kernel_rfl) rfl #[.slice Ao26 t375.length co26, .int .i64 1] rfl ?_; (with_reducible refine (laws_markIntSS.calls kj43 (fun k_ => (((((((some k_ ≠ (.slice Ao27 t367.length co27 : Value).ownBlock ∧ NN_ ≤ k_)) ∧ k_ ≠ gb361)) ∧ k_ ≠ gb374)) ∧ some k_ ≠ (.slice Ao24 t385.length co24 : Value).ownBlock)) (.slice Ao26 t375.length co26) t375 1 t387 t388 w _ ?side1 ?side2 A46.out).mono ?_); (case side1 => exact Lz2 HB GE361 GE374); (case side2 => exact (Kd.S_apart' (Kd.S_types (Kd.S_types HO_8.out BK361.out (by decide)) BK374.out (by decide)) (Kd.R_typed HO_375001.out) (by decide))); rintro e w49 ⟨rfl, hy0, hb, hkp⟩; refine ⟨_, rfl, ?_⟩; replace HO_6 := Aside0.mk (Kd.S_mono (Kd.S_keptB HO_6.out hkp (fun k_ hk_ hs_ => absurd hk_.2 (Nat.not_lt.mpr (by first | exact hs_.2 | exact hs_.1.2 | exact hs_.1.1.2 | exact hs_.1.1.1.2 | exact hs_.1.1.1.1.2 | exact hs_.1.1.1.1.1.2)))) (fun k_ hk_ => hk_.1.1)); replace HO_8 := Aside0.mk (Kd.S_mono (ok' := fun k_ => some k_ ≠ (.slice Ao27 t367.length co27 : Value).ownBlock) hy0 (fun k_ hk_ => by first | exact trivial | exact hk_ | exact hk_.1 | exact hk_.1.1 | exact hk_.1.1.1 | exact hk_.1.1.1.1 | exact hk_.1.1.1.1.1 | exact hk_.1.1.1.1.1.1)); replace HO_375001 := Aside0.mk (Kd.R_mono (Kd.R_keptB (Kd.R_tight rfl HO_375001.out) hkp (fun k_ hk_ hs_ => (hs_.2) hk_)) (fun k_ hk_ => HO_375001.out.1 k_ hk_.1.symm)); replace BK361 := Aside0.mk (blk_kept (Bz BK361) hkp (fun hs_ => (hs_.1.1.2) rfl)); replace BK374 := Aside0.mk (blk_kept (Bz BK374) hkp (fun hs_ => (hs_.1.2) rfl)); replace HB := Aside0.mk (hb); (try clear hb); (try clear hkp); (try clear hy0)) | ((with_reducible refine gate_callee (f := 19) rfl ?_); refine goesL_ (some 52) rfl rfl Try.func19 (by kernel_rfl) rfl #[.slice Ao26 t388.length co26, .int .i64 1] rfl (by (try simp only [List.map_toArray, List.map_cons, List.map_nil]); first | done | (rw [show t388.length = t375.length from (Kd.S_reads' HO_8.out).1.symm] <;> rfl) | rfl | (simp only [List.length_drop, List.length_take]; rfl)) ?_; (with_reducible refine (laws_heldIntSS.calls kj43 _ _ t388 1 t389 _ ?side1 ?side2 A47.out).mono ?_); (case side1 => exact Cz ((Kd.S_reads' HO_8.out).2.2)); (case side2 => rw [show t388.length = t375.length from (Kd.S_reads' HO_8.out).1.symm]; exact (Kd.S_reads' HO_8.out).2.1); rintro e w' ⟨rfl, ⟨nd, rfl⟩⟩; refine ⟨_, rfl, ?_⟩))
           (try simp only [Act.put, List.setIfInBounds_toArray, List.set_cons_zero, List.set_cons_succ])
           go_cut [] (fun wc => ∃ (kq : Nat), Aside0 (laws_FnExactReducedLaplacian.j5 kq a1 t367 t388 t387 t389 a0_0 l0_1 = some r) ∧ Aside0 (kq ≤ kj43) ∧ Aside0 (Kd.S (Kd.slice 3 (Kd.int .i64)) 37 wc w.heap.size (fun k_ => some k_ ≠ ((.slice Ao26 t375.length co26) : Value).ownBlock) (.slice Ao27 t367.length co27) t367) ∧ Aside0 (Kd.S (Kd.slice 3 (Kd.int .i64)) 37 wc w.heap.size (fun k_ => some k_ ≠ ((.slice Ao27 t367.length co27) : Value).ownBlock) (.slice Ao26 t375.length co26) t388) ∧ Aside0 (Kd.R k57 57 wc w.heap.size (fun _ => True) (.slice Ao24 t385.length co24) t385) ∧ Aside0 (wc.heap[gb361]? = some (.cells #[.int .i64 a0_0, (.slice A0_1 l0_1.length c0_1)] 24 (0, 0))) ∧ Aside0 (wc.heap[gb374]? = some (.cells #[.int .i64 t370, (.slice Ao24 t385.length co24)] 30 (0, 0))) ∧ Aside0 (Below w.heap.size w wc))
           case first =>
            have H := HC48.out
            clear HC48
            by_cases c50 : t389 < 0
            ·rw [if_pos c50] at H
             have c50b0 : decide (t389 < 0) = true := decide_eq_true c50
             clear c50
             (first | rw [c50b0] | (simp only [i64_w, i32_w]; rw [c50b0]) | skip)
             obtain rfl := Option.some.inj H
             go_wp2
             go_ret
             exact ⟨by first | rfl | (simp [errW_none, errW_some] <;> rfl) | (simp [*, errW_none, errW_some] <;> rfl), by exact Lz2 HB GE361 GE374⟩
            rw [if_neg c50] at H
            have c50b0 : decide (t389 < 0) = false := decide_eq_false c50
            clear c50
            (first | rw [c50b0] | (simp only [i64_w, i32_w]; rw [c50b0]) | skip)
            have H' := Aside0.mk H
            clear H
            go_wp2
            go_meet
            case rel => exact ⟨_, H', ⟨by have := HJ3.out; have := HJ13.out; have := HJ30.out; have := HJ37.out; have := HJ43.out; first | omega | exact Nat.le_refl _⟩, ⟨by (try simp only [hl375001_37]); (with_reducible repeat (first | apply Kd.S_alloc | apply Kd.S_drewN | apply Kd.S_drew)); exact HO_6.out⟩, ⟨by (try simp only [hl375001_37]); (with_reducible repeat (first | apply Kd.S_alloc | apply Kd.S_drewN | apply Kd.S_drew)); exact HO_8.out⟩, ⟨by (try simp only [hl375001_37]); exact Rz HO_375001⟩, ⟨by (try simp only [hl375001_37]); exact Bz BK361⟩, ⟨by (try simp only [hl375001_37]); exact Bz BK374⟩, ⟨by exact Lz2 HB GE361 GE374⟩⟩
           case rest =>
            clear HC48
            try clear c8
            try clear c8b0
            try clear c28
            try clear c36
            try clear c42
            try clear c42b0
            try clear c45
            try clear c50
            try clear c50b0
            obtain ⟨kq, HA, HJ47, HO_6, HO_8, HO_375001, BK361, BK374, HB⟩ := hcut
            have hl8_47 := (Kd.S_reads' HO_8.out).1
            rw [hl8_47] at HO_8
            (try simp only [hl8_47])
            (try simp only [hl8_47] at BK361)
            (try simp only [hl8_47] at BK374)
            (try simp only [hl8_47] at HO_6)
            (try simp only [hl8_47] at HO_375001)
            cases kq with
            | zero => exact absurd HA.out (by simp [laws_FnExactReducedLaplacian.j5])
            | succ kj47 =>
             have H := HA.out
             clear HA
             simp only [laws_FnExactReducedLaplacian.j5] at H
             have HC51 := Aside0.mk H
             clear H
             go_upto_if 57 with (fail)
             go_cut [] (fun wc => ∃ (kq : Nat), Aside0 (laws_FnExactReducedLaplacian.j6 kq a1 t367 t388 t387 a0_0 l0_1 = some r) ∧ Aside0 (kq ≤ kj47) ∧ Aside0 (Kd.S (Kd.slice 3 (Kd.int .i64)) 37 wc w.heap.size (fun k_ => some k_ ≠ ((.slice Ao26 t388.length co26) : Value).ownBlock) (.slice Ao27 t367.length co27) t367) ∧ Aside0 (Kd.S (Kd.slice 3 (Kd.int .i64)) 37 wc w.heap.size (fun k_ => some k_ ≠ ((.slice Ao27 t367.length co27) : Value).ownBlock) (.slice Ao26 t388.length co26) t388) ∧ Aside0 (Kd.R k57 57 wc w.heap.size (fun _ => True) (.slice Ao24 t385.length co24) t385) ∧ Aside0 (wc.heap[gb361]? = some (.cells #[.int .i64 a0_0, (.slice A0_1 l0_1.length c0_1)] 24 (0, 0))) ∧ Aside0 (wc.heap[gb374]? = some (.cells #[.int .i64 t370, (.slice Ao24 t385.length co24)] 30 (0, 0))) ∧ Aside0 (Below w.heap.size w wc))
             case first =>
              have H := HC51.out
              clear HC51
              by_cases c52 : t389 = t387
              ·rw [if_pos c52] at H
               have c52b0 : (t389 == t387) = true := beq_iff_eq.mpr c52
               have c52b1 : (t389 != t387) = false := bne_eq_false_iff_eq.mpr c52
               clear c52
               (first | rw [c52b0] | (simp only [i64_w, i32_w]; rw [c52b0]) | skip)
               have H' := Aside0.mk H
               clear H
               go_wp2
               go_meet
               case rel => exact ⟨_, H', ⟨by have := HJ3.out; have := HJ13.out; have := HJ30.out; have := HJ37.out; have := HJ43.out; have := HJ47.out; first | omega | exact Nat.le_refl _⟩, ⟨by (try simp only [hl375001_37]); (try simp only [hl8_47]); (with_reducible repeat (first | apply Kd.S_alloc | apply Kd.S_drewN | apply Kd.S_drew)); exact HO_6.out⟩, ⟨by (try simp only [hl375001_37]); (try simp only [hl8_47]); (with_reducible repeat (first | apply Kd.S_alloc | apply Kd.S_drewN | apply Kd.S_drew)); exact HO_8.out⟩, ⟨by (try simp only [hl375001_37]); (try simp only [hl8_47]); exact Rz HO_375001⟩, ⟨by (try simp only [hl375001_37]); (try simp only [hl8_47]); exact Bz BK361⟩, ⟨by (try simp only [hl375001_37]); (try simp only [hl8_47]); exact Bz BK374⟩, ⟨by exact Lz2 HB GE361 GE374⟩⟩
              rw [if_neg c52] at H
              have c52b0 : (t389 == t387) = false := beq_eq_false_iff_ne.mpr c52
              have c52b1 : (t389 != t387) = true := bne_iff_ne.mpr c52
              (first | rw [c52b0] | (simp only [i64_w, i32_w]; rw [c52b0]) | skip)
              obtain rfl := Option.some.inj H
              go_wp2
              go_ret
              exact ⟨by first | rfl | (simp [errW_none, errW_some] <;> rfl) | (simp [*, errW_none, errW_some] <;> rfl), by exact Lz2 HB GE361 GE374⟩
             case rest =>
              clear HC51
              try clear c8
              try clear c8b0
              try clear c28
              try clear c36
              try clear c42
              try clear c42b0
              try clear c45
              try clear c50
              try clear c50b0
              try clear c52
              try clear c52b0
              try clear c52b1
              obtain ⟨kq, HA, HJ50, HO_6, HO_8, HO_375001, BK361, BK374, HB⟩ := hcut
              cases kq with
              | zero => exact absurd HA.out (by simp [laws_FnExactReducedLaplacian.j6])
              | succ kj50 =>
               have H := HA.out
               clear HA
               simp only [laws_FnExactReducedLaplacian.j6] at H
               replace H := Option.bind_eq_some_iff.mp H
               obtain ⟨⟨t390, t391⟩, A530, H⟩ := H
               replace H : ((impl_ReducedLaplacian.f kj50 t390 t391 a1).bind fun t394 => ((laws_eqIntSS.f kj50 t394 t367).bind fun t397 => (if t397 = true then (laws_FnExactReducedLaplacian.j7 kj50 t388 t387) else (some false)))) = some r := H
               have A53 := Aside0.mk A530
               clear A530
               replace H := Option.bind_eq_some_iff.mp H
               obtain ⟨t394, A540, H⟩ := H
               replace H : ((laws_eqIntSS.f kj50 t394 t367).bind fun t397 => (if t397 = true then (laws_FnExactReducedLaplacian.j7 kj50 t388 t387) else (some false))) = some r := H
               have A54 := Aside0.mk A540
               clear A540
               replace H := Option.bind_eq_some_iff.mp H
               obtain ⟨t397, A550, H⟩ := H
               replace H : (if t397 = true then (laws_FnExactReducedLaplacian.j7 kj50 t388 t387) else (some false)) = some r := H
               have A55 := Aside0.mk A550
               clear A550
               have HC56 := Aside0.mk H
               clear H
               have hnb57 := NB361_374.out
               have hnc57 := NB374_361.out
               have hcz58_0 : wc.cell? ⟨gb361, 0, none⟩ = some (.int .i64 a0_0) := (blk_cell BK361.out 0).trans rfl
               have hcz58_1 : wc.cell? ⟨gb361, 1, none⟩ = some (.slice A0_1 l0_1.length c0_1) := (blk_cell BK361.out 1).trans rfl
               have hfz58_0 := blk_frozen BK361.out 0
               have hfz58_1 := blk_frozen BK361.out 1
               go_upto_if 65 with (first | ((with_reducible refine gate_callee (f := 13) rfl ?_); refine goesM_ (some 59) rfl rfl Try.func13 (by kernel_rfl) rfl #[.agg #[.int .i64 a0_0, .slice A0_1 l0_1.length c0_1]] rfl ?_; (with_reducible refine (laws_toGraph.calls kj50 a0_0 _ _ l0_1 t390 t391 _ ?side1 ?side2 A53.out).mono ?_); (case side1 => exact Cz ((Kd.C_below HR0_1.out HB.out))); (case side2 => exact HC0_1.out); rintro e w59 ⟨v392, rfl, ho0, hb⟩; refine ⟨_, rfl, ?_⟩; replace HO_6 := Aside0.mk (Kd.S_below (by (with_reducible repeat (first | apply Kd.S_alloc | apply Kd.S_drewN | apply Kd.S_drew)); exact HO_6.out) hb); replace HO_8 := Aside0.mk (Kd.S_below (by (with_reducible repeat (first | apply Kd.S_alloc | apply Kd.S_drewN | apply Kd.S_drew)); exact HO_8.out) hb); have HO393 := Aside0.mk (Kd.R_lower (Kd.R_new' ho0 (Kd.R_lt (Rz HO_375001))) (below_size (by exact Lz2 HB GE361 GE374))); replace HO_375001 := Aside0.mk (Kd.R_elder' (Rz HO_375001) (Kd.R_base ho0) hb); replace BK361 := Aside0.mk (blk_below (g := gb361) (o := .cells #[.int .i64 a0_0, .slice A0_1 l0_1.length c0_1] 24 (0, 0)) (Bz BK361) hb); replace BK374 := Aside0.mk (blk_below (g := gb374) (o := .cells #[.int .i64 t370, .slice Ao24 t385.length co24] 30 (0, 0)) (Bz BK374) hb); replace HB := Aside0.mk (below_step (by exact Lz2 HB GE361 GE374) hb); (try clear hb); (try clear ho0); obtain ⟨Ao60, co60, eo60⟩ := Kd.R_slice HO393.out; subst eo60) | ((with_reducible refine gate_callee (f := 28) rfl ?_); refine goesM_ (some 61) rfl rfl Try.func28 (by kernel_rfl) rfl #[.agg #[.int .i64 t390, .slice Ao60 t391.length co60], .int .i64 a1] rfl ?_; (with_reducible refine (impl_ReducedLaplacian.calls kj50 t390 _ _ t391 a1 t394 _ ?side1 ?side2 A54.out).mono ?_); (case side1 => exact Cz ((Kd.R_reads' HO393.out).2.2)); (case side2 => exact (Kd.R_reads' HO393.out).2.1); rintro e w61 ⟨v395, rfl, ho0, hb⟩; refine ⟨_, rfl, ?_⟩; replace HO_375001 := Aside0.mk (Kd.R_below (Rz HO_375001) hb); replace HO393 := Aside0.mk (Kd.R_below (Rz HO393) hb); have HO396 := Aside0.mk (Kd.S_lower (Kd.S_new' (Kd.S_new' ho0 (Kd.S_lt (by (with_reducible repeat (first | apply Kd.S_alloc | apply Kd.S_drewN | apply Kd.S_drew)); exact HO_6.out))) (Kd.S_lt (by (with_reducible repeat (first | apply Kd.S_alloc | apply Kd.S_drewN | apply Kd.S_drew)); exact HO_8.out))) (below_size (by exact Lz2 HB GE361 GE374))); replace HO_6 := Aside0.mk (Kd.S_elder' (by (with_reducible repeat (first | apply Kd.S_alloc | apply Kd.S_drewN | apply Kd.S_drew)); exact HO_6.out) (Kd.S_base ho0) hb); replace HO_8 := Aside0.mk (Kd.S_elder' (by (with_reducible repeat (first | apply Kd.S_alloc | apply Kd.S_drewN | apply Kd.S_drew)); exact HO_8.out) (Kd.S_base ho0) hb); replace BK361 := Aside0.mk (blk_below (g := gb361) (o := .cells #[.int .i64 a0_0, .slice A0_1 l0_1.length c0_1] 24 (0, 0)) (Bz BK361) hb); replace BK374 := Aside0.mk (blk_below (g := gb374) (o := .cells #[.int .i64 t370, .slice Ao24 t385.length co24] 30 (0, 0)) (Bz BK374) hb); replace HB := Aside0.mk (below_step (by exact Lz2 HB GE361 GE374) hb); (try clear hb); (try clear ho0); obtain ⟨Ao62, co62, eo62⟩ := Kd.S_slice HO396.out; subst eo62) | ((with_reducible refine gate_callee (f := 15) rfl ?_); refine goesM_ (some 64) rfl rfl Try.func15 (by kernel_rfl) rfl #[.slice Ao62 t394.length co62, .slice Ao27 t367.length co27] rfl ?_; (with_reducible refine (laws_eqIntSS.calls kj50 _ _ t394 _ _ t367 t397 _ ?side1 ?side2 ?side3 ?side4 A55.out).mono ?_); (case side1 => exact Cz ((Kd.S_reads' HO396.out).2.2)); (case side2 => exact (Kd.S_reads' HO396.out).2.1); (case side3 => exact Cz ((Kd.S_reads' HO_6.out).2.2)); (case side4 => exact (Kd.S_reads' HO_6.out).2.1); rintro e w' ⟨rfl, ⟨nd, rfl⟩⟩; refine ⟨_, rfl, ?_⟩))
               (try simp only [Act.put, List.setIfInBounds_toArray, List.set_cons_zero, List.set_cons_succ])
               go_cut [] (fun wc => ∃ (kq : Nat), Aside0 (laws_FnExactReducedLaplacian.j7 kq t388 t387 = some r) ∧ Aside0 (kq ≤ kj50) ∧ Aside0 (Kd.S (Kd.slice 3 (Kd.int .i64)) 37 wc w.heap.size (fun _ => True) (.slice Ao26 t388.length co26) t388) ∧ Aside0 (Kd.R k57 57 wc w.heap.size (fun _ => True) (.slice Ao24 t385.length co24) t385) ∧ Aside0 (wc.heap[gb361]? = some (.cells #[.int .i64 a0_0, (.slice A0_1 l0_1.length c0_1)] 24 (0, 0))) ∧ Aside0 (wc.heap[gb374]? = some (.cells #[.int .i64 t370, (.slice Ao24 t385.length co24)] 30 (0, 0))) ∧ Aside0 (Below w.heap.size w wc))
               case first =>
                have H := HC56.out
                clear HC56
                by_cases c63 : t397 = true
                ·subst c63
                 have H1 : (laws_FnExactReducedLaplacian.j7 kj50 t388 t387) = some r := by rw [if_pos rfl] at H; exact H
                 clear H
                 have H := H1
                 clear H1
                 have H' := Aside0.mk H
                 clear H
                 go_wp2
                 go_meet
                 case rel => exact ⟨_, H', ⟨by have := HJ3.out; have := HJ13.out; have := HJ30.out; have := HJ37.out; have := HJ43.out; have := HJ47.out; have := HJ50.out; first | omega | exact Nat.le_refl _⟩, ⟨by (try simp only [hl375001_37]); (try simp only [hl8_47]); (with_reducible repeat (first | apply Kd.S_alloc | apply Kd.S_drewN | apply Kd.S_drew)); exact Kd.S_mono HO_8.out (fun _ hk => trivial)⟩, ⟨by (try simp only [hl375001_37]); (try simp only [hl8_47]); (with_reducible repeat (first | apply Kd.R_alloc | apply Kd.R_drewN | apply Kd.R_drew)); exact Kd.R_mono HO_375001.out (fun _ hk => trivial)⟩, ⟨by (try simp only [hl375001_37]); (try simp only [hl8_47]); exact Bz BK361⟩, ⟨by (try simp only [hl375001_37]); (try simp only [hl8_47]); exact Bz BK374⟩, ⟨by exact Lz2 HB GE361 GE374⟩⟩
                replace c63 := Bool.eq_false_iff.mpr c63
                subst c63
                have H1 : (some false) = some r := by rw [if_neg (show ¬ (false = true) by decide)] at H; exact H
                clear H
                have H := H1
                clear H1
                exact absurd (Option.some.inj H) (by rw [HR_.out]; decide)
               case rest =>
                clear HC56
                try clear c8
                try clear c8b0
                try clear c28
                try clear c36
                try clear c42
                try clear c42b0
                try clear c45
                try clear c50
                try clear c50b0
                try clear c52
                try clear c52b0
                try clear c52b1
                try clear c63
                obtain ⟨kq, HA, HJ55, HO_8, HO_375001, BK361, BK374, HB⟩ := hcut
                cases kq with
                | zero => exact absurd HA.out (by simp [laws_FnExactReducedLaplacian.j7])
                | succ kj55 =>
                 have H := HA.out
                 clear HA
                 simp only [laws_FnExactReducedLaplacian.j7] at H
                 replace H := Option.bind_eq_some_iff.mp H
                 obtain ⟨t398, A640, H⟩ := H
                 replace H : (if t398 < 0 then (some false) else (laws_FnExactReducedLaplacian.j8 kj55 t387 t398)) = some r := H
                 have A64 := Aside0.mk A640
                 clear A640
                 have HC65 := Aside0.mk H
                 clear H
                 go_upto_if 70 with (first | ((with_reducible refine gate_callee (f := 19) rfl ?_); refine goesM_ (some 68) rfl rfl Try.func19 (by kernel_rfl) rfl #[.slice Ao26 t388.length co26, .int .i64 1] rfl ?_; (with_reducible refine (laws_heldIntSS.calls kj55 _ _ t388 1 t398 _ ?side1 ?side2 A64.out).mono ?_); (case side1 => exact Cz ((Kd.S_reads' HO_8.out).2.2)); (case side2 => exact (Kd.S_reads' HO_8.out).2.1); rintro e w' ⟨rfl, ⟨nd, rfl⟩⟩; refine ⟨_, rfl, ?_⟩))
                 (try simp only [Act.put, List.setIfInBounds_toArray, List.set_cons_zero, List.set_cons_succ])
                 go_cut [] (fun wc => ∃ (kq : Nat), Aside0 (laws_FnExactReducedLaplacian.j8 kq t387 t398 = some r) ∧ Aside0 (kq ≤ kj55) ∧ Aside0 (Kd.R k57 57 wc w.heap.size (fun _ => True) (.slice Ao24 t385.length co24) t385) ∧ Aside0 (wc.heap[gb361]? = some (.cells #[.int .i64 a0_0, (.slice A0_1 l0_1.length c0_1)] 24 (0, 0))) ∧ Aside0 (wc.heap[gb374]? = some (.cells #[.int .i64 t370, (.slice Ao24 t385.length co24)] 30 (0, 0))) ∧ Aside0 (Below w.heap.size w wc))
                 case first =>
                  have H := HC65.out
                  clear HC65
                  by_cases c66 : t398 < 0
                  ·rw [if_pos c66] at H
                   have c66b0 : decide (t398 < 0) = true := decide_eq_true c66
                   clear c66
                   (first | rw [c66b0] | (simp only [i64_w, i32_w]; rw [c66b0]) | skip)
                   obtain rfl := Option.some.inj H
                   go_wp2
                   go_ret
                   exact ⟨by first | rfl | (simp [errW_none, errW_some] <;> rfl) | (simp [*, errW_none, errW_some] <;> rfl), by exact Lz2 HB GE361 GE374⟩
                  rw [if_neg c66] at H
                  have c66b0 : decide (t398 < 0) = false := decide_eq_false c66
                  clear c66
                  (first | rw [c66b0] | (simp only [i64_w, i32_w]; rw [c66b0]) | skip)
                  have H' := Aside0.mk H
                  clear H
                  go_wp2
                  go_meet
                  case rel => exact ⟨_, H', ⟨by have := HJ3.out; have := HJ13.out; have := HJ30.out; have := HJ37.out; have := HJ43.out; have := HJ47.out; have := HJ50.out; have := HJ55.out; first | omega | exact Nat.le_refl _⟩, ⟨by (try simp only [hl375001_37]); (try simp only [hl8_47]); exact Rz HO_375001⟩, ⟨by (try simp only [hl375001_37]); (try simp only [hl8_47]); exact Bz BK361⟩, ⟨by (try simp only [hl375001_37]); (try simp only [hl8_47]); exact Bz BK374⟩, ⟨by exact Lz2 HB GE361 GE374⟩⟩
                 case rest =>
                  clear HC65
                  try clear c8
                  try clear c8b0
                  try clear c28
                  try clear c36
                  try clear c42
                  try clear c42b0
                  try clear c45
                  try clear c50
                  try clear c50b0
                  try clear c52
                  try clear c52b0
                  try clear c52b1
                  try clear c63
                  try clear c66
                  try clear c66b0
                  obtain ⟨kq, HA, HJ64, HO_375001, BK361, BK374, HB⟩ := hcut
                  cases kq with
                  | zero => exact absurd HA.out (by simp [laws_FnExactReducedLaplacian.j8])
                  | succ kj64 =>
                   have H := HA.out
                   clear HA
                   simp only [laws_FnExactReducedLaplacian.j8] at H
                   by_cases c67 : t398 = t387
                   ·rw [if_pos c67] at H
                    have c67b0 : (t398 == t387) = true := beq_iff_eq.mpr c67
                    have c67b1 : (t398 != t387) = false := bne_eq_false_iff_eq.mpr c67
                    clear c67
                    obtain rfl := Option.some.inj H
                    go_wp2
                    go_ret
                    exact ⟨by first | rfl | (simp [errW_none, errW_some] <;> rfl) | (simp [*, errW_none, errW_some] <;> rfl), by exact Lz2 HB GE361 GE374⟩
                   rw [if_neg c67] at H
                   have c67b0 : (t398 == t387) = false := beq_eq_false_iff_ne.mpr c67
                   have c67b1 : (t398 != t387) = true := bne_iff_ne.mpr c67
                   obtain rfl := Option.some.inj H
                   go_wp2
                   go_ret
                   exact ⟨by first | rfl | (simp [errW_none, errW_some] <;> rfl) | (simp [*, errW_none, errW_some] <;> rfl), by exact Lz2 HB GE361 GE374⟩
end Go.Proofs.Ytplcclifmajcfaa.P
end
section
namespace Go.Proofs.Ytplcclifmajcfaa.Pure
open Go.RowKit Go.Proofs.Ytplcclifmajcfaa.P Go.Proofs.YtplcclifmajcfaaW.PrintWords Go.Proofs.YtplcclifmajcfaaW.PrintLast Go.Proofs.YtplcclifmajcfaaW.PrintMore
def StatFnExactReducedLaplacian : Prop := ∀ (a0_0 : Int) (l0_1 : List (S82)) (a1 : Int), ((Lit.int .i64 a0_0).wf = true ∧ (l0_1.length ≤ maxLen ∧ ∀ x4 ∈ l0_1, (Lit.int .i64 x4.f0).wf = true ∧ (Lit.int .i64 x4.f1).wf = true)) → (Lit.int .i64 a1).wf = true → ∃ k, laws_FnExactReducedLaplacian.f k a0_0 l0_1 a1 = some true
end Go.Proofs.Ytplcclifmajcfaa.Pure
end
section
set_option linter.unusedVariables false
set_option linter.unusedSimpArgs false
namespace Go.Proofs.Ytplcclifmajcfaa.Pure
open Go.RowKit Go.Proofs.Ytplcclifmajcfaa.P Go.Proofs.YtplcclifmajcfaaW.PrintWords Go.Proofs.YtplcclifmajcfaaW.PrintLast Go.Proofs.YtplcclifmajcfaaW.PrintMore Go.Proofs.Ytplcclifmajcfaa.Base Go.Proofs.Ytplcclifmajcfaa.Loops
def mkE (m : Nat) : List S57 := (List.range m).map fun i : Nat => ⟨2 * (i : Int) + 1, 2 * (i : Int) + 2⟩
theorem mkE_len (m : Nat) : (mkE m).length = m := by simp [mkE]
theorem mkE_drop {m i : Nat} (h : i < m) : (mkE m).drop i = ⟨2 * (i : Int) + 1, 2 * (i : Int) + 2⟩ :: (mkE m).drop (i + 1) := by
  rw [List.drop_eq_getElem_cons (by rw [mkE_len]; exact h)]
  congr 1
  simp [mkE]
theorem markG_ev (n : Int) (l : List S57) (hl : l.length < 2305843009213693952) : Ev (fun k => laws_markGraph.f k n l 1) (2 * (l.length : Int) + 1, mkE l.length) := by
  have main : ∀ (d i : Nat) (x : List S57), i + d = l.length → x.length = l.length → x.take i = (mkE l.length).take i → Ev (fun k => laws_markEdgeS.l0 k x (2 * (i : Int) + 1) (i : Int)) (2 * (l.length : Int) + 1, mkE l.length) := by
    intro d
    induction d with
    | zero =>
      intro i x hi hx ht
      obtain rfl : i = l.length := by omega
      have e : x = mkE l.length := fill_end (by rw [hx, mkE_len]) (by rw [mkE_len]; exact ht)
      refine ev_succ ?_
      simp only [laws_markEdgeS.l0]
      rw [e]
      exact ev_ifn (by rw [mkE_len]; omega) (Ev.now _)
    | succ d ih =>
      intro i x hi hx ht
      have hil : i < x.length := by omega
      have hr : rd_T57 (x.set i (⟨2 * (i : Int) + 1, (rd_T57 x i).f1⟩ : S57)) (i : Int) = ⟨2 * (i : Int) + 1, (rd_T57 x i).f1⟩ := by
        unfold rd_T57
        rw [Int.toNat_natCast, List.getD_eq_getElem?_getD, List.getElem?_set_self hil]
        rfl
      have w1 : wrap64 (2 * (i : Int) + 1 + 1) = 2 * (i : Int) + 2 := by unfold wrap64; omega
      have w2 : wrap64 (2 * (i : Int) + 2 + 1) = 2 * ((i + 1 : Nat) : Int) + 1 := by unfold wrap64; omega
      have h1 := ih (i + 1) (x.set i (⟨2 * (i : Int) + 1, 2 * (i : Int) + 2⟩ : S57)) (by omega) (by simpa using hx) (fill_step (by rw [hx, mkE_len]) ht (mkE_drop (by omega)))
      refine ev_succ ?_
      simp only [laws_markEdgeS.l0, Option.bind_some, Int.toNat_natCast, hr, w1, w2, List.set_set, wrap_succ (show i < 4611686018427387904 by omega)]
      exact ev_ift (by omega) (ev_ift (by omega) h1)
  simp only [laws_markGraph.f, laws_markEdgeS.f]
  exact Ev.bind (main l.length 0 l (by omega) rfl (by simp)) (Ev.now _)
def mkI (m : Int) (n : Nat) : List Int := (List.range n).map fun i : Nat => m + (i : Int)
theorem mkI_length (m : Int) (n : Nat) : (mkI m n).length = n := by simp [mkI]
theorem mkI_drop {m : Int} {n i : Nat} (h : i < n) : (mkI m n).drop i = (m + (i : Int)) :: (mkI m n).drop (i + 1) := by
  rw [List.drop_eq_getElem_cons (by rw [mkI_length]; exact h)]
  simp [mkI]
theorem markIntS_ev (m : Int) (h0 : 0 ≤ m) (l : List Int) (hl : m + l.length < 2305843009213693952) : Ev (fun k => laws_markIntS.f k l m) (m + (l.length : Int), mkI m l.length) := by
  have main : ∀ (d k i : Nat) (x : List Int), i + d = l.length → x.length = l.length → x.take i = (mkI m l.length).take i → d < k → laws_markIntS.l0 k x (m + (i : Int)) (i : Int) = some (m + (l.length : Int), mkI m l.length) := by
    intro d
    induction d with
    | zero =>
      intro k i x hi hx ht hk
      obtain ⟨k, rfl⟩ := succ_of_lt hk
      have e : i = l.length := by omega
      subst e
      have ex : x = mkI m l.length := fill_end (by rw [mkI_length]; exact hx) (by rw [mkI_length]; exact ht)
      simp only [laws_markIntS.l0]
      rw [if_neg (by omega), ex]
    | succ d ih =>
      intro k i x hi hx ht hk
      obtain ⟨k, rfl⟩ := succ_of_lt hk
      simp only [laws_markIntS.l0]
      rw [if_pos (by omega), if_pos (by omega), wrap_succ (by omega), show wrap64 (m + (i : Int) + 1) = m + ((i + 1 : Nat) : Int) by unfold wrap64; omega, Int.toNat_natCast]
      exact ih k (i + 1) _ (by omega) (by simpa using hx) (fill_step (by rw [mkI_length]; exact hx) ht (mkI_drop (by omega))) (by omega)
  refine ev_k l.length fun k hk => ?_
  unfold laws_markIntS.f
  have h := main l.length k 0 l (by omega) rfl (by simp) hk
  rw [show m + ((0 : Nat) : Int) = m by omega] at h
  exact h
def mkSS (v : Int) : List (List Int) → List (List Int)
  | [] => []
  | a :: r => mkI v a.length :: mkSS (v + (a.length : Int)) r
def cntSS (v : Int) : List (List Int) → Int
  | [] => v
  | a :: r => cntSS (v + (a.length : Int)) r
theorem mkSS_len : ∀ (m : List (List Int)) (v : Int), (mkSS v m).length = m.length := by
  intro m
  induction m with
  | nil => intro v; rfl
  | cons a r ih => intro v; simp [mkSS, ih]
theorem cntSS_le (B : Nat) : ∀ (m : List (List Int)) (v : Int), (∀ a ∈ m, a.length ≤ B) → v ≤ cntSS v m ∧ cntSS v m ≤ v + (B : Int) * (m.length : Int) := by
  intro m
  induction m with
  | nil => intro v _; simp [cntSS]
  | cons a r ih =>
    intro v h
    have h1 := h a (by simp)
    have := ih (v + (a.length : Int)) (fun x hx => h x (by simp [hx]))
    simp only [cntSS, List.length_cons]
    have e : (B : Int) * ((r.length + 1 : Nat) : Int) = (B : Int) * (r.length : Int) + B := by rw [show ((r.length + 1 : Nat) : Int) = (r.length : Int) + 1 by omega, Int.mul_add, Int.mul_one]
    omega
theorem heldFrom_ev (v : Int) (h0 : 0 ≤ v) (n : Nat) (hn : v + n < 2305843009213693952) : Ev (fun k => laws_heldIntS.f k (mkI v n) v) (v + (n : Int)) := by
  have main : ∀ (d i : Nat), i + d = n → Ev (fun k => laws_heldIntS.l0 k (mkI v n) (v + (i : Int)) (i : Int)) (v + (n : Int)) := by
    intro d
    induction d with
    | zero =>
      intro i hi
      obtain rfl : i = n := by omega
      refine ev_succ ?_
      simp only [laws_heldIntS.l0, mkI_length]
      exact ev_ifn (by omega) (Ev.now _)
    | succ d ih =>
      intro i hi
      have h := ih (i + 1) (by omega)
      refine ev_succ ?_
      simp only [laws_heldIntS.l0, mkI_length, rd_drop (mkI_drop (show i < n by omega)), wrap_succ (show i < 4611686018427387904 by omega)]
      rw [show wrap64 (v + (i : Int) + 1) = v + ((i + 1 : Nat) : Int) by unfold wrap64; omega]
      exact ev_ift (by omega) (ev_ift (by omega) (ev_ift (by first | rfl | trivial) h))
  have h := main n 0 (by omega)
  simp only [laws_heldIntS.f]
  simpa using h
theorem markSS_ev (m : List (List Int)) (hl : m.length ≤ 1000) (hr : ∀ r ∈ m, r.length ≤ 1000) : Ev (fun k => laws_markIntSS.f k m 1) (cntSS 1 m, mkSS 1 m) := by
  have main : ∀ (rest : List (List Int)) (done : List (List Int)) (v : Int), (∀ r ∈ rest, r.length ≤ 1000) → done.length + rest.length ≤ 1000 → 0 ≤ v → v ≤ 1000 * (done.length : Int) + 1 →
      Ev (fun k => laws_markIntSS.l0 k (done ++ rest) v (done.length : Int)) (cntSS v rest, done ++ mkSS v rest) := by
    intro rest
    induction rest with
    | nil =>
      intro done v _ _ _ _
      refine ev_succ ?_
      simp only [laws_markIntSS.l0, List.append_nil, mkSS, cntSS]
      exact ev_ifn (by omega) (Ev.now _)
    | cons a rest ih =>
      intro done v hr hl h0 h1
      have ha := hr a (by simp)
      simp only [List.length_cons] at hl
      have e := markIntS_ev v h0 a (by omega)
      have g := ih (done ++ [mkI v a.length]) (v + (a.length : Int)) (fun x hx => hr x (by simp [hx])) (by simp; omega) (by omega) (by simp; omega)
      have hg : (done ++ a :: rest).getD done.length [] = a := by simp
      have hs : (done ++ a :: rest).set done.length (mkI v a.length) = done ++ [mkI v a.length] ++ rest := by simp
      rw [show ((done ++ [mkI v a.length]).length : Int) = ((done.length + 1 : Nat) : Int) by simp] at g
      refine ev_succ ?_
      simp only [laws_markIntSS.l0, Int.toNat_natCast, hg, wrap_succ (show done.length < 4611686018427387904 by omega)]
      refine ev_ift (by simp; omega) (ev_ift (by omega) (Ev.bind e ?_))
      dsimp only
      rw [hs]
      simpa [mkSS, cntSS] using g
  have g := main m [] 1 hr (by simpa using hl) (by omega) (by simp)
  simp only [laws_markIntSS.f]
  simpa using g
theorem heldSS_ev (m : List (List Int)) (hl : m.length ≤ 1000) (hr : ∀ r ∈ m, r.length ≤ 1000) : Ev (fun k => laws_heldIntSS.f k (mkSS 1 m) 1) (cntSS 1 m) := by
  have main : ∀ (rest : List (List Int)) (i : Nat) (v : Int), (∀ r ∈ rest, r.length ≤ 1000) → i + rest.length = m.length → (mkSS 1 m).drop i = mkSS v rest → 0 ≤ v → v ≤ 1000 * (i : Int) + 1 →
      Ev (fun k => laws_heldIntSS.l0 k (mkSS 1 m) v (i : Int)) (cntSS v rest) := by
    intro rest
    induction rest with
    | nil =>
      intro i v _ hi _ _ _
      refine ev_succ ?_
      simp only [laws_heldIntSS.l0, cntSS, mkSS_len]
      simp only [List.length_nil] at hi
      exact ev_ifn (by omega) (Ev.now _)
    | cons a rest ih =>
      intro i v hr hi hd h0 h1
      have ha := hr a (by simp)
      simp only [List.length_cons] at hi
      have e := heldFrom_ev v h0 a.length (by omega)
      have hx : rd_L4 (mkSS 1 m) (i : Int) = mkI v a.length := by
        unfold rd_L4
        rw [Int.toNat_natCast]
        exact get_drop hd _
      have g := ih (i + 1) (v + (a.length : Int)) (fun x hx => hr x (by simp [hx])) (by omega) (drop_next hd) (by omega) (by omega)
      refine ev_succ ?_
      simp only [laws_heldIntSS.l0, mkSS_len, hx, wrap_succ (show i < 4611686018427387904 by omega)]
      exact ev_ift (by omega) (ev_ift (by omega) (Ev.bind e (ev_ifn (by omega) g)))
  simp only [laws_heldIntSS.f]
  exact main m 0 1 hr (by omega) rfl (by omega) (by simp)
theorem rdL_at {l : List (List Int)} {i : Nat} {a : List Int} {r : List (List Int)} (h : l.drop i = a :: r) : rd_L4 l (i : Int) = a := by
  unfold rd_L4
  rw [Int.toNat_natCast]
  exact get_drop h []
theorem eqIntSS_ev (m : List (List Int)) (hl : m.length < 4611686018427387904) (hr : ∀ r ∈ m, r.length < 4611686018427387904) : Ev (fun k => laws_eqIntSS.f k m m) true := by
  have main : ∀ (rest : List (List Int)) (i : Nat), m.drop i = rest → i ≤ m.length → Ev (fun k => laws_eqIntSS.l0 k m m (i : Int)) true := by
    intro rest
    induction rest with
    | nil =>
      intro i hd hi
      have := drop_nil hd
      refine ev_succ ?_
      simp only [laws_eqIntSS.l0]
      exact ev_ifn (by omega) (Ev.now _)
    | cons a rest ih =>
      intro i hd hi
      have hlt := drop_lt hd
      have ha : a ∈ m := List.mem_of_mem_drop (by rw [hd]; exact List.mem_cons_self)
      have ea := eqIntS_ev a (hr a ha)
      have h1 := ih (i + 1) (drop_next hd) (by omega)
      refine ev_succ ?_
      simp only [laws_eqIntSS.l0, rdL_at hd, wrap_succ (show i < 4611686018427387904 by omega)]
      exact ev_ift (by omega) (ev_ift (by omega) (ev_ift (by omega) (Ev.bind ea (ev_ift rfl h1))))
  simp only [laws_eqIntSS.f]
  exact ev_ift (by first | rfl | with_reducible exact True.intro) (main m 0 (by simp) (by omega))
end Go.Proofs.Ytplcclifmajcfaa.Pure
end
section
set_option linter.unusedVariables false
set_option linter.unusedSimpArgs false
namespace Go.Proofs.Ytplcclifmajcfaa.Pure
open Go.RowKit Go.Proofs.Ytplcclifmajcfaa.P Go.Proofs.YtplcclifmajcfaaW.PrintWords Go.Proofs.YtplcclifmajcfaaW.PrintLast Go.Proofs.YtplcclifmajcfaaW.PrintMore Go.Proofs.Ytplcclifmajcfaa.Base Go.Proofs.Ytplcclifmajcfaa.Loops Go.Proofs.Ytplcclifmajcfaa.Bits
theorem FnExactReducedLaplacian : StatFnExactReducedLaplacian := by
  intro n l a ⟨_, hl, _⟩ _
  refine Ev.rounds (r := true) ?_
  unfold laws_FnExactReducedLaplacian.f
  have hs := szGraph_eq n l hl 1048576 (by omega) (by omega)
  by_cases h : (l.length : Int) ≤ 1048576
  · have es : Ev (fun _ : Nat => laws_szGraph.f n l 1048576) (1048576 - (l.length : Int)) := ev_const fun _ => by rw [hs, if_pos h]
    have tg := toGraph_ev n l (by omega)
    have hm := map_cv_length l
    have hL : (l.map cvE).length < 4611686018427387904 := by omega
    obtain ⟨r, g1, g2, ⟨hr, hx⟩, _⟩ := reducedLap_both n (l.map cvE) a hL
    have eg := eqGraph_ev n (l.map cvE) hL
    have er := eqIntSS_ev r (by omega) (fun x h => by have := hx x h; omega)
    have my := markG_ev n (l.map cvE) (by omega)
    have mr := markSS_ev r (by omega) (fun x h => by have := hx x h; omega)
    have he := heldSS_ev r (by omega) (fun x h => by have := hx x h; omega)
    have hc := cntSS_le 1000 r 1 (fun x h => by have := hx x h; omega)
    repeat (first
      | exact Ev.now _
      | dsimp only
      | (with_reducible refine Ev.bind es ?_) | (with_reducible refine Ev.bind tg ?_) | (with_reducible refine Ev.bind g1 ?_) | (with_reducible refine Ev.bind g2 ?_) | (with_reducible refine Ev.bind eg ?_) | (with_reducible refine Ev.bind er ?_) | (with_reducible refine Ev.bind my ?_) | (with_reducible refine Ev.bind mr ?_) | (with_reducible refine Ev.bind he ?_)
      | with_reducible refine ev_ift (by first | rfl | with_reducible exact True.intro | omega) ?_
      | with_reducible refine ev_ifn (by omega) ?_
      | with_reducible refine ev_ifb ?_
      | with_reducible refine ev_ifnn ?_
      | with_reducible refine ev_iff ?_
      | (refine ev_succ ?_; simp only [if_true, laws_FnExactReducedLaplacian.j0, laws_FnExactReducedLaplacian.j1, laws_FnExactReducedLaplacian.j2, laws_FnExactReducedLaplacian.j3, laws_FnExactReducedLaplacian.j4, laws_FnExactReducedLaplacian.j5, laws_FnExactReducedLaplacian.j6, laws_FnExactReducedLaplacian.j7, laws_FnExactReducedLaplacian.j8])
      )
  · have es : Ev (fun _ : Nat => laws_szGraph.f n l 1048576) (-1) := ev_const fun _ => by rw [hs, if_neg h]
    repeat (first
      | exact Ev.now _
      | dsimp only
      | (with_reducible refine Ev.bind es ?_)
      | with_reducible refine ev_ift (by first | rfl | omega) ?_
      | with_reducible refine ev_ifn (by omega) ?_
      )
end Go.Proofs.Ytplcclifmajcfaa.Pure
end
