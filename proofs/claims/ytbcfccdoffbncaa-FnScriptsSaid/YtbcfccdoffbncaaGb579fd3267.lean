/- Functions of the program as plain Lean functions and that the machine's calls answer as they do, the words of the print that these use, lemmas and plain proofs of laws. Put together by a program of this work that leaves out what nothing uses; Lean checks it. -/
import Derived.Test.YtbcfccdoffbncaaG4577911c2e
import Derived.Test.YtbcfccdoffbncaaGa2b5af435a
import Derived.Test.YtbcfccdoffbncaaGaac7f9c49c
import Derived.Test.YtbcfccdoffbncaaG87c6f8233f
import Derived.Test.YtbcfccdoffbncaaG5deedc886f
section
set_option linter.unusedVariables false
set_option linter.unusedSimpArgs false
namespace Go.Proofs.Ytbcfccdoffbncaa.Pure
open Go.RowKit Go.Proofs.Ytbcfccdoffbncaa.P Go.Proofs.YtbcfccdoffbncaaW.PrintWords Go.Proofs.YtbcfccdoffbncaaW.PrintLast Go.Proofs.YtbcfccdoffbncaaW.PrintMore Go.Proofs.Ytbcfccdoffbncaa.Base Go.Proofs.Ytbcfccdoffbncaa.Loops Go.Proofs.Ytbcfccdoffbncaa.Reduce Go.Proofs.Ytbcfccdoffbncaa.Bits
theorem implBetween_ev (n : Int) (es : List S67) (a b : List Int) (hl : es.length < 4611686018427387904) (ha : a.length < 4611686018427387904) (hb : b.length < 4611686018427387904) (m : Nat) (hm : n = m) (S : Start m es a 0) (T : Start m es b 0) (s t : List Int) (s1 : s.length = m) (t1 : t.length = m)
    (s7 : Ev (fun k => impl_reduce.f k m es a (0 : Nat)) (XD es a s, s)) (t7 : Ev (fun k => impl_reduce.f k m es b (0 : Nat)) (XD es b t, t)) (e : Ev (fun k => impl_AreEquivalent.f k n es a b) true) : Ev (fun k => impl_ScriptBetween.f k n es a b) (liftL (minusL s t), true) := by
  subst hm
  have f := edgesB_facts S.g.1
  have hq := S.q
  have hlen : (minusL s t).length = m := by simp [minusL, s1]
  simp only [impl_ScriptBetween.f]
  refine Ev.bind e (ev_ift rfl ?_)
  refine Ev.bind s7 ?_
  refine Ev.bind t7 ?_
  refine Ev.bind (impl_neg_ev t (by omega)) ?_
  have hp := impl_plus_ev s (negL t) (by omega) (by simp [negL]; omega)
  rw [plus_neg s t (by omega)] at hp
  refine Ev.bind hp ?_
  exact Ev.bind (fromZero_ev _ (by omega) (by omega)) (Ev.now _)
end Go.Proofs.Ytbcfccdoffbncaa.Pure
end
section
set_option linter.unusedVariables false
set_option linter.unusedSimpArgs false
namespace Go.Proofs.Ytbcfccdoffbncaa.Pure
open Go.RowKit Go.Proofs.Ytbcfccdoffbncaa.P Go.Proofs.YtbcfccdoffbncaaW.PrintWords Go.Proofs.YtbcfccdoffbncaaW.PrintLast Go.Proofs.YtbcfccdoffbncaaW.PrintMore Go.Proofs.Ytbcfccdoffbncaa.Base Go.Proofs.Ytbcfccdoffbncaa.Loops
theorem addDivI (a b : List Int) (ha : a.length < 17592186044416) (h : a.length = b.length) : Ev (fun k => impl_AddDivisors.f k a b) (plusL a b, true) := by
  simp only [impl_AddDivisors.f]
  exact ev_ift (by omega) (Ev.bind (impl_plus_ev a b (by omega) h) (Ev.now _))
theorem neg_get {u : List Int} {m : Nat} (hu : u.length = m) (hb : ∀ v : Nat, v < m → -60 ≤ u.getD v 0 ∧ u.getD v 0 ≤ 60) (v : Nat) (hv : v < m) : (negL u).getD v 0 = - u.getD v 0 := by
  unfold negL
  rw [getD_range _ _ _ (by omega)]
  have := hb v hv
  exact wrap_id (by omega) (by omega)
end Go.Proofs.Ytbcfccdoffbncaa.Pure
end
section
set_option linter.unusedVariables false
set_option linter.unusedSimpArgs false
namespace Go.Proofs.Ytbcfccdoffbncaa.Pure
open Go.RowKit Go.Proofs.Ytbcfccdoffbncaa.P Go.Proofs.YtbcfccdoffbncaaW.PrintWords Go.Proofs.YtbcfccdoffbncaaW.PrintLast Go.Proofs.YtbcfccdoffbncaaW.PrintMore Go.Proofs.Ytbcfccdoffbncaa.Base Go.Proofs.Ytbcfccdoffbncaa.Reduce Go.Proofs.Ytbcfccdoffbncaa.Loops Go.Proofs.Ytbcfccdoffbncaa.Bits
theorem red_script {m q : Nat} {es : List S67} {D E s t u : List Int} (S : Start m es D q) (hE : ∀ v, v < m → E.getD v 0 = XF m es D u v)
    (hs : s.getD q 0 = 0) (ht : t.getD q 0 = 0) (hr : Red m (mE m es) q (XF m es D s)) (hr' : Red m (mE m es) q (XF m es E t)) : ∀ v, v < m → s.getD v 0 = u.getD v 0 + t.getD v 0 - u.getD q 0 := by
  have G := gr_of m es S.g
  have e : ∀ v, v < m → XF m es E t v = D.getD v 0 - lap m (mE m es) (fun w => u.getD w 0 + t.getD w 0 - (u.getD q 0)) v := fun v hv => by
    have h1 := lap_sub m (mE m es) (fun w => u.getD w 0 + t.getD w 0) (fun _ => u.getD q 0) v
    have h2 := lap_add m (mE m es) (fun w => u.getD w 0) (fun w => t.getD w 0) v
    have h3 : lap m (mE m es) (fun _ => u.getD q 0) v = 0 := by
      unfold lap
      rw [sumN_congr (g := fun _ => 0) (fun w _ => by simp), sumN_zero]
    (try dsimp only at h1 h2)
    unfold XF
    rw [hE v hv]
    unfold XF
    omega
  have hr2 : Red m (mE m es) q (fun v => D.getD v 0 - lap m (mE m es) (fun w => u.getD w 0 + t.getD w 0 - (u.getD q 0)) v) := by
    refine ⟨fun v h1 h2 => by (try dsimp only); rw [← e v h1]; exact hr'.1 v h1 h2, fun A h1 h2 => ?_⟩
    obtain ⟨v, h3, h4⟩ := hr'.2 A h1 h2
    exact ⟨v, h3, by (try dsimp only); rw [← e v (h1 v h3).1]; exact h4⟩
  exact red_unique (m := mE m es) (D := fun v => D.getD v 0) (f := fun w => s.getD w 0) (g := fun w => u.getD w 0 + t.getD w 0 - (u.getD q 0)) G.nonneg S.q hr hr2 (by (try dsimp only); omega)
theorem lift_val {w : List Int} {f : Nat → Int} {m : Nat} (hw : w.length = m) (h0 : 0 < m) (hf : ∀ v, v < m → w.getD v 0 = f v) (hb : ∀ v, v < m → -100 ≤ f v ∧ f v ≤ 100) :
    ∃ M : Int, (∃ i, i < m ∧ f i = M) ∧ (∀ v, v < m → M ≤ f v ∧ (liftL w).getD v 0 = f v - M) := by
  have hr : ∀ v : Nat, v < m → rd w (v : Int) = f v := fun v hv => by unfold rd; rw [Int.toNat_natCast]; exact hf v hv
  obtain ⟨i, hi, e⟩ := minP_mem w (by omega) w.length (Nat.le_refl _)
  rw [hr i (by omega)] at e
  refine ⟨f i, ⟨i, by omega, rfl⟩, fun v hv => ?_⟩
  have h1 := minP_le w w.length v (by omega)
  rw [hr v hv, e] at h1
  refine ⟨h1, ?_⟩
  unfold liftL
  rw [getD_range _ _ _ (by omega), e, hf v hv]
  have := hb v hv
  have := hb i (by omega)
  exact wrap_id (by omega) (by omega)
theorem diff_val {m : Nat} {es : List S67} {D u : List Int} (S : Start m es D 0) (h8 : es.length ≤ 8) (hDb : ∀ v : Nat, -2 ≤ D.getD v 0 ∧ D.getD v 0 ≤ 6) (hub : ∀ v : Nat, -3 ≤ u.getD v 0 ∧ u.getD v 0 ≤ 3)
    (e1 : (XD es D u).length = m) (e2 : ∀ v, v < m → (XD es D u).getD v 0 = XF m es D u v) (SE : Start m es (XD es D u) 0) : ∀ v, v < m → (plusL D (negL (XD es D u))).getD v 0 = lap m (mE m es) (fun w => u.getD w 0) v := fun v hv => by
  have a := lap_small S.g h8 (B := 3) (by omega) (fun u _ => hub u) v hv
  have b := hDb v
  have c := e2 v hv
  unfold XF at c
  have d := neg_get e1 (fun w hw => SE.b w) v hv
  have hl := S.len
  unfold plusL
  rw [getD_range _ _ _ (by omega), d]
  unfold wrap64
  omega
theorem equivI {m : Nat} {es : List S67} {a b : List Int} (A : Start m es a 0) (B : Start m es b 0)
    (h : ∀ s t : List Int, s.getD 0 0 = 0 → t.getD 0 0 = 0 → Red m (mE m es) 0 (XF m es a s) → Red m (mE m es) 0 (XF m es b t) → ∀ v, v < m → XF m es a s v = XF m es b t v) : Ev (fun k => impl_AreEquivalent.f k m es a b) true := by
  have la := A.len
  have lb := B.len
  have f := edgesB_facts A.g.1
  obtain ⟨c, aQ, _, _, hb⟩ := areEquivalent_both m es a b (by omega) (by omega) (by omega)
  obtain ⟨s, t, _, _, z1, z2, r1, r2, hbt⟩ := hb m rfl A B
  rw [hbt (h s t z1 z2 r1 r2)] at aQ
  exact aQ
theorem minus_val {m : Nat} {s t u : List Int} (s1 : s.length = m) (hub : ∀ v : Nat, -3 ≤ u.getD v 0 ∧ u.getD v 0 ≤ 3) (hst : ∀ v, v < m → s.getD v 0 = u.getD v 0 + t.getD v 0 - u.getD 0 0) : ∀ v, v < m → (minusL s t).getD v 0 = u.getD v 0 - u.getD 0 0 := fun v hv => by
  unfold minusL
  rw [getD_range _ _ _ (by omega)]
  have := hst v hv
  have := hub v
  have := hub 0
  unfold wrap64; omega
theorem minus_val' {m : Nat} {s t u : List Int} (t1 : t.length = m) (hub : ∀ v : Nat, -3 ≤ u.getD v 0 ∧ u.getD v 0 ≤ 3) (hst : ∀ v, v < m → s.getD v 0 = u.getD v 0 + t.getD v 0 - u.getD 0 0) : ∀ v, v < m → (minusL t s).getD v 0 = u.getD 0 0 - u.getD v 0 := fun v hv => by
  unfold minusL
  rw [getD_range _ _ _ (by omega)]
  have := hst v hv
  have := hub v
  have := hub 0
  unfold wrap64; omega
theorem xd_shift {m q : Nat} {es : List S67} {D u p : List Int} {c : Int} (S : Start m es D q) (hul : u.length = m) (hub : ∀ v : Nat, -3 ≤ u.getD v 0 ∧ u.getD v 0 ≤ 3) (p1 : p.length = m) (pb : ∀ v, v < m → 0 ≤ p.getD v 0 ∧ p.getD v 0 ≤ 6) (hp : ∀ v, v < m → p.getD v 0 = u.getD v 0 - c) : XD es D p = XD es D u := by
  have he := (edgesB_facts S.g.1).2.2.2
  have h1 := xd_len m es D p he S.len (start64 S)
  have h2 := xd_len m es D u he S.len (start64 S)
  refine list_eq0 (by omega) fun v hv => ?_
  rw [xd_xf S p1 (fun w hw => by have := pb w hw; omega) v (by omega), xd_xf S hul (fun w hw => by have := hub w; omega) v (by omega)]
  unfold XF
  have a := lap_sub m (mE m es) (fun w => u.getD w 0) (fun _ => c) v
  have b : lap m (mE m es) (fun _ => c) v = 0 := by
    unfold lap
    rw [sumN_congr (g := fun _ => 0) (fun w _ => by simp), sumN_zero]
  have d : lap m (mE m es) (fun w => p.getD w 0) v = lap m (mE m es) (fun w => u.getD w 0 - c) v := lap_congr (by omega) fun w hw => hp w hw
  (try dsimp only at a)
  omega
theorem two_scripts {m : Nat} {es : List S67} {D u : List Int} (S : Start m es D 0) (hul : u.length = m) (hub : ∀ v : Nat, -3 ≤ u.getD v 0 ∧ u.getD v 0 ≤ 3) (SE : Start m es (XD es D u) 0) (e2 : ∀ v, v < m → (XD es D u).getD v 0 = XF m es D u v) :
    ∃ p p' : List Int, Ev (fun k => impl_ScriptBetween.f k m es D (XD es D u)) (p, true) ∧ Ev (fun k => impl_ScriptBetween.f k m es (XD es D u) D) (p', true) ∧ p.length = m ∧ p'.length = m ∧ (∀ v, v < m → 0 ≤ p.getD v 0 ∧ p.getD v 0 ≤ 6) ∧ XD es D p = XD es D u ∧ minP p m = 0 ∧
      ∀ v : Nat, v < m → wrap64 (rd p (v : Int) + rd p' (v : Int)) = wrap64 (rd p 0 + rd p' 0) := by
  obtain ⟨s, s1, s2, s3, s4, s5, s6, s7, _⟩ := reduce_both S
  obtain ⟨t, t1, t2, t3, t4, t5, t6, t7, _⟩ := reduce_both SE
  have hst := red_script S e2 s2 t2 s4 t4
  have f := edgesB_facts S.g.1
  have l1 := S.len
  have l2 := SE.len
  have hq := S.q
  have q1 := equivI S SE (fun s t z1 z2 r1 r2 v hv => (red_same S e2 z1 z2 r1 r2 v hv).symm)
  have q2 := equivI SE S (fun s t z1 z2 r1 r2 v hv => red_same S e2 z2 z1 r2 r1 v hv)
  have aP := implBetween_ev m es D (XD es D u) (by omega) (by omega) (by omega) m rfl S SE s t s1 t1 s7 t7 q1
  have aP' := implBetween_ev m es (XD es D u) D (by omega) (by omega) (by omega) m rfl SE S t s t1 s1 t7 s7 q2
  have w1 : (minusL s t).length = m := by simp [minusL, s1]
  have w2 : (minusL t s).length = m := by simp [minusL, t1]
  obtain ⟨M, ⟨i0, hi0, hM0⟩, hM⟩ := lift_val w1 hq (minus_val s1 hub hst) (fun v hv => by have := hub v; have := hub 0; omega)
  obtain ⟨M', _, hM'⟩ := lift_val w2 hq (minus_val' t1 hub hst) (fun v hv => by have := hub v; have := hub 0; omega)
  clear hst s2 t2 s3 t3 s4 t4 s5 t5 s6 t6 s7 t7 q1 q2
  have p1 : (liftL (minusL s t)).length = m := by rw [liftL_len, w1]
  have p2 : (liftL (minusL t s)).length = m := by rw [liftL_len, w2]
  generalize liftL (minusL s t) = p at *
  generalize liftL (minusL t s) = p' at *
  clear w1 w2 s1 t1
  have pb : ∀ v, v < m → 0 ≤ p.getD v 0 ∧ p.getD v 0 ≤ 6 := fun v hv => by
    obtain ⟨a, b⟩ := hM v hv
    have := hub v
    have := hub i0
    omega
  refine ⟨p, p', aP, aP', p1, p2, pb, xd_shift (c := u.getD 0 0 + M) S hul hub p1 pb (fun v hv => by have := (hM v hv).2; omega), ?_, fun v hv => ?_⟩
  · have hrd : ∀ v : Nat, rd p (v : Int) = p.getD v 0 := fun v => by unfold rd; rw [Int.toNat_natCast]
    have a := minP_le p m i0 hi0
    obtain ⟨j, hj, b⟩ := minP_mem p (by omega) m (by omega)
    rw [hrd] at a b
    have c := pb j (by omega)
    have d := (hM i0 hi0).2
    omega
  · have a := (hM v hv).2
    have b := (hM' v hv).2
    have c := (hM 0 hq).2
    have d := (hM' 0 hq).2
    have x1 : rd p 0 = p.getD 0 0 := rfl
    have x2 : rd p' 0 = p'.getD 0 0 := rfl
    have x3 : rd p (v : Int) = p.getD v 0 := by unfold rd; rw [Int.toNat_natCast]
    have x4 : rd p' (v : Int) = p'.getD v 0 := by unfold rd; rw [Int.toNat_natCast]
    rw [x3, x4, x1, x2, a, b, c, d]
    congr 1
    omega
theorem diff_principal {m : Nat} {es : List S67} {D u : List Int} (S : Start m es D 0) (h8 : es.length ≤ 8) (hDb : ∀ v : Nat, -2 ≤ D.getD v 0 ∧ D.getD v 0 ≤ 6) (hul : u.length = m) (hub : ∀ v : Nat, -3 ≤ u.getD v 0 ∧ u.getD v 0 ≤ 3)
    (e1 : (XD es D u).length = m) (e2 : ∀ v, v < m → (XD es D u).getD v 0 = XF m es D u v) (SE : Start m es (XD es D u) 0) :
    Ev (fun k => impl_AddDivisors.f k D (negL (XD es D u))) (plusL D (negL (XD es D u)), true) ∧ Ev (fun k => impl_IsPrincipal.f k m es (plusL D (negL (XD es D u)))) true := by
  have f := edgesB_facts S.g.1
  have hl := S.len
  have nl : (negL (XD es D u)).length = m := by simp [negL, e1]
  refine ⟨addDivI D (negL (XD es D u)) (by omega) (by omega), ?_⟩
  have hF := diff_val S h8 hDb hub e1 e2 SE
  have fl : (plusL D (negL (XD es D u))).length = m := by simp [plusL, hl]
  generalize plusL D (negL (XD es D u)) = F at *
  have SF : Start m es F 0 := ⟨S.g, S.q, fl, fun v => getD_all fl (by omega) (fun w hw => by
    have a := lap_small S.g h8 (B := 3) (by omega) (fun u _ => hub u) w hw
    rw [hF w hw]; omega) v⟩
  have z0 : ∀ j, (List.replicate m (0 : Int)).getD j 0 = 0 := fun j => by
    rw [List.getD_eq_getElem?_getD, List.getElem?_replicate]; split <;> rfl
  have SZ : Start m es (List.replicate m 0) 0 := ⟨S.g, S.q, by simp, fun v => by rw [z0]; omega⟩
  have hFZ : ∀ v, v < m → F.getD v 0 = XF m es (List.replicate m 0) (negL u) v := fun v hv => by
    unfold XF
    rw [z0, hF v hv]
    have a := lap_congr (m := mE m es) (s := fun w => (negL u).getD w 0) (t := fun w => - u.getD w 0) hv (fun w hw => neg_get hul (fun w _ => by have := hub w; omega) w hw)
    have b := lap_neg m (mE m es) (fun w => u.getD w 0) v
    omega
  have q3 := equivI SF SZ (fun s t y1 y2 r1 r2 v hv => red_same SZ hFZ y2 y1 r2 r1 v hv)
  simp only [impl_IsPrincipal.f]
  refine Ev.bind (start_ok SF).2.1 (ev_ift rfl (ev_ift (by omega) (ev_ift (by omega) ?_)))
  rw [Int.toNat_natCast]
  exact Ev.bind q3 (Ev.now _)
theorem scripts_loop {m : Nat} (hm : m ≤ 6) (h0 : 0 < m) {es : List S67} {D E p p' N F : List Int} (p1 : p.length = m) (p2 : p'.length = m) (hmin : minP p m = 0) (hsum : ∀ v : Nat, v < m → wrap64 (rd p (v : Int) + rd p' (v : Int)) = wrap64 (rd p 0 + rd p' 0))
    (aN : Ev (fun k => impl_NegateDivisor.f k E) N) (aD : Ev (fun k => impl_AddDivisors.f k D N) (F, true)) (aI : Ev (fun k => impl_IsPrincipal.f k m es F) true) : Ev (fun k => laws_FnScripts.l0 k D E p p' (rd p 0) (p.length : Int) 0 (m : Int) es) true := by
  have loop : ∀ (d i : Nat), i + d = m → Ev (fun k => laws_FnScripts.l0 k D E p p' (minP p i) (p.length : Int) (i : Int) (m : Int) es) true := by
    intro d
    induction d with
    | zero =>
      intro i hi
      obtain rfl : i = m := by omega
      refine ev_succ ?_
      simp only [laws_FnScripts.l0]
      refine ev_ifn (by omega) ?_
      refine Ev.bind aN ?_
      refine Ev.bind aD ?_
      exact ev_ift hmin (ev_ift rfl (Ev.bind aI (Ev.now _)))
    | succ d ih =>
      intro i hi
      have h1 := ih (i + 1) (by omega)
      simp only [minP] at h1
      refine ev_succ ?_
      simp only [laws_FnScripts.l0]
      refine ev_ift (by omega) (ev_succ ?_)
      simp only [laws_FnScripts.j4, wrap_succ (show i < 4611686018427387904 by omega)]
      exact ev_ift (by omega) (ev_ift (by omega) (ev_ift (by omega) (ev_ift (by omega) (ev_ift (by omega) (ev_ift (hsum i (by omega)) h1)))))
  exact loop m 0 (by omega)
theorem lawScripts (code : List Int) (hc : code.length ≤ 9223372036854775807) : Ev (fun k => laws_FnScripts.f k code) true := by
  simp only [laws_FnScripts.f]
  by_cases h20 : (code.length : Int) > 1048576
  · exact ev_ift h20 (Ev.now _)
  refine ev_ifn h20 ?_
  obtain ⟨n, es, hg, G⟩ := makeGraph_ex code (by omega)
  obtain ⟨m, rfl⟩ : ∃ m : Nat, n = m := ⟨n.toNat, by have := G.lo; omega⟩
  have glo := G.lo
  have ghi := G.hi
  have h8 := G.len
  obtain ⟨D, hdv, hDl, hDb⟩ := makeDivisor_ex code (by omega) 20 (by omega) m (by omega) es
  obtain ⟨u, hscr, hul, hub⟩ := makeScript_ex code (by omega) 40 (by omega) m (by omega) es
  have S : Start m es D 0 := ⟨G.g, by omega, hDl, fun w => by have := hDb w; omega⟩
  obtain ⟨SE, e1, e2⟩ := start_fired S h8 hDb hul hub
  have aF := (fireV S hul (fun w _ => by have := hub w; omega)).1
  obtain ⟨p, p', aP, aP', p1, p2, pb, hXp, hmin, hsum⟩ := two_scripts S hul hub SE e2
  have aX := (fireV S p1 (fun w hw => by have := pb w hw; omega)).1
  rw [hXp] at aX
  have aE := sameL_ev (XD es D u) (by omega)
  obtain ⟨aD, aI⟩ := diff_principal S h8 hDb hul hub e1 e2 SE
  have l0 := scripts_loop (by omega) (by omega) p1 p2 hmin hsum (impl_neg_ev (XD es D u) (by omega)) aD aI
  clear aD aI hmin hsum pb hub hDb
  refine ev_succ ?_
  simp only [laws_FnScripts.j0]
  refine Ev.bind hg ?_
  refine Ev.bind hdv ?_
  refine Ev.bind hscr ?_
  repeat (first
    | exact Ev.now _
    | exact l0
    | dsimp only
    | (with_reducible refine Ev.bind aF ?_) | (with_reducible refine Ev.bind aP ?_) | (with_reducible refine Ev.bind aP' ?_) | (with_reducible refine Ev.bind aX ?_) | (with_reducible refine Ev.bind aE ?_)
    | with_reducible refine ev_ift (by first | rfl | with_reducible exact True.intro | omega) ?_
    | with_reducible refine ev_ifn (by omega) ?_
    | with_reducible refine ev_ifnn ?_
    | with_reducible refine ev_iff ?_
    | (refine ev_succ ?_; simp only [if_true, laws_FnScripts.j1, laws_FnScripts.j2])
    )
theorem FnScripts : StatFnScripts := by
  intro code ⟨hc, _⟩
  have hc' : code.length ≤ 9223372036854775807 := by unfold maxLen at hc; omega
  exact Ev.rounds (r := true) (lawScripts code hc')
end Go.Proofs.Ytbcfccdoffbncaa.Pure
end
