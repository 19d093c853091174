/- Functions of the program as plain Lean functions and that the machine's calls answer as they do, the words of the print that these use, lemmas and plain proofs of laws. Put together by a program of this work that leaves out what nothing uses; Lean checks it. -/
import Derived.Test.YtbcfccdoffbncaaG5daffe5293
import Derived.Test.YtbcfccdoffbncaaG761cdaac89
import Derived.Test.YtbcfccdoffbncaaG69d53c0c60
import Derived.Test.YtbcfccdoffbncaaGe3f21df5fd
import Derived.Test.YtbcfccdoffbncaaGb2c191ce24
import Derived.Test.YtbcfccdoffbncaaGcdcc453246
import Derived.Test.YtbcfccdoffbncaaG9e2a858fe3
section
set_option linter.unusedVariables false
set_option linter.unusedSimpArgs false
namespace Go.Proofs.Ytbcfccdoffbncaa.Pure
open Go.RowKit Go.Proofs.Ytbcfccdoffbncaa.P Go.Proofs.YtbcfccdoffbncaaW.PrintWords Go.Proofs.YtbcfccdoffbncaaW.PrintLast Go.Proofs.YtbcfccdoffbncaaW.PrintMore Go.Proofs.Ytbcfccdoffbncaa.Base Go.Proofs.Ytbcfccdoffbncaa.Reduce Go.Proofs.Ytbcfccdoffbncaa.Loops Go.Proofs.Ytbcfccdoffbncaa.Bits
theorem fireI {n q : Nat} {es : List S67} {D : List Int} (S : Start n es D q) (hl : es.length ≤ 12) (hn : n ≤ 6) (r s : List Int) (hr : r.length ≤ n) (hs : s.length = n) (hb : ∀ w, w < n → -500000000000 ≤ s.getD w 0 ∧ s.getD w 0 ≤ 500000000000) (res : List Int × List Int)
    (h : Ev (fun k => impl_reduce.l1 k (q : Int) (XD es D (bumpTo r s n)) (bumpTo r s n) n es) res) :
    ∀ (d i : Nat), i + d = n → Ev (fun k => impl_reduce.l2 k (q : Int) (XD es D (bumpTo r s i)) (bumpTo r s i) r (n : Int) (i : Int) n es) res := by
  have he := (edgesB_facts S.g.1).2.2.2
  intro d
  induction d with
  | zero =>
    intro i hi
    obtain rfl : i = n := by omega
    refine ev_succ ?_
    simp only [impl_reduce.l2]
    exact ev_ifn (by omega) h
  | succ d ih =>
    intro i hi
    have hnx := ih (i + 1) (by omega)
    have hbl : (bumpTo r s i).length = n := by rw [bump_len]; exact hs
    have hbg := bump_get n r s hs i (by omega) i
    rw [if_neg (by omega)] at hbg
    have hbi := hb i (by omega)
    have ew : wrap64 ((bumpTo r s i).getD i 0 + 1) = (bumpTo r s i).getD i 0 + 1 := wrap_id (by omega) (by omega)
    simp only [bumpTo] at hnx
    refine ev_succ ?_
    simp only [impl_reduce.l2, wrap_succ (show i < 4611686018427387904 by omega)]
    refine ev_ift (by omega) (Ev.bind (contains_ev r i (by omega)) ?_)
    by_cases c : (i : Int) ∈ r
    · rw [if_pos c] at hnx
      exact ev_ift (by simp [c]) hnx
    · rw [if_neg c] at hnx
      refine ev_ifn (by simp [c]) (Ev.bind (impl_fire_ev n es (XD es D (bumpTo r s i)) i 1 he (xd_len n es D _ he S.len (start64 S)) hn (by omega) n) ?_)
      rw [xd_fire n es D _ he S.len hbl (start64 S) i (by omega) 1]
      simp only [rd_n, ew, Int.toNat_natCast]
      exact ev_ift (by omega) (ev_ift (by omega) hnx)
theorem fireS {n q : Nat} {es : List S67} {D : List Int} (S : Start n es D q) (hl : es.length ≤ 12) (hn : n ≤ 6) (r s : List Int) (hr : r.length ≤ n) (hs : s.length = n) (hb : ∀ w, w < n → -500000000000 ≤ s.getD w 0 ∧ s.getD w 0 ≤ 500000000000) (res : List Int × List Int)
    (h : Ev (fun k => spec_l05Reduce.l2 k D (q : Int) (bumpTo r s n) (XD es D (bumpTo r s n)) n es) res) :
    ∀ (d i : Nat), i + d = n → Ev (fun k => spec_l05Reduce.l3 k D (q : Int) (bumpTo r s i) r (i : Int) n es) res := by
  have he := (edgesB_facts S.g.1).2.2.2
  intro d
  induction d with
  | zero =>
    intro i hi
    obtain rfl : i = n := by omega
    refine ev_succ ?_
    simp only [spec_l05Reduce.l3]
    exact ev_ifn (by omega) (Ev.bind (spec_fire_ev i es D (bumpTo r s i) he S.len (by rw [bump_len]; exact hs) hn (by omega) i) h)
  | succ d ih =>
    intro i hi
    have hnx := ih (i + 1) (by omega)
    have hbl : (bumpTo r s i).length = n := by rw [bump_len]; exact hs
    have hbg := bump_get n r s hs i (by omega) i
    rw [if_neg (by omega)] at hbg
    have hbi := hb i (by omega)
    have ew : wrap64 ((bumpTo r s i).getD i 0 + 1) = (bumpTo r s i).getD i 0 + 1 := wrap_id (by omega) (by omega)
    simp only [bumpTo] at hnx
    refine ev_succ ?_
    simp only [spec_l05Reduce.l3, wrap_succ (show i < 4611686018427387904 by omega)]
    refine ev_ift (by omega) (Ev.bind (has_ev r i (by omega)) ?_)
    by_cases c : (i : Int) ∈ r
    · rw [if_pos c] at hnx
      exact ev_ift (by simp [c]) hnx
    · rw [if_neg c] at hnx
      simp only [rd_n, ew, Int.toNat_natCast]
      exact ev_ifn (by simp [c]) (ev_ift (by omega) (ev_ift (by omega) hnx))
theorem start_sum {n q : Nat} {es : List S67} {D s1 : List Int} {σ : Nat → Int} (S : Start n es D q) (R : Resc n es q σ) (hn : n ≤ 6) (h1 : Inv1 n q σ s1) : sumN (XF n es D s1) n - XF n es D s1 q ≤ 16287540 := by
  have G := gr_of n es S.g
  have e1 : sumN (XF n es D s1) n = sumN (fun v => D.getD v 0) n := by
    have := sumN_sub (fun v => D.getD v 0) (fun v => lap n (mE n es) (fun w => s1.getD w 0) v) n
    rw [lap_sum n (mE n es) G.sym] at this
    rw [show sumN (XF n es D s1) n = _ from this]; omega
  have e2 : sumN (fun v => D.getD v 0) n ≤ sumN (fun _ => 60) n := sumN_le fun v _ => (S.b v).2
  rw [sumN_const] at e2
  have e3 : lap n (mE n es) (fun w => s1.getD w 0) q ≤ sumN (fun w => mE n es q w * 1357260) n := by
    unfold lap
    refine sumN_le fun w hw => Int.mul_le_mul_of_nonneg_left ?_ (G.nonneg q w)
    show s1.getD q 0 - s1.getD w 0 ≤ 1357260
    have := h1.b w hw
    have := R.b w
    have := h1.z
    omega
  rw [sumN_mul'] at e3
  have e4 := G.val q S.q
  have e5 : sumN (fun i => mE n es q i) n = sumN (mE n es q) n := rfl
  have e6 := (S.b q).1
  rw [e5] at e3
  show sumN (XF n es D s1) n - (D.getD q 0 - lap n (mE n es) (fun w => s1.getD w 0) q) ≤ 16287540
  omega
theorem phase2 {n q : Nat} {es : List S67} {D s1 : List Int} {σ : Nat → Int} (S : Start n es D q) (R : Resc n es q σ) (hl : es.length ≤ 12) (hn : n ≤ 6) (h1 : Inv1 n q σ s1) (hnd1 : ∀ v, v < n → v ≠ q → 0 ≤ XF n es D s1 v) :
    ∀ (c : Nat) (s : List Int), s.length = n → s.getD q 0 = 0 → (∀ w, w < n → s1.getD w 0 ≤ s.getD w 0 ∧ s.getD w 0 - s1.getD w 0 ≤ 368440442340) → (∀ v, v < n → v ≠ q → 0 ≤ XF n es D s v) →
      sumN (fun w => 368440442340 - (s.getD w 0 - s1.getD w 0)) n ≤ c →
      ∃ s2, s2.length = n ∧ s2.getD q 0 = 0 ∧ (∀ w, w < n → -500000000000 ≤ s2.getD w 0 ∧ s2.getD w 0 ≤ 500000000000) ∧ Red n (mE n es) q (XF n es D s2) ∧
        Ev (fun k => impl_reduce.l1 k (q : Int) (XD es D s) s n es) (XD es D s2, s2) ∧ Ev (fun k => spec_l05Reduce.l2 k D (q : Int) s (XD es D s) n es) (XD es D s2, s2) := by
  have he := (edgesB_facts S.g.1).2.2.2
  have G := gr_of n es S.g
  have bnd : ∀ s : List Int, (∀ w, w < n → s1.getD w 0 ≤ s.getD w 0 ∧ s.getD w 0 - s1.getD w 0 ≤ 368440442340) → ∀ w, w < n → -500000000000 ≤ s.getD w 0 ∧ s.getD w 0 ≤ 500000000000 := by
    intro s hs w hw
    have := hs w hw
    have := h1.b w hw
    have := R.b w
    omega
  intro c
  have step : ∀ s : List Int, s.length = n → s.getD q 0 = 0 → (∀ w, w < n → s1.getD w 0 ≤ s.getD w 0 ∧ s.getD w 0 - s1.getD w 0 ≤ 368440442340) → (∀ v, v < n → v ≠ q → 0 ≤ XF n es D s v) →
      (∃ s2, s2.length = n ∧ s2.getD q 0 = 0 ∧ (∀ w, w < n → -500000000000 ≤ s2.getD w 0 ∧ s2.getD w 0 ≤ 500000000000) ∧ Red n (mE n es) q (XF n es D s2) ∧
        Ev (fun k => impl_reduce.l1 k (q : Int) (XD es D s) s n es) (XD es D s2, s2) ∧ Ev (fun k => spec_l05Reduce.l2 k D (q : Int) s (XD es D s) n es) (XD es D s2, s2)) ∨
      ∃ s' : List Int, s'.length = n ∧ s'.getD q 0 = 0 ∧ (∀ w, w < n → s1.getD w 0 ≤ s'.getD w 0 ∧ s'.getD w 0 - s1.getD w 0 ≤ 368440442340) ∧ (∀ v, v < n → v ≠ q → 0 ≤ XF n es D s' v) ∧
        sumN (fun w => 368440442340 - (s'.getD w 0 - s1.getD w 0)) n < sumN (fun w => 368440442340 - (s.getD w 0 - s1.getD w 0)) n ∧
        ∀ res, (Ev (fun k => impl_reduce.l1 k (q : Int) (XD es D s') s' n es) res → Ev (fun k => impl_reduce.l1 k (q : Int) (XD es D s) s n es) res) ∧
          (Ev (fun k => spec_l05Reduce.l2 k D (q : Int) s' (XD es D s') n es) res → Ev (fun k => spec_l05Reduce.l2 k D (q : Int) s (XD es D s) n es) res) := by
    intro s hs hq0 hf hnd
    have hbs := bnd s hf
    have hX : ∀ v, v < n → (XD es D s).getD v 0 = XF n es D s v := fun v hv => xd_xf S hs (fun w hw => by have := hbs w hw; omega) v hv
    obtain ⟨r, b1, b2, b3, b4, b5, b6⟩ := burn_both n hn es hl (XD es D s) (xd_len n es D s he S.len (start64 S)) q S.q
    have hrl := binv_len b3
    by_cases hr : r.length = n
    · refine Or.inl ⟨s, hs, hq0, hbs, red_of n es (XD es D s) r q _ hX hnd b3 hr b4 b6, ev_succ ?_, ev_succ ?_⟩
      · simp only [impl_reduce.l1]
        exact Ev.bind b1 (ev_ift (by omega) (Ev.now _))
      · simp only [spec_l05Reduce.l2]
        exact Ev.bind b2 (ev_ift (by omega) (Ev.now _))
    · have hqr := burn_mem b4
      have hbg := bump_get n r s hs n (Nat.le_refl _)
      have hok := bump_ok n es D s (XD es D s) r q hs hX hnd b3 hqr b5
      have hle : ∀ w, w < n → s1.getD w 0 ≤ (bumpTo r s n).getD w 0 := by
        intro w hw
        have := hf w hw
        rw [hbg w]
        split <;> omega
      have hz : (bumpTo r s n).getD q 0 = 0 := by
        rw [hbg q, if_neg (fun h => h.2 hqr), hq0]; rfl
      have hfb := fire_bound G S.q (D := XF n es D s1) (f := fun w => (bumpTo r s n).getD w 0 - s1.getD w 0) (M := 16287540) hnd1 (start_sum S R hn h1) (by
        show (bumpTo r s n).getD q 0 - s1.getD q 0 = 0
        rw [hz, h1.z]; rfl) (fun v hv => by have := hle v hv; (try dsimp only); omega) (fun v hv hvq => by
        have h := hok v hv hvq
        have hs' := lap_sub n (mE n es) (fun w => (bumpTo r s n).getD w 0) (fun w => s1.getD w 0) v
        unfold XF at h ⊢
        rw [hs']
        omega)
      obtain ⟨v, hv, hvr⟩ := binv_some b3 hr
      refine Or.inr ⟨bumpTo r s n, by rw [bump_len]; exact hs, hz, fun w hw => ⟨hle w hw, ?_⟩, hok, ?_, fun res => ⟨fun h => ev_succ ?_, fun h => ev_succ ?_⟩⟩
      · have := hfb w hw
        (try dsimp only at this)
        omega
      · have hu := sumN_upd (fun w => 368440442340 - (s.getD w 0 - s1.getD w 0)) n v (368440442340 - (s.getD v 0 - s1.getD v 0) - 1) hv
        have hle2 : sumN (fun w => 368440442340 - ((bumpTo r s n).getD w 0 - s1.getD w 0)) n ≤ sumN (fun i => if i = v then 368440442340 - (s.getD v 0 - s1.getD v 0) - 1 else (fun w => 368440442340 - (s.getD w 0 - s1.getD w 0)) i) n := by
          refine sumN_le fun w hw => ?_
          dsimp only
          rw [hbg w]
          by_cases e : w = v
          · subst e
            rw [if_pos ⟨hw, hvr⟩, if_pos rfl]; omega
          · rw [if_neg e]
            split <;> omega
        rw [hu] at hle2
        omega
      · simp only [impl_reduce.l1]
        refine Ev.bind b1 (ev_ifn (by omega) ?_)
        rw [hs]
        exact fireI S hl hn r s hrl hs hbs res h n 0 (by omega)
      · simp only [spec_l05Reduce.l2]
        refine Ev.bind b2 (ev_ifn (by omega) ?_)
        exact fireS S hl hn r s hrl hs hbs res h n 0 (by omega)
  induction c with
  | zero =>
    intro s hs hq0 hf hnd hc
    rcases step s hs hq0 hf hnd with h | ⟨s', a1, a2, a3, a4, a5, a6⟩
    · exact h
    · exfalso
      have : 0 ≤ sumN (fun w => 368440442340 - (s'.getD w 0 - s1.getD w 0)) n := sumN_nonneg fun w hw => by have := a3 w hw; omega
      omega
  | succ c ih =>
    intro s hs hq0 hf hnd hc
    rcases step s hs hq0 hf hnd with h | ⟨s', a1, a2, a3, a4, a5, a6⟩
    · exact h
    · obtain ⟨s2, c1, c2, c3, c4, c5, c6⟩ := ih s' a1 a2 a3 a4 (by omega)
      exact ⟨s2, c1, c2, c3, c4, (a6 _).1 c5, (a6 _).2 c6⟩
end Go.Proofs.Ytbcfccdoffbncaa.Pure
end
section
set_option linter.unusedVariables false
set_option linter.unusedSimpArgs false
namespace Go.Proofs.Ytbcfccdoffbncaa.Pure
open Go.RowKit Go.Proofs.Ytbcfccdoffbncaa.P Go.Proofs.YtbcfccdoffbncaaW.PrintWords Go.Proofs.YtbcfccdoffbncaaW.PrintLast Go.Proofs.YtbcfccdoffbncaaW.PrintMore Go.Proofs.Ytbcfccdoffbncaa.Base Go.Proofs.Ytbcfccdoffbncaa.Loops
theorem getD_set0 (x : List Int) (i j : Nat) (c : Int) (hi : i < x.length) : (x.set i c).getD j 0 = if i = j then c else x.getD j 0 := by
  simp only [List.getD_eq_getElem?_getD, List.getElem?_set]
  by_cases e : i = j
  · subst e; simp [hi]
  · simp [e]
theorem list_eq0 {x y : List Int} (h : x.length = y.length) (hu : ∀ u, u < x.length → x.getD u 0 = y.getD u 0) : x = y := by
  refine List.ext_getElem h fun i h1 h2 => ?_
  have := hu i h1
  simp only [List.getD_eq_getElem?_getD, List.getElem?_eq_getElem h1, List.getElem?_eq_getElem h2, Option.getD_some] at this
  exact this
theorem inplace_ev (l R : List Int) (hR : R.length = l.length) (g : Nat → List Int → Int → Option (List Int)) (hend : ∀ x : List Int, x.length = l.length → Ev (fun k => g k x (l.length : Int)) x)
    (hstep : ∀ (x : List Int) (i : Nat), i < l.length → x.length = l.length → x.getD i 0 = l.getD i 0 → ∀ r, Ev (fun k => g k (x.set i (R.getD i 0)) ((i + 1 : Nat) : Int)) r → Ev (fun k => g k x (i : Int)) r) :
    Ev (fun k => g k l 0) R := by
  have main : ∀ (d i : Nat) (x : List Int), i + d = l.length → x.length = l.length → (∀ j, j < i → x.getD j 0 = R.getD j 0) → (∀ j, i ≤ j → x.getD j 0 = l.getD j 0) → Ev (fun k => g k x (i : Int)) R := by
    intro d
    induction d with
    | zero =>
      intro i x hi hx h1 _
      obtain rfl : i = l.length := by omega
      have e : x = R := list_eq0 (by omega) (fun u hu => h1 u (by omega))
      subst e
      exact hend x hx
    | succ d ih =>
      intro i x hi hx h1 h2
      refine hstep x i (by omega) hx (h2 i (Nat.le_refl _)) _ (ih (i + 1) _ (by omega) (by simpa using hx) (fun j hj => ?_) (fun j hj => ?_))
      · rw [getD_set0 _ _ _ _ (by omega)]
        by_cases e : i = j
        · subst e; rw [if_pos rfl]
        · rw [if_neg e]; exact h1 j (by omega)
      · rw [getD_set0 _ _ _ _ (by omega), if_neg (by omega)]
        exact h2 j (by omega)
  exact main l.length 0 l (by omega) rfl (fun j hj => by omega) (fun j _ => rfl)
theorem getD_range (F : Nat → Int) (m i : Nat) (h : i < m) : ((List.range m).map F).getD i 0 = F i := by
  simp [List.getD_eq_getElem?_getD, h]
theorem copyI_eq (l : List Int) (h : l.length < 17592186044416) : impl_copyInts.f l = some l := by
  unfold impl_copyInts.f
  rw [if_pos (by simpa using h)]; rfl
end Go.Proofs.Ytbcfccdoffbncaa.Pure
end
section
set_option linter.unusedVariables false
set_option linter.unusedSimpArgs false
namespace Go.Proofs.Ytbcfccdoffbncaa.Pure
open Go.RowKit Go.Proofs.Ytbcfccdoffbncaa.P Go.Proofs.YtbcfccdoffbncaaW.PrintWords Go.Proofs.YtbcfccdoffbncaaW.PrintLast Go.Proofs.YtbcfccdoffbncaaW.PrintMore Go.Proofs.Ytbcfccdoffbncaa.Base Go.Proofs.Ytbcfccdoffbncaa.Reduce Go.Proofs.Ytbcfccdoffbncaa.Loops Go.Proofs.Ytbcfccdoffbncaa.Bits
theorem reduce_both {n q : Nat} {es : List S67} {D : List Int} (S : Start n es D q) :
    ∃ s : List Int, s.length = n ∧ s.getD q 0 = 0 ∧ (∀ w, w < n → -500000000000 ≤ s.getD w 0 ∧ s.getD w 0 ≤ 500000000000) ∧ Red n (mE n es) q (XF n es D s) ∧ (∀ v, v < n → (XD es D s).getD v 0 = XF n es D s v) ∧ (XD es D s).length = n ∧
      Ev (fun k => impl_reduce.f k n es D q) (XD es D s, s) ∧ Ev (fun k => spec_l05Reduce.f k n es D q) (XD es D s, s) := by
  obtain ⟨f1, f2, f3, he⟩ := edgesB_facts S.g.1
  have hn : n ≤ 6 := by omega
  have G := gr_of n es S.g
  obtain ⟨σ, r1, r2, r3⟩ := rescue G S.q
  have R : Resc n es q σ := ⟨r1, r2, r3⟩
  have h0 : Inv1 n q σ (List.replicate n 0) := by
    have hz : ∀ w, (List.replicate n (0 : Int)).getD w 0 = 0 := by
      intro w
      rw [List.getD_eq_getElem?_getD, List.getElem?_replicate]
      split <;> rfl
    exact ⟨by simp, hz q, fun w _ => by rw [hz w]; have := R.b w; omega⟩
  have hx0 : XD es D (List.replicate n 0) = D := by
    refine list_eq0 (by rw [xd_len n es D _ he S.len (start64 S), S.len]) fun u hu => ?_
    rw [xd_len n es D _ he S.len (start64 S)] at hu
    rw [xd_xf S h0.len (fun w hw => inv1_b R h0 w hw) u hu]
    unfold XF
    have : lap n (mE n es) (fun w => (List.replicate n (0 : Int)).getD w 0) u = lap n (mE n es) (fun _ => 0) u := lap_congr hu fun w _ => by
      show (List.replicate n (0 : Int)).getD w 0 = 0
      rw [List.getD_eq_getElem?_getD, List.getElem?_replicate]
      split <;> rfl
    rw [this]
    have h2 : lap n (mE n es) (fun _ => 0) u = 0 := by
      unfold lap
      rw [sumN_congr (g := fun _ => 0) (fun w _ => by simp), sumN_zero]
    rw [h2]; omega
  obtain ⟨a, a1, a2, a3⟩ := phase1I S R f3 hn (sumN (fun w => σ w + (List.replicate n (0 : Int)).getD w 0) n).toNat _ h0 (by have := inv1_sum h0; omega)
  obtain ⟨b, b1, b2, b3⟩ := phase1S S R f3 hn (sumN (fun w => σ w + (List.replicate n (0 : Int)).getD w 0) n).toNat _ h0 (by have := inv1_sum h0; omega)
  have two : ∀ s1, Inv1 n q σ s1 → (∀ v, v < n → v ≠ q → 0 ≤ XF n es D s1 v) → ∃ s2 : List Int, s2.length = n ∧ s2.getD q 0 = 0 ∧ (∀ w, w < n → -500000000000 ≤ s2.getD w 0 ∧ s2.getD w 0 ≤ 500000000000) ∧ Red n (mE n es) q (XF n es D s2) ∧
        Ev (fun k => impl_reduce.l1 k (q : Int) (XD es D s1) s1 n es) (XD es D s2, s2) ∧ Ev (fun k => spec_l05Reduce.l2 k D (q : Int) s1 (XD es D s1) n es) (XD es D s2, s2) := fun s1 h1 h2 =>
    phase2 S R f3 hn h1 h2 (sumN (fun w => 368440442340 - (s1.getD w 0 - s1.getD w 0)) n).toNat s1 h1.len h1.z (fun w _ => by omega) h2 (by
      have : 0 ≤ sumN (fun w => 368440442340 - (s1.getD w 0 - s1.getD w 0)) n := sumN_nonneg fun w _ => by omega
      omega)
  obtain ⟨s, s1, s2, s3, s4, s5, _⟩ := two a a1 a2
  obtain ⟨t, t1, t2, t3, t4, _, t5⟩ := two b b1 b2
  have hst : s = t := list_eq0 (by omega) fun u hu => by
    have := red_unique (m := mE n es) (D := fun v => D.getD v 0) (f := fun w => s.getD w 0) (g := fun w => t.getD w 0) G.nonneg S.q s4 t4 (by show s.getD q 0 = t.getD q 0; omega) u (by omega)
    exact this
  subst hst
  have hdl := S.len
  refine ⟨s, s1, s2, s3, s4, fun v hv => xd_xf S s1 (fun w hw => by have := s3 w hw; omega) v hv, xd_len n es D s he S.len (start64 S), ?_, ?_⟩
  · simp only [impl_reduce.f, copyI_eq D (by omega), Option.bind_some]
    refine ev_ift (by omega) (ev_ift (by omega) (Ev.bind (inDebt_ev D q (by omega)) ?_))
    rw [Int.toNat_natCast]
    have := a3 _ s5
    rw [hx0] at this
    exact this
  · simp only [spec_l05Reduce.f, Option.bind_some, List.length_nil, List.nil_append]
    refine ev_ift (by omega) (ev_ift (by omega) (ev_ift (by omega) ?_))
    rw [Int.toNat_natCast]
    have := b3 _ t5
    rw [hx0] at this
    exact this
theorem drawn_gr {m : Nat} {es : List S67} (g : GraphP m es) (h8 : es.length ≤ 8) : Gr m (mE m es) ∧ ∀ v, v < m → sumN (mE m es v) m ≤ 8 := by
  refine ⟨gr_of m es g, fun v hv => ?_⟩
  obtain ⟨f1, f2, f3, f4⟩ := edgesB_facts g.1
  have := val_le m v hv es (fun e he => f4 e he)
  omega
theorem red_same {m q : Nat} {es : List S67} {D E s t u : List Int} (S : Start m es D q) (hE : ∀ v, v < m → E.getD v 0 = XF m es D u v)
    (hs : s.getD q 0 = 0) (ht : t.getD q 0 = 0) (hr : Red m (mE m es) q (XF m es D s)) (hr' : Red m (mE m es) q (XF m es E t)) : ∀ v, v < m → XF m es E t v = XF m es D s v := by
  have G := gr_of m es S.g
  have e : ∀ v, v < m → XF m es E t v = D.getD v 0 - lap m (mE m es) (fun w => u.getD w 0 + t.getD w 0 - (u.getD q 0)) v := fun v hv => by
    have h1 := lap_sub m (mE m es) (fun w => u.getD w 0 + t.getD w 0) (fun _ => u.getD q 0) v
    have h2 := lap_add m (mE m es) (fun w => u.getD w 0) (fun w => t.getD w 0) v
    have h3 : lap m (mE m es) (fun _ => u.getD q 0) v = 0 := by
      unfold lap
      rw [sumN_congr (g := fun _ => 0) (fun w _ => by simp), sumN_zero]
    (try dsimp only at h1 h2)
    unfold XF
    rw [hE v hv]
    unfold XF
    omega
  have hr2 : Red m (mE m es) q (fun v => D.getD v 0 - lap m (mE m es) (fun w => u.getD w 0 + t.getD w 0 - (u.getD q 0)) v) := by
    refine ⟨fun v h1 h2 => by (try dsimp only); rw [← e v h1]; exact hr'.1 v h1 h2, fun A h1 h2 => ?_⟩
    obtain ⟨v, h3, h4⟩ := hr'.2 A h1 h2
    exact ⟨v, h3, by (try dsimp only); rw [← e v (h1 v h3).1]; exact h4⟩
  have hu := red_unique (m := mE m es) (D := fun v => D.getD v 0) (f := fun w => s.getD w 0) (g := fun w => u.getD w 0 + t.getD w 0 - (u.getD q 0)) G.nonneg S.q hr hr2 (by (try dsimp only); omega)
  intro v hv
  rw [e v hv]
  unfold XF
  rw [lap_congr hv hu]
end Go.Proofs.Ytbcfccdoffbncaa.Pure
end
section
namespace Go.Proofs.Ytbcfccdoffbncaa.P
open Go.RowKit Go.Proofs.YtbcfccdoffbncaaW.PrintWords Go.Proofs.YtbcfccdoffbncaaW.PrintLast Go.Proofs.YtbcfccdoffbncaaW.PrintMore
attribute [local go_sem] max2_int min2_int max_two min_two max_three min_three max_four min_four
set_option linter.unusedVariables false
set_option linter.unusedSimpArgs false
def spec_l05Ok.f (k : Nat) (a0_0 : Int) (l0_1 : List (S67)) (l1 : List Int) (a2 : Int) : Option (Bool) := (spec_DivisorOk.f k a0_0 l0_1 l1).bind fun t207 => (if t207 = true then ((spec_l01In.f a2 0 (wrap64 (a0_0 - 1))).bind fun t208 => (some t208)) else (some false))
end Go.Proofs.Ytbcfccdoffbncaa.P
end
section
set_option linter.unusedVariables false
set_option linter.unusedSimpArgs false
namespace Go.Proofs.Ytbcfccdoffbncaa.Pure
open Go.RowKit Go.Proofs.Ytbcfccdoffbncaa.P Go.Proofs.YtbcfccdoffbncaaW.PrintWords Go.Proofs.YtbcfccdoffbncaaW.PrintLast Go.Proofs.YtbcfccdoffbncaaW.PrintMore Go.Proofs.Ytbcfccdoffbncaa.Base Go.Proofs.Ytbcfccdoffbncaa.Bits Go.Proofs.Ytbcfccdoffbncaa.Loops
theorem copy_eq (l : List Int) (h : l.length < 17592186044416) : impl_copyInts.f l = some l := by
  unfold impl_copyInts.f
  rw [if_pos (by simpa using h)]; rfl
theorem impl_fired_ev (n : Nat) (es : List S67) (d s : List Int) (he : ∀ e ∈ es, okE n e) (hd : d.length = n) (hs : s.length = n) (hn : n ≤ 6) (hl : es.length < 4611686018427387904) (nn : Int) :
    Ev (fun k => impl_fired.f k nn es d s) (fireFrom es 0 s d) := by
  simp only [impl_fired.f, copy_eq d (by omega), Option.bind_some]
  have main : ∀ (rest : List Int) (i : Nat) (x : List Int), i ≤ s.length → s.drop i = rest → x.length = n → Ev (fun k => impl_fired.l0 k x s (s.length : Int) (i : Int) nn es) (fireFrom es i rest x) := by
    intro rest
    induction rest with
    | nil =>
      intro i x hi hdr hx
      have := drop_nil hdr
      refine ev1 fun k => ?_
      simp only [impl_fired.l0]
      rw [if_neg (by omega)]; rfl
    | cons t rest ih =>
      intro i x hi hdr hx
      have hlt := drop_lt hdr
      obtain ⟨K, hK⟩ := ih (i + 1) (es.foldl (stepF i t) x) (by omega) (drop_next hdr) (by
        have : ∀ (es : List S67) (x : List Int), (es.foldl (stepF i t) x).length = x.length := by
          intro es
          induction es with
          | nil => intro x; rfl
          | cons e es ih => intro x; rw [List.foldl_cons, ih, stepF_len]
        rw [this]; exact hx)
      obtain ⟨K', hK'⟩ := impl_fire_ev n es x i t he hx hn hl nn
      refine ⟨K + K' + 1, fun k hk => ?_⟩
      obtain ⟨m, rfl⟩ : ∃ m, k = m + 1 := ⟨k - 1, by omega⟩
      have h1 := hK m (by omega)
      have h2 := hK' m (by omega)
      dsimp only at h1 h2 ⊢
      simp only [impl_fired.l0, rd_drop hdr]
      rw [if_pos (by omega), if_pos (by omega), if_pos (by omega), h2, Option.bind_some, wrap_succ (by omega), h1]
      rfl
  exact main s 0 d (by omega) rfl hd
def ltE (y x : S67) : Prop := y.f0 < x.f0 ∨ (y.f0 = x.f0 ∧ y.f1 < x.f1)
instance (y x : S67) : Decidable (ltE y x) := by unfold ltE; infer_instance
def insE (e : S67) : List S67 → List S67
  | [] => [e]
  | x :: r => if ltE e x then e :: x :: r else x :: insE e r
theorem insE_mem (e x : S67) (es : List S67) : x ∈ insE e es ↔ x = e ∨ x ∈ es := by
  induction es with
  | nil => simp [insE]
  | cons y r ih =>
    simp only [insE]
    split
    · simp
    · simp only [List.mem_cons, ih]
      constructor
      · rintro (h | h | h)
        · exact Or.inr (Or.inl h)
        · exact Or.inl h
        · exact Or.inr (Or.inr h)
      · rintro (h | h | h)
        · exact Or.inr (Or.inl h)
        · exact Or.inl h
        · exact Or.inr (Or.inr h)
theorem insE_len (e : S67) (es : List S67) : (insE e es).length = es.length + 1 := by
  induction es with
  | nil => rfl
  | cons y r ih =>
    simp only [insE]
    split
    · simp
    · simp [ih]
theorem sorted_cons (x : S67) (r : List S67) : SortedE (x :: r) ↔ (∀ y, r.head? = some y → ¬ ltE y x) ∧ SortedE r := by
  constructor
  · intro h
    refine ⟨fun y hy => ?_, fun i hi => ?_⟩
    · cases r with
      | nil => cases hy
      | cons z t =>
        have := h 0 (by simp)
        simp only [List.head?_cons, Option.some.injEq] at hy
        subst hy
        exact this
    · exact h (i + 1) (by simp only [List.length_cons]; omega)
  · rintro ⟨h1, h2⟩ i hi
    cases i with
    | zero =>
      cases r with
      | nil => simp at hi
      | cons z t => exact h1 z rfl
    | succ i => exact h2 i (by simp only [List.length_cons] at hi; omega)
theorem insE_head (e : S67) (es : List S67) (y : S67) (h : (insE e es).head? = some y) : y = e ∨ es.head? = some y := by
  cases es with
  | nil => simp [insE] at h; exact Or.inl h.symm
  | cons x r =>
    simp only [insE] at h
    split at h
    · simp at h; exact Or.inl h.symm
    · simp at h; exact Or.inr (by simp [h])
theorem ltE_asymm {x y : S67} (h : ltE x y) : ¬ ltE y x := by unfold ltE at *; omega
theorem insE_sorted (e : S67) (es : List S67) (h : SortedE es) : SortedE (insE e es) := by
  induction es with
  | nil => intro i hi; simp [insE] at hi
  | cons x r ih =>
    have h' := (sorted_cons x r).1 h
    simp only [insE]
    split
    · rename_i c
      exact (sorted_cons e (x :: r)).2 ⟨fun y hy => by simp at hy; subst hy; exact ltE_asymm c, h⟩
    · rename_i c
      refine (sorted_cons x (insE e r)).2 ⟨fun y hy => ?_, ih h'.2⟩
      rcases insE_head e r y hy with rfl | hy
      · exact c
      · exact h'.1 y hy
theorem insE_graph {n : Int} {es : List S67} {e : S67} (h : GraphP n es) (hl : es.length ≠ 12) (he : 0 ≤ e.f0 ∧ e.f0 < e.f1 ∧ e.f1 < n) : GraphP n (insE e es) := by
  obtain ⟨f1, f2, f3, f4⟩ := edgesB_facts h.1
  refine ⟨?_, insE_sorted e es h.2.1, fun P h0 hP v hv hv' => h.2.2 P h0 (fun x hx => hP x ((insE_mem e x es).2 (Or.inr hx))) v hv hv'⟩
  simp only [edgesB, Bool.and_eq_true, decide_eq_true_eq, List.all_eq_true, insE_len]
  refine ⟨⟨⟨f1, f2⟩, by omega⟩, fun x hx => ?_⟩
  rcases (insE_mem e x es).1 hx with rfl | hx
  · exact ⟨⟨he.1, he.2.1⟩, he.2.2⟩
  · have := f4 x hx
    exact ⟨⟨this.1, this.2.1⟩, this.2.2⟩
theorem specIns_ev (n : Int) (es : List S67) (hl : es.length ≤ 100) (e0 e1 : Int) : Ev (fun k => spec_AddEdge.l0 k false es (es.length : Int) 0 e0 e1 n []) (n, insE ⟨e0, e1⟩ es, true) := by
  have done : ∀ (rest : List S67) (i : Nat) (acc : List S67), es.drop i = rest → i ≤ es.length → acc.length ≤ i + 1 → Ev (fun k => spec_AddEdge.l0 k true es (es.length : Int) (i : Int) e0 e1 n acc) (n, acc ++ rest, true) := by
    intro rest
    induction rest with
    | nil =>
      intro i acc hd hi ha
      have := drop_nil hd
      refine ev_succ ?_
      simp only [spec_AddEdge.l0, if_true, List.append_nil]
      exact ev_ifn (by omega) (Ev.now _)
    | cons x rest ih =>
      intro i acc hd hi ha
      have hlt := drop_lt hd
      have hx : rd_T67 es (i : Int) = x := by unfold rd_T67; rw [Int.toNat_natCast]; exact get_drop hd _
      have h1 := ih (i + 1) (acc ++ [x]) (drop_next hd) (by omega) (by simp; omega)
      rw [List.append_assoc, List.singleton_append] at h1
      refine ev_succ ?_
      simp only [spec_AddEdge.l0, if_true, hx]
      refine ev_ift (by omega) (ev_ift (by omega) (ev_ift (by omega) ?_))
      refine ev_succ ?_
      simp only [spec_AddEdge.j2, wrap_succ (show i < 4611686018427387904 by omega)]
      exact ev_iff (ev_ift (by omega) h1)
  have main : ∀ (rest : List S67) (i : Nat) (acc : List S67), es.drop i = rest → i ≤ es.length → acc.length ≤ i → Ev (fun k => spec_AddEdge.l0 k false es (es.length : Int) (i : Int) e0 e1 n acc) (n, acc ++ insE ⟨e0, e1⟩ rest, true) := by
    intro rest
    induction rest with
    | nil =>
      intro i acc hd hi ha
      have := drop_nil hd
      refine ev_succ ?_
      simp only [spec_AddEdge.l0, insE]
      exact ev_ifn (by omega) (ev_iff (ev_ift (by omega) (Ev.now _)))
    | cons x rest ih =>
      intro i acc hd hi ha
      have hlt := drop_lt hd
      have hx : rd_T67 es (i : Int) = x := by unfold rd_T67; rw [Int.toNat_natCast]; exact get_drop hd _
      refine ev_succ ?_
      simp only [spec_AddEdge.l0, hx]
      refine ev_ift (by omega) (ev_ift (by omega) (ev_ift (by omega) (ev_iff ?_)))
      have no : ¬ ltE ⟨e0, e1⟩ x → Ev (fun k => spec_AddEdge.j2 k false es (es.length : Int) (i : Int) false e0 e1 n acc x.f0 x.f1) (n, acc ++ insE ⟨e0, e1⟩ (x :: rest), true) := fun hc => by
        have h1 := ih (i + 1) (acc ++ [x]) (drop_next hd) (by omega) (by simp; omega)
        rw [List.append_assoc, List.singleton_append] at h1
        simp only [insE, if_neg hc]
        refine ev_succ ?_
        simp only [spec_AddEdge.j2, wrap_succ (show i < 4611686018427387904 by omega)]
        exact ev_iff (ev_ift (by omega) h1)
      have yes : ltE ⟨e0, e1⟩ x → Ev (fun k => spec_AddEdge.j2 k false es (es.length : Int) (i : Int) true e0 e1 n acc x.f0 x.f1) (n, acc ++ insE ⟨e0, e1⟩ (x :: rest), true) := fun hc => by
        have h1 := done rest (i + 1) (acc ++ [⟨e0, e1⟩] ++ [x]) (drop_next hd) (by omega) (by simp; omega)
        simp only [List.append_assoc, List.singleton_append] at h1
        simp only [insE, if_pos hc]
        refine ev_succ ?_
        simp only [spec_AddEdge.j2, wrap_succ (show i < 4611686018427387904 by omega), Option.bind_some, List.append_assoc, List.singleton_append]
        exact ev_ift trivial (ev_ift (by omega) (ev_ift (by simp; omega) h1))
      by_cases c1 : x.f0 > e0
      · exact ev_ift c1 (yes (Or.inl c1))
      · refine ev_ifn c1 ?_
        by_cases c2 : x.f0 = e0
        · refine ev_ift c2 ?_
          by_cases c3 : x.f1 > e1
          · rw [decide_eq_true c3]; exact yes (Or.inr ⟨c2.symm, c3⟩)
          · rw [decide_eq_false c3]; exact no (by rintro (h | h); exact c1 h; exact c3 h.2)
        · exact ev_ifn c2 (no (by rintro (h | h); exact c1 h; exact c2 h.1.symm))
  exact main es 0 [] (by simp) (by omega) (by simp)
theorem specAdd_ev (n : Int) (es : List S67) (a b : Int) (hl : es.length < 4611686018427387904) :
    (GraphP n es ∧ (0 ≤ a ∧ a < n) ∧ (0 ≤ b ∧ b < n) ∧ a ≠ b ∧ es.length ≠ 12 ∧ Ev (fun k => spec_AddEdge.f k n es a b) (n, insE ⟨mn a b, mx a b⟩ es, true) ∧ GraphP n (insE ⟨mn a b, mx a b⟩ es)) ∨
    (¬ (GraphP n es ∧ (0 ≤ a ∧ a < n) ∧ (0 ≤ b ∧ b < n) ∧ a ≠ b ∧ es.length ≠ 12) ∧ Ev (fun k => spec_AddEdge.f k n es a b) (0, [], false)) := by
  have hex : ∃ c : Bool, Ev (fun k => spec_GraphOk.f k n es) c ∧ (c = true ↔ GraphP n es) := by
    exact spec_graphOk_iff n es hl
  obtain ⟨g, h1, hg⟩ := hex
  have off : ∀ q : Bool, q = true → Ev (fun k => spec_AddEdge.j0 k a b q n es) (0, [], false) := fun q hq => ev_succ (by
    simp only [spec_AddEdge.j0]
    exact ev_ift hq (Ev.now _))
  simp only [spec_AddEdge.f, in_eq, Option.bind_some]
  cases g with
  | false => exact Or.inr ⟨(fun h => by have := hg.2 h.1; cases this), Ev.bind h1 (ev_iff (off _ rfl))⟩
  | true =>
    have hG := hg.1 rfl
    obtain ⟨f1, f2, f3, f4⟩ := edgesB_facts hG.1
    have ew : wrap64 (n - 1) = n - 1 := by unfold wrap64; omega
    rw [ew]
    by_cases ha : 0 ≤ a ∧ a ≤ n - 1
    · by_cases hb : 0 ≤ b ∧ b ≤ n - 1
      · rw [decide_eq_true ha, decide_eq_true hb]
        by_cases hab : a = b
        · exact Or.inr ⟨fun h => h.2.2.2.1 hab, Ev.bind h1 (ev_ift rfl (ev_ift rfl (ev_ift rfl (ev_ift hab (off _ rfl)))))⟩
        · by_cases h12 : es.length = 12
          · exact Or.inr ⟨fun h => h.2.2.2.2 h12, Ev.bind h1 (ev_ift rfl (ev_ift rfl (ev_ift rfl (ev_ifn hab (off _ (by simp [h12]))))))⟩
          · refine Or.inl ⟨hG, by omega, by omega, hab, h12, Ev.bind h1 (ev_ift rfl (ev_ift rfl (ev_ift rfl (ev_ifn hab (ev_succ ?_))))), insE_graph hG h12 ?_⟩
            · simp only [spec_AddEdge.j0]
              exact ev_ifn (by simp; omega) (specIns_ev n es (by omega) _ _)
            · show 0 ≤ mn a b ∧ mn a b < mx a b ∧ mx a b < n
              unfold mn mx
              omega
      · rw [decide_eq_true ha, decide_eq_false hb]
        exact Or.inr ⟨fun h => hb (by omega), Ev.bind h1 (ev_ift rfl (ev_ift rfl (ev_iff (off _ rfl))))⟩
    · rw [decide_eq_false ha]
      exact Or.inr ⟨fun h => ha (by omega), Ev.bind h1 (ev_ift rfl (ev_iff (off _ rfl)))⟩
end Go.Proofs.Ytbcfccdoffbncaa.Pure
end
section
set_option linter.unusedVariables false
set_option linter.unusedSimpArgs false
namespace Go.Proofs.Ytbcfccdoffbncaa.Pure
open Go.RowKit Go.Proofs.Ytbcfccdoffbncaa.P Go.Proofs.YtbcfccdoffbncaaW.PrintWords Go.Proofs.YtbcfccdoffbncaaW.PrintLast Go.Proofs.YtbcfccdoffbncaaW.PrintMore Go.Proofs.Ytbcfccdoffbncaa.Base Go.Proofs.Ytbcfccdoffbncaa.Loops
theorem and255 (y : Int) : 0 ≤ Go.bits .and .i64 y 255 ∧ Go.bits .and .i64 y 255 ≤ 255 := by
  unfold Go.bits
  dsimp only
  have h : (BitVec.ofInt IntKind.i64.bits y &&& BitVec.ofInt IntKind.i64.bits 255).toNat ≤ 255 := by
    rw [BitVec.toNat_and]
    exact Nat.le_trans Nat.and_le_right (by decide +kernel)
  rw [IntKind.wrap_i64]
  omega
theorem byte_ex (s : List Int) (hs : s.length < 4611686018427387904) (i h : Int) (hi : 0 ≤ i) : ∃ x i' h', spec_l01Byte.f s i h = some (x, i', h') ∧ 0 ≤ x ∧ x ≤ 255 ∧ 0 ≤ i' := by
  unfold spec_l01Byte.f
  by_cases c : i < (s.length : Int)
  · rw [if_pos c, if_pos hi]
    refine ⟨_, _, _, rfl, (and255 _).1, (and255 _).2, ?_⟩
    unfold wrap64; omega
  · rw [if_neg c]
    exact ⟨_, _, _, rfl, (and255 _).1, (and255 _).2, hi⟩
theorem below_ex (s : List Int) (hs : s.length < 4611686018427387904) (i h : Int) (hi : 0 ≤ i) (n : Int) (hn : 0 < n) (hn2 : n ≤ 256) : ∃ x i' h', spec_l01Below.f s i h n = some (x, i', h') ∧ 0 ≤ x ∧ x < n ∧ 0 ≤ i' := by
  obtain ⟨x, i', h', e, x0, _, hi'⟩ := byte_ex s hs i h hi
  unfold spec_l01Below.f
  rw [if_neg (by omega), if_pos hn2, e]
  simp only [Option.bind_some]
  rw [if_neg (by omega)]
  exact ⟨_, _, _, rfl, Int.tmod_nonneg _ x0, Int.tmod_lt_of_pos _ hn, hi'⟩
theorem new_ex (code : List Int) (hc : code.length < 4611686018427387904) : ∃ h, Ev (fun k => spec_l01New.f k code) (code, 0, h) := by
  have main : ∀ (d i : Nat) (h : Int), i + d = code.length → ∃ h', Ev (fun k => spec_l01New.l0 k code h (i : Int)) (code, 0, h') := by
    intro d
    induction d with
    | zero =>
      intro i h hi
      refine ⟨h, ev_succ ?_⟩
      simp only [spec_l01New.l0]
      exact ev_ifn (by omega) (Ev.now _)
    | succ d ih =>
      intro i h hi
      obtain ⟨h', hh⟩ := ih (i + 1) (Go.bits .and .i64 (wrap64 ((wrap64 ((wrap64 (h * 97)) + (wrap64 (rd code i)))) + 7)) 1073741823) (by omega)
      by_cases c : i < 4000
      · refine ⟨h', ev_succ ?_⟩
        simp only [spec_l01New.l0, wrap_succ (show i < 4611686018427387904 by omega)]
        exact ev_ift (by omega) (ev_ift (by omega) (ev_ift (by omega) hh))
      · refine ⟨h, ev_succ ?_⟩
        simp only [spec_l01New.l0]
        exact ev_ift (by omega) (ev_ifn (by omega) (Ev.now _))
  unfold spec_l01New.f
  exact main code.length 0 _ (by omega)
end Go.Proofs.Ytbcfccdoffbncaa.Pure
end
section
set_option linter.unusedVariables false
set_option linter.unusedSimpArgs false
namespace Go.Proofs.Ytbcfccdoffbncaa.Pure
open Go.RowKit Go.Proofs.Ytbcfccdoffbncaa.P Go.Proofs.YtbcfccdoffbncaaW.PrintWords Go.Proofs.YtbcfccdoffbncaaW.PrintLast Go.Proofs.YtbcfccdoffbncaaW.PrintMore Go.Proofs.Ytbcfccdoffbncaa.Base Go.Proofs.Ytbcfccdoffbncaa.Bits Go.Proofs.Ytbcfccdoffbncaa.Loops
def treeT (av : List Nat) : List S67 := (List.range av.length).map fun i : Nat => ⟨(av.getD i 0 : Int), ((i + 1 : Nat) : Int)⟩
def treeOk (av : List Nat) : Prop := ∀ i, i < av.length → av.getD i 0 ≤ i
def repE (n : Nat) (T : List S67) (a b : Nat) : List S67 := List.replicate (multI n T a b).toNat ⟨(a : Int), (b : Int)⟩
def rowE (n : Nat) (T : List S67) (a b d : Nat) : List S67 := (List.range' b d).flatMap fun b => repE n T a b
def allE (n : Nat) (T : List S67) (a d : Nat) : List S67 := (List.range' a d).flatMap fun a => rowE n T a (a + 1) (n - (a + 1))
theorem treeT_snoc (av : List Nat) (a : Nat) : treeT (av ++ [a]) = treeT av ++ [⟨(a : Int), ((av.length + 1 : Nat) : Int)⟩] := by
  unfold treeT
  rw [List.length_append, List.length_singleton, List.range_succ, List.map_append]
  congr 1
  · refine List.map_congr_left fun i hi => ?_
    have := List.mem_range.1 hi
    rw [List.getD_eq_getElem?_getD, List.getD_eq_getElem?_getD, List.getElem?_append_left this]
  · simp
def goodG (n : Nat) (es : List S67) : Bool := edgesB n es && ((List.range es.length).all fun i => decide (i + 1 < es.length → ¬ ltE (es.getD (i + 1) z67) (es.getD i z67))) && ((List.range n).all fun v => decide (v = 0) || es.any fun e => decide (e.f1 = (v : Int)) && decide (0 ≤ e.f0) && decide (e.f0 < e.f1))
theorem goodG_graph {n : Nat} {es : List S67} (h : goodG n es = true) : GraphP n es := by
  simp only [goodG, Bool.and_eq_true, List.all_eq_true, List.mem_range, decide_eq_true_eq, Bool.or_eq_true, List.any_eq_true] at h
  obtain ⟨⟨h1, h2⟩, h3⟩ := h
  refine ⟨h1, fun i hi => h2 i (by omega) hi, fun P h0 hP v hv0 hv => ?_⟩
  have main : ∀ (u : Nat), u < n → P u := by
    intro u
    induction u using Nat.strongRecOn with
    | _ u ih =>
      intro hu
      rcases h3 u hu with rfl | ⟨e, he, ⟨e1, e2⟩, e3⟩
      · exact h0
      · rw [← e1]
        refine (hP e he).1 ?_
        have := ih e.f0.toNat (by omega) (by omega)
        rwa [Int.toNat_of_nonneg e2] at this
  have := main v.toNat (by omega)
  rwa [Int.toNat_of_nonneg hv0] at this
def goodT (av : List Nat) : Bool := goodG (av.length + 1) (allE (av.length + 1) (treeT av) 0 (av.length + 1)) && decide ((allE (av.length + 1) (treeT av) 0 (av.length + 1)).length ≤ 4)
theorem good_all (av : List Nat) (h : treeOk av) (h1 : 1 ≤ av.length) (h4 : av.length ≤ 4) : goodT av = true := by
  have g1 : ∀ a : Fin 1, goodT [a.val] = true := by decide +kernel
  have g2 : ∀ a : Fin 1, ∀ b : Fin 2, goodT [a.val, b.val] = true := by decide +kernel
  have g3 : ∀ a : Fin 1, ∀ b : Fin 2, ∀ c : Fin 3, goodT [a.val, b.val, c.val] = true := by decide +kernel
  have g4 : ∀ a : Fin 1, ∀ b : Fin 2, ∀ c : Fin 3, ∀ d : Fin 4, goodT [a.val, b.val, c.val, d.val] = true := by decide +kernel
  match av, h1, h4 with
  | [a], _, _ => exact g1 ⟨a, by have := h 0 (by simp); simp at this; omega⟩
  | [a, b], _, _ => exact g2 ⟨a, by have := h 0 (by simp); simp at this; omega⟩ ⟨b, by have := h 1 (by simp); simp at this; omega⟩
  | [a, b, c], _, _ => exact g3 ⟨a, by have := h 0 (by simp); simp at this; omega⟩ ⟨b, by have := h 1 (by simp); simp at this; omega⟩ ⟨c, by have := h 2 (by simp); simp at this; omega⟩
  | [a, b, c, d], _, _ => exact g4 ⟨a, by have := h 0 (by simp); simp at this; omega⟩ ⟨b, by have := h 1 (by simp); simp at this; omega⟩ ⟨c, by have := h 2 (by simp); simp at this; omega⟩ ⟨d, by have := h 3 (by simp); simp at this; omega⟩
  | _ :: _ :: _ :: _ :: _ :: _, _, h4 => exact absurd h4 (by simp)
theorem good_graph (av : List Nat) (h : treeOk av) (h1 : 1 ≤ av.length) (h4 : av.length ≤ 4) : GraphP ((av.length + 1 : Nat) : Int) (allE (av.length + 1) (treeT av) 0 (av.length + 1)) ∧ (allE (av.length + 1) (treeT av) 0 (av.length + 1)).length ≤ 4 := by
  have g := good_all av h h1 h4
  simp only [goodT, Bool.and_eq_true, decide_eq_true_eq] at g
  exact ⟨goodG_graph g.1, g.2⟩
structure DrawnG (n : Int) (es : List S67) : Prop where
  g : GraphP n es
  lo : 2 ≤ n
  hi : n ≤ 5
  len : es.length ≤ 8
theorem drawMore (s : List Int) (hs : s.length < 4611686018427387904) (n : Nat) (h2 : 2 ≤ n) (h5 : n ≤ 5) : ∀ (c : Nat) (i h : Int) (es : List S67), 0 ≤ i → GraphP n es → es.length + c ≤ 8 →
    ∃ es' i' h', Ev (fun k => spec_l02Draw.l4 k (n : Int) (c : Int) s i h (n : Int) es) ((n : Int), es', i', h') ∧ DrawnG n es' ∧ 0 ≤ i' := by
  intro c
  induction c with
  | zero =>
    intro i h es hi hg hl
    refine ⟨es, i, h, ev_succ ?_, ⟨hg, by omega, by omega, by omega⟩, hi⟩
    simp only [spec_l02Draw.l4]
    exact ev_ifn (by omega) (Ev.now _)
  | succ c ih =>
    intro i h es hi hg hl
    obtain ⟨x, i1, h1, e1, x0, x1, hi1⟩ := below_ex s hs i h hi n (by omega) (by omega)
    obtain ⟨y, i2, h2', e2, y0, y1, hi2⟩ := below_ex s hs i1 h1 hi1 (wrap64 ((n : Int) - 1)) (by unfold wrap64; omega) (by unfold wrap64; omega)
    have ew : wrap64 (((c + 1 : Nat) : Int) - 1) = (c : Int) := by unfold wrap64; omega
    rcases specAdd_ev n es x (Int.tmod (wrap64 ((wrap64 (x + 1)) + y)) n) (by omega) with ⟨_, _, _, _, h12, he, hg'⟩ | ⟨_, he⟩
    · obtain ⟨es', i', h', r1, r2, r3⟩ := ih i2 h2' _ hi2 hg' (by rw [insE_len]; omega)
      refine ⟨es', i', h', ev_succ ?_, r2, r3⟩
      simp only [spec_l02Draw.l4, e1, e2, Option.bind_some, ew]
      refine ev_ift (by omega) (ev_ifn (by omega) ?_)
      refine Ev.bind he ?_
      exact ev_ift rfl r1
    · obtain ⟨es', i', h', r1, r2, r3⟩ := ih i2 h2' es hi2 hg (by omega)
      refine ⟨es', i', h', ev_succ ?_, r2, r3⟩
      simp only [spec_l02Draw.l4, e1, e2, Option.bind_some, ew]
      refine ev_ift (by omega) (ev_ifn (by omega) ?_)
      refine Ev.bind he ?_
      exact ev_iff r1
section
variable (n : Nat) (s : List Int) (i h : Int) (T : List S67) (hT : T.length ≤ 4)
theorem draw3 (a b : Nat) (acc : List S67) (r : Int × List S67 × Int × Int) : ∀ (c : Nat) (acc : List S67), acc.length + c ≤ 1000 → Ev (fun k => spec_l02Draw.l2 k (n : Int) (a : Int) (wrap64 ((b : Int) + 1)) s i h (n : Int) T (n : Int) (acc ++ List.replicate c ⟨(a : Int), (b : Int)⟩)) r →
    Ev (fun k => spec_l02Draw.l3 k (n : Int) (a : Int) (b : Int) (c : Int) s i h (n : Int) T (n : Int) acc) r := by
  intro c
  induction c with
  | zero =>
    intro acc ha hr
    rw [List.replicate_zero, List.append_nil] at hr
    refine ev_succ ?_
    simp only [spec_l02Draw.l3]
    exact ev_ifn (by omega) hr
  | succ c ih =>
    intro acc ha hr
    have h1 := ih (acc ++ [⟨(a : Int), (b : Int)⟩]) (by simp; omega) (by rw [List.replicate_succ] at hr; simpa using hr)
    have ew : wrap64 (((c + 1 : Nat) : Int) - 1) = (c : Int) := by unfold wrap64; omega
    refine ev_succ ?_
    simp only [spec_l02Draw.l3, ew]
    exact ev_ift (by omega) (ev_ift (by omega) h1)
end
theorem multI_le (n : Int) (T : List S67) (a b : Int) : 0 ≤ multI n T a b ∧ multI n T a b ≤ T.length := by
  unfold multI
  split
  · unfold multN
    have := List.countP_le_length (p := fun e : S67 => decide (e.f0 = mn a b) && decide (e.f1 = mx a b)) (l := T)
    omega
  · omega
theorem rowE_succ (n : Nat) (T : List S67) (a b d : Nat) : rowE n T a b (d + 1) = repE n T a b ++ rowE n T a (b + 1) d := by
  unfold rowE
  rw [List.range'_succ, List.flatMap_cons]
theorem allE_succ (n : Nat) (T : List S67) (a d : Nat) : allE n T a (d + 1) = rowE n T a (a + 1) (n - (a + 1)) ++ allE n T (a + 1) d := by
  unfold allE
  rw [List.range'_succ, List.flatMap_cons]
theorem repE_len (n : Nat) (T : List S67) (hT : T.length ≤ 4) (a b : Nat) : (repE n T a b).length ≤ 4 := by
  have := multI_le n T a b
  unfold repE
  rw [List.length_replicate]
  omega
theorem rowE_len (n : Nat) (T : List S67) (hT : T.length ≤ 4) (a : Nat) : ∀ d b, (rowE n T a b d).length ≤ 4 * d := by
  intro d
  induction d with
  | zero => intro b; simp [rowE]
  | succ d ih =>
    intro b
    rw [rowE_succ, List.length_append]
    have := ih (b + 1)
    have := repE_len n T hT a b
    omega
theorem draw2 (n : Nat) (s : List Int) (i h : Int) (T : List S67) (hT : T.length ≤ 4) (hn : n ≤ 5) (a : Nat) (r : Int × List S67 × Int × Int) : ∀ (d b : Nat) (acc : List S67), b + d = n → acc.length + 4 * d ≤ 900 →
    Ev (fun k => spec_l02Draw.l1 k (n : Int) (wrap64 ((a : Int) + 1)) s i h (n : Int) T (n : Int) (acc ++ rowE n T a b d)) r → Ev (fun k => spec_l02Draw.l2 k (n : Int) (a : Int) (b : Int) s i h (n : Int) T (n : Int) acc) r := by
  intro d
  induction d with
  | zero =>
    intro b acc hb hl hr
    have e : rowE n T a b 0 = [] := rfl
    rw [e, List.append_nil] at hr
    refine ev_succ ?_
    simp only [spec_l02Draw.l2]
    exact ev_ifn (by omega) hr
  | succ d ih =>
    intro b acc hb hl hr
    have hm := multI_le n T a b
    have hc : ((multI n T a b).toNat : Int) = multI n T a b := Int.toNat_of_nonneg hm.1
    have me := spec_mult_ev n T (by omega) a b
    rw [← hc] at me
    rw [rowE_succ, ← List.append_assoc] at hr
    have h1 := ih (b + 1) (acc ++ repE n T a b) (by omega) (by have := repE_len n T hT a b; rw [List.length_append]; omega) hr
    rw [← wrap_succ (show b < 4611686018427387904 by omega)] at h1
    have h3 := draw3 n s i h T a b [] r (multI n T a b).toNat acc (by omega) h1
    refine ev_succ ?_
    simp only [spec_l02Draw.l2]
    exact ev_ift (by omega) (Ev.bind me h3)
theorem draw1 (n : Nat) (s : List Int) (hs : s.length < 4611686018427387904) (i h : Int) (hi : 0 ≤ i) (T : List S67) (hT : T.length ≤ 4) (h2 : 2 ≤ n) (hn : n ≤ 5) : ∀ (d a : Nat) (acc : List S67), a + d = n → acc.length + 20 * d ≤ 500 →
    GraphP n (acc ++ allE n T a d) → (acc ++ allE n T a d).length ≤ 4 → ∃ es' i' h', Ev (fun k => spec_l02Draw.l1 k (n : Int) (a : Int) s i h (n : Int) T (n : Int) acc) ((n : Int), es', i', h') ∧ DrawnG n es' ∧ 0 ≤ i' := by
  intro d
  induction d with
  | zero =>
    intro a acc ha hl hg h4
    have e : allE n T a 0 = [] := rfl
    rw [e, List.append_nil] at hg h4
    obtain ⟨x, i1, h1, e1, x0, x1, hi1⟩ := below_ex s hs i h hi 5 (by omega) (by omega)
    obtain ⟨es', i', h', r1, r2, r3⟩ := drawMore s hs n h2 hn x.toNat i1 h1 acc hi1 hg (by omega)
    rw [Int.toNat_of_nonneg x0] at r1
    refine ⟨es', i', h', ev_succ ?_, r2, r3⟩
    simp only [spec_l02Draw.l1, e1, Option.bind_some]
    exact ev_ifn (by omega) r1
  | succ d ih =>
    intro a acc ha hl hg h4
    rw [allE_succ, ← List.append_assoc] at hg h4
    have hrl := rowE_len n T hT a (n - (a + 1)) (a + 1)
    obtain ⟨es', i', h', r1, r2, r3⟩ := ih (a + 1) (acc ++ rowE n T a (a + 1) (n - (a + 1))) (by omega) (by rw [List.length_append]; omega) hg h4
    refine ⟨es', i', h', ev_succ ?_, r2, r3⟩
    rw [← wrap_succ (show a < 4611686018427387904 by omega)] at r1
    have hd := draw2 n s i h T hT hn a _ (n - (a + 1)) (a + 1) acc (by omega) (by omega) r1
    simp only [spec_l02Draw.l1, wrap_succ (show a < 4611686018427387904 by omega)]
    exact ev_ift (by omega) hd
theorem treeT_len (av : List Nat) : (treeT av).length = av.length := by simp [treeT]
theorem draw0 (n : Nat) (s : List Int) (hs : s.length < 4611686018427387904) (h2 : 2 ≤ n) (hn : n ≤ 5) : ∀ (d : Nat) (av : List Nat) (i h : Int), 0 ≤ i → av.length + 1 + d = n → treeOk av →
    ∃ es' i' h', Ev (fun k => spec_l02Draw.l0 k (n : Int) ((av.length + 1 : Nat) : Int) s i h ((av.length + 1 : Nat) : Int) (treeT av)) ((n : Int), es', i', h') ∧ DrawnG n es' ∧ 0 ≤ i' := by
  intro d
  induction d with
  | zero =>
    intro av i h hi ha ht
    obtain rfl : av.length + 1 = n := by omega
    obtain ⟨g1, g2⟩ := good_graph av ht (by omega) (by omega)
    obtain ⟨es', i', h', r1, r2, r3⟩ := draw1 (av.length + 1) s hs i h hi (treeT av) (by rw [treeT_len]; omega) h2 hn (av.length + 1) 0 [] (by omega) (by simp; omega) g1 g2
    refine ⟨es', i', h', ev_succ ?_, r2, r3⟩
    simp only [spec_l02Draw.l0]
    exact ev_ifn (by omega) r1
  | succ d ih =>
    intro av i h hi ha ht
    obtain ⟨x, i1, h1, e1, x0, x1, hi1⟩ := below_ex s hs i h hi ((av.length + 1 : Nat) : Int) (by omega) (by omega)
    obtain ⟨es', i', h', r1, r2, r3⟩ := ih (av ++ [x.toNat]) i1 h1 hi1 (by simp; omega) (fun j hj => by
      rw [List.length_append, List.length_singleton] at hj
      by_cases c : j < av.length
      · rw [List.getD_eq_getElem?_getD, List.getElem?_append_left c, ← List.getD_eq_getElem?_getD]
        exact ht j c
      · obtain rfl : j = av.length := by omega
        simp
        omega)
    refine ⟨es', i', h', ev_succ ?_, r2, r3⟩
    rw [treeT_snoc, Int.toNat_of_nonneg x0, List.length_append, List.length_singleton, ← wrap_succ (show av.length + 1 < 4611686018427387904 by omega)] at r1
    simp only [spec_l02Draw.l0, e1, Option.bind_some]
    have hl := treeT_len av
    exact ev_ift (by omega) (ev_ift (by omega) r1)
theorem makeGraph_ex (code : List Int) (hc : code.length < 4611686018427387904) : ∃ n es, Ev (fun k => spec_MakeGraph.f k code) (n, es) ∧ DrawnG n es := by
  obtain ⟨h, hn⟩ := new_ex code hc
  obtain ⟨t, i1, h1, e1, t0, t1, hi1⟩ := below_ex code hc 0 h (by omega) (wrap64 (5 - 1)) (by unfold wrap64; omega) (by unfold wrap64; omega)
  have ew : wrap64 (5 - 1) = 4 := by unfold wrap64; omega
  rw [ew] at e1 t1
  obtain ⟨es', i', h', r1, r2, r3⟩ := draw0 (2 + t.toNat) code hc (by omega) (by omega) (1 + t.toNat) [] i1 h1 hi1 (by simp; omega) (fun j hj => by simp at hj)
  have et : wrap64 (2 + t) = ((2 + t.toNat : Nat) : Int) := by unfold wrap64; omega
  refine ⟨_, es', ?_, r2⟩
  simp only [spec_MakeGraph.f, spec_l02Graph.f, spec_l02Draw.f]
  refine Ev.bind hn ?_
  have d1 : Ev (fun k => (spec_l01Below.f code 0 h (wrap64 (5 - 1))).bind fun bt => spec_l02Draw.l0 k (wrap64 (2 + bt.1)) 1 code bt.2.1 bt.2.2 1 []) (((2 + t.toNat : Nat) : Int), es', i', h') := by
    simp only [ew, e1, Option.bind_some, et]
    exact r1
  exact Ev.bind (Ev.bind d1 (Ev.now _)) (Ev.now _)
end Go.Proofs.Ytbcfccdoffbncaa.Pure
end
section
set_option linter.unusedVariables false
set_option linter.unusedSimpArgs false
namespace Go.Proofs.Ytbcfccdoffbncaa.Pure
open Go.RowKit Go.Proofs.Ytbcfccdoffbncaa.P Go.Proofs.YtbcfccdoffbncaaW.PrintWords Go.Proofs.YtbcfccdoffbncaaW.PrintLast Go.Proofs.YtbcfccdoffbncaaW.PrintMore Go.Proofs.Ytbcfccdoffbncaa.Base Go.Proofs.Ytbcfccdoffbncaa.Reduce Go.Proofs.Ytbcfccdoffbncaa.Loops Go.Proofs.Ytbcfccdoffbncaa.Bits
theorem start_div {m q : Nat} {es : List S67} {D : List Int} (S : Start m es D q) : DivP m es D := by
  refine ⟨S.g, by have := S.len; omega, ?_⟩
  simp only [allB, List.all_eq_true, decide_eq_true_eq]
  intro x hx
  obtain ⟨i, hi, rfl⟩ := List.getElem_of_mem hx
  have := S.b i
  rw [List.getD_eq_getElem?_getD, List.getElem?_eq_getElem hi] at this
  exact this
theorem start_ok {m q : Nat} {es : List S67} {D : List Int} (S : Start m es D q) : Ev (fun k => impl_GraphOk.f k m es) true ∧ Ev (fun k => impl_DivisorOk.f k m es D) true ∧ Ev (fun k => impl_isVertex.f k m es q) true := by
  have f := edgesB_facts S.g.1
  have hl := S.len
  obtain ⟨g, h1, _, hg⟩ := graphOk_both m es (by omega)
  obtain ⟨b, h2, _, hb⟩ := divOk_both m es D (by omega) (by omega)
  have hgt := hg.2 S.g
  have hbt := hb.2 (start_div S)
  subst hgt hbt
  refine ⟨h1, h2, ?_⟩
  simp only [impl_isVertex.f, within_eq, Option.bind_some]
  have ew : wrap64 ((m : Int) - 1) = (m : Int) - 1 := by unfold wrap64; omega
  have hq := S.q
  rw [ew, decide_eq_true (show (0 : Int) ≤ (q : Int) ∧ (q : Int) ≤ (m : Int) - 1 by omega)]
  exact Ev.bind h1 (ev_ift rfl (Ev.now _))
theorem fireV {m q : Nat} {es : List S67} {D s : List Int} (S : Start m es D q) (hs : s.length = m) (hb : ∀ u : Nat, u < m → -100000 ≤ s.getD u 0 ∧ s.getD u 0 ≤ 100000) :
    Ev (fun k => impl_FireScript.f k m es D s) (XD es D s, true) ∧ Ev (fun k => impl_ScriptOk.f k m es s) true := by
  obtain ⟨h1, h2, h3⟩ := start_ok S
  obtain ⟨f1, f2, f3, f4⟩ := edgesB_facts S.g.1
  have hl := S.len
  have ha : allB s (-100000) 100000 = true := by
    simp only [allB, List.all_eq_true, decide_eq_true_eq]
    intro x hx
    obtain ⟨i, hi, rfl⟩ := List.getElem_of_mem hx
    have := hb i (by omega)
    rw [List.getD_eq_getElem?_getD, List.getElem?_eq_getElem hi] at this
    exact this
  have aw := allWithin_ev s (-100000) 100000 (by omega)
  rw [ha] at aw
  have sk : Ev (fun k => impl_ScriptOk.f k m es s) true := by
    simp only [impl_ScriptOk.f]
    exact Ev.bind h1 (ev_ift rfl (ev_ift (by omega) (Ev.bind aw (Ev.now _))))
  have hf := impl_fired_ev m es D s f4 hl hs (by omega) (by omega) m
  rw [fired_same m es D s f4 hl hs (start64 S)] at hf
  refine ⟨?_, sk⟩
  simp only [impl_FireScript.f]
  exact Ev.bind h2 (ev_ift rfl (Ev.bind sk (ev_ift rfl (Ev.bind hf (Ev.now _)))))
theorem lap_small {m : Nat} {es : List S67} (g : GraphP m es) (h8 : es.length ≤ 8) {s : Nat → Int} {B : Int} (hB : 0 ≤ B) (hs : ∀ u, u < m → -B ≤ s u ∧ s u ≤ B) (v : Nat) (hv : v < m) : -(16 * B) ≤ lap m (mE m es) s v ∧ lap m (mE m es) s v ≤ 16 * B := by
  obtain ⟨G, hval⟩ := drawn_gr g h8
  have a := hval v hv
  have h1 : lap m (mE m es) s v ≤ sumN (fun w => mE m es v w * (2 * B)) m := by
    unfold lap
    refine sumN_le fun w hw => Int.mul_le_mul_of_nonneg_left ?_ (G.nonneg v w)
    have := hs v hv
    have := hs w hw
    omega
  have h2 : sumN (fun w => mE m es v w * (-(2 * B))) m ≤ lap m (mE m es) s v := by
    unfold lap
    refine sumN_le fun w hw => Int.mul_le_mul_of_nonneg_left ?_ (G.nonneg v w)
    have := hs v hv
    have := hs w hw
    omega
  rw [sumN_mul'] at h1 h2
  have h3 : sumN (mE m es v) m * (2 * B) ≤ 8 * (2 * B) := Int.mul_le_mul_of_nonneg_right a (by omega)
  rw [Int.mul_neg] at h2
  omega
theorem start_fired {m q : Nat} {es : List S67} {D u : List Int} (S : Start m es D q) (h8 : es.length ≤ 8) (hD : ∀ v : Nat, -2 ≤ D.getD v 0 ∧ D.getD v 0 ≤ 6) (hu : u.length = m) (hb : ∀ v : Nat, -3 ≤ u.getD v 0 ∧ u.getD v 0 ≤ 3) :
    Start m es (XD es D u) q ∧ (XD es D u).length = m ∧ ∀ v, v < m → (XD es D u).getD v 0 = XF m es D u v := by
  have he := (edgesB_facts S.g.1).2.2.2
  have hlen := xd_len m es D u he S.len (start64 S)
  have hx : ∀ v, v < m → (XD es D u).getD v 0 = XF m es D u v := fun v hv => xd_xf S hu (fun w _ => by have := hb w; omega) v hv
  refine ⟨⟨S.g, S.q, hlen, fun v => getD_all hlen (by omega) (fun w hw => ?_) v⟩, hlen, hx⟩
  rw [hx w hw]
  have a := lap_small S.g h8 (B := 3) (by omega) (fun u _ => hb u) w hw
  have b := hD w
  unfold XF
  omega
end Go.Proofs.Ytbcfccdoffbncaa.Pure
end
section
set_option linter.unusedVariables false
set_option linter.unusedSimpArgs false
namespace Go.Proofs.Ytbcfccdoffbncaa.Pure
open Go.RowKit Go.Proofs.Ytbcfccdoffbncaa.P Go.Proofs.YtbcfccdoffbncaaW.PrintWords Go.Proofs.YtbcfccdoffbncaaW.PrintLast Go.Proofs.YtbcfccdoffbncaaW.PrintMore Go.Proofs.Ytbcfccdoffbncaa.Base Go.Proofs.Ytbcfccdoffbncaa.Bits Go.Proofs.Ytbcfccdoffbncaa.Loops
def setF (n : Nat) : List Int → List Int → Option (List Int)
  | x, [] => some x
  | x, v :: r => if 0 ≤ v ∧ v ≤ (n : Int) - 1 then (if x.getD v.toNat 0 = 1 then none else setF n (x.set v.toNat 1) r) else none
def outF (es : List S67) (d : List Int) : Option (List Int) → List Int × Bool
  | some y => (fireFrom es 0 y d, true)
  | none => ([], false)
theorem implSet_ev (n : Nat) (hn : n ≤ 6) (es : List S67) (d s : List Int) (he : ∀ e ∈ es, okE n e) (hd : d.length = n) (hl : es.length < 4611686018427387904) (hs : s.length < 4611686018427387904) :
    Ev (fun k => impl_FireSet.l0 k d (List.replicate n 0) s (s.length : Int) 0 n es) (outF es d (setF n (List.replicate n 0) s)) := by
  have ew : wrap64 ((n : Int) - 1) = (n : Int) - 1 := by unfold wrap64; omega
  refine ev_listE s (fun k (x : List Int) i => impl_FireSet.l0 k d x s (s.length : Int) i n es) (fun x r => outF es d (setF n x r)) (fun x _ => x.length = n) (fun x hx => ev_succ ?_) (fun x v rest i hlt hdr hx => ?_) _ (by simp)
  · simp only [impl_FireSet.l0]
    refine ev_ifn (by omega) (Ev.bind (impl_fired_ev n es d x he hd hx hn hl n) ?_)
    exact Ev.now _
  · by_cases h1 : 0 ≤ v ∧ v ≤ (n : Int) - 1
    · by_cases h2 : x.getD v.toNat 0 = 1
      · refine Or.inl (ev_succ ?_)
        simp only [impl_FireSet.l0, rd_drop hdr, within_eq, ew, Option.bind_some, setF, if_pos h1, if_pos h2, outF]
        exact ev_ift (by omega) (ev_ift (by omega) (ev_ift (by omega) (ev_ift (decide_eq_true h1) (ev_ift (by omega) (ev_ift (by omega) (ev_ift h2 (Ev.now _)))))))
      · refine Or.inr ⟨x.set v.toNat 1, by simpa using hx, by simp only [setF, if_pos h1, if_neg h2], fun r hr => ev_succ ?_⟩
        simp only [impl_FireSet.l0, rd_drop hdr, within_eq, ew, Option.bind_some, wrap_succ (show i < 4611686018427387904 by omega)]
        exact ev_ift (by omega) (ev_ift (by omega) (ev_ift (by omega) (ev_ift (decide_eq_true h1) (ev_ift (by omega) (ev_ift (by omega) (ev_ifn h2 hr))))))
    · refine Or.inl (ev_succ ?_)
      simp only [impl_FireSet.l0, rd_drop hdr, within_eq, ew, Option.bind_some, setF, if_neg h1, outF]
      exact ev_ift (by omega) (ev_ift (by omega) (ev_ift (by omega) (ev_ifn (by rw [decide_eq_false h1]; decide) (Ev.now _))))
end Go.Proofs.Ytbcfccdoffbncaa.Pure
end
section
set_option linter.unusedVariables false
set_option linter.unusedSimpArgs false
namespace Go.Proofs.Ytbcfccdoffbncaa.Pure
open Go.RowKit Go.Proofs.Ytbcfccdoffbncaa.P Go.Proofs.YtbcfccdoffbncaaW.PrintWords Go.Proofs.YtbcfccdoffbncaaW.PrintLast Go.Proofs.YtbcfccdoffbncaaW.PrintMore Go.Proofs.Ytbcfccdoffbncaa.Base Go.Proofs.Ytbcfccdoffbncaa.Reduce Go.Proofs.Ytbcfccdoffbncaa.Loops Go.Proofs.Ytbcfccdoffbncaa.Bits
def allL (m : Nat) : List Int := (List.range m).map fun i : Nat => (i : Int)
theorem setF_all (m : Nat) (hm : m ≤ 6) : setF m (List.replicate m 0) (allL m) = some (List.replicate m 1) := by
  have h : ∀ m : Fin 7, setF m.val (List.replicate m.val 0) (allL m.val) = some (List.replicate m.val 1) := by decide +kernel
  exact h ⟨m, by omega⟩
theorem rep1 (m j : Nat) (hj : j < m) : (List.replicate m (1 : Int)).getD j 0 = 1 := by
  rw [List.getD_eq_getElem?_getD, List.getElem?_replicate, if_pos hj]; rfl
theorem lap_const (n : Nat) (m : Nat → Nat → Int) (c : Int) (v : Nat) : lap n m (fun _ => c) v = 0 := by
  unfold lap
  rw [sumN_congr (g := fun _ => 0) (fun w _ => by simp), sumN_zero]
theorem xd_same {m q : Nat} {es : List S67} {D s : List Int} (S : Start m es D q) (hs : s.length = m) (hb : ∀ w, w < m → -1000000000000 ≤ s.getD w 0 ∧ s.getD w 0 ≤ 1000000000000) (h : ∀ v, v < m → lap m (mE m es) (fun w => s.getD w 0) v = 0) : XD es D s = D := by
  have he := (edgesB_facts S.g.1).2.2.2
  have hlen := xd_len m es D s he S.len (start64 S)
  refine list_eq0 (by rw [hlen, S.len]) fun u hu => ?_
  rw [xd_xf S hs hb u (by omega)]
  unfold XF
  rw [h u (by omega)]; omega
theorem fireAllI {m q : Nat} {es : List S67} {D : List Int} (S : Start m es D q) : Ev (fun k => impl_FireSet.f k m es D (allL m)) (D, true) := by
  obtain ⟨h1, h2, h3⟩ := start_ok S
  obtain ⟨f1, f2, f3, f4⟩ := edgesB_facts S.g.1
  have hl := S.len
  have hi := implSet_ev m (by omega) es D (allL m) f4 hl (by omega) (by simp [allL]; omega)
  rw [setF_all m (by omega)] at hi
  have hy : (List.replicate m (1 : Int)).length = m := by simp
  simp only [outF, fired_same m es D (List.replicate m 1) f4 hl hy (start64 S)] at hi
  have e : XD es D (List.replicate m 1) = D := xd_same S hy (fun w hw => by rw [rep1 m w hw]; omega) fun v hv => by
    rw [lap_congr (t := fun _ => 1) hv fun w hw => rep1 m w hw]
    exact lap_const m _ 1 v
  rw [show es.foldl (stepS (List.replicate m 1)) D = XD es D (List.replicate m 1) from rfl, e] at hi
  simp only [impl_FireSet.f]
  exact Ev.bind h2 (ev_ift rfl (ev_ift (by omega) (ev_ift (by omega) (by rw [Int.toNat_natCast]; exact hi))))
end Go.Proofs.Ytbcfccdoffbncaa.Pure
end
section
set_option linter.unusedVariables false
set_option linter.unusedSimpArgs false
namespace Go.Proofs.Ytbcfccdoffbncaa.Pure
open Go.RowKit Go.Proofs.Ytbcfccdoffbncaa.P Go.Proofs.YtbcfccdoffbncaaW.PrintWords Go.Proofs.YtbcfccdoffbncaaW.PrintLast Go.Proofs.YtbcfccdoffbncaaW.PrintMore Go.Proofs.Ytbcfccdoffbncaa.Base Go.Proofs.Ytbcfccdoffbncaa.Loops Go.Proofs.Ytbcfccdoffbncaa.Bits
def lapRow (n : Nat) (es : List S67) (v : Nat) : List Int := (List.range n).map fun w : Nat => if v = w then valI n es v else wrap64 (-(multI n es v w))
def lapM (n : Nat) (es : List S67) (k : Nat) : List (List Int) := (List.range k).map (lapRow n es)
theorem implLap_row (n : Nat) (hn : n ≤ 6) (es : List S67) (hl : es.length < 4611686018427387904) (v : Nat) (hv : v < n) (x3 : List (List Int)) (h3 : x3.length ≤ 6) (r : List (List Int))
    (hr : Ev (fun k => impl_LaplacianOf.l0 k (x3 ++ [lapRow n es v]) ((v + 1 : Nat) : Int) n es) r) :
    Ev (fun k => impl_LaplacianOf.l1 k x3 (v : Int) (List.replicate n 0) (n : Int) 0 n es) r := by
  have main : ∀ (d i : Nat) (x : List Int), i + d = n → x.length = n → (∀ j, j < i → x.getD j 0 = wrap64 (-(multI n es v j))) → Ev (fun k => impl_LaplacianOf.l1 k x3 (v : Int) x (n : Int) (i : Int) n es) r := by
    intro d
    induction d with
    | zero =>
      intro i x hi hx hj
      obtain rfl : i = n := by omega
      have e : x.set v (valI i es v) = lapRow i es v := by
        refine list_eq0 (by simp [lapRow, hx]) fun u hu => ?_
        have hu' : u < i := by simpa [hx] using hu
        unfold lapRow
        rw [getD_range _ _ _ hu', getD_set0 _ _ _ _ (by omega)]
        by_cases c : v = u
        · simp [c]
        · rw [if_neg c, if_neg c]; exact hj u hu'
      refine ev_succ ?_
      simp only [impl_LaplacianOf.l1, Int.toNat_natCast, wrap_succ (show v < 4611686018427387904 by omega)]
      refine ev_ifn (by omega) (Ev.bind (impl_val_ev i es hl v) (ev_ift (by omega) (ev_ift (by omega) (ev_ift (by omega) ?_))))
      rw [e]
      exact hr
    | succ d ih =>
      intro i x hi hx hj
      have h1 := ih (i + 1) (x.set i (wrap64 (-(multI n es v i)))) (by omega) (by simpa using hx) (fun j hj' => by
        rw [getD_set0 _ _ _ _ (by omega)]
        by_cases c : i = j
        · rw [if_pos c, c]
        · rw [if_neg c]; exact hj j (by omega))
      refine ev_succ ?_
      simp only [impl_LaplacianOf.l1, Int.toNat_natCast, wrap_succ (show i < 4611686018427387904 by omega)]
      exact ev_ift (by omega) (Ev.bind (impl_mult_ev n es hl v i) (ev_ift (by omega) (ev_ift (by omega) h1)))
  exact main n 0 _ (by omega) (by simp) (fun j hj => by omega)
theorem lapM_succ (n : Nat) (es : List S67) (k : Nat) : lapM n es (k + 1) = lapM n es k ++ [lapRow n es k] := by
  unfold lapM
  rw [List.range_succ, List.map_append]; rfl
theorem lapM_len (n : Nat) (es : List S67) (k : Nat) : (lapM n es k).length = k := by simp [lapM]
theorem implLap_ev (n : Nat) (hn : n ≤ 6) (es : List S67) (hl : es.length < 4611686018427387904) : Ev (fun k => impl_LaplacianOf.l0 k [] 0 n es) (lapM n es n) := by
  have main : ∀ (d i : Nat), i + d = n → Ev (fun k => impl_LaplacianOf.l0 k (lapM n es i) (i : Int) n es) (lapM n es n) := by
    intro d
    induction d with
    | zero =>
      intro i hi
      obtain rfl : i = n := by omega
      refine ev_succ ?_
      simp only [impl_LaplacianOf.l0]
      exact ev_ifn (by omega) (Ev.now _)
    | succ d ih =>
      intro i hi
      have h1 := ih (i + 1) (by omega)
      rw [lapM_succ] at h1
      have h2 := implLap_row n hn es hl i (by omega) (lapM n es i) (by rw [lapM_len]; omega) _ h1
      refine ev_succ ?_
      simp only [impl_LaplacianOf.l0, Option.bind_some, Int.toNat_natCast, List.length_replicate]
      exact ev_ift (by omega) (ev_ift (by omega) (ev_ift (by omega) h2))
  exact main n 0 (by omega)
end Go.Proofs.Ytbcfccdoffbncaa.Pure
end
section
set_option linter.unusedVariables false
set_option linter.unusedSimpArgs false
namespace Go.Proofs.Ytbcfccdoffbncaa.Pure
open Go.RowKit Go.Proofs.Ytbcfccdoffbncaa.P Go.Proofs.YtbcfccdoffbncaaW.PrintWords Go.Proofs.YtbcfccdoffbncaaW.PrintLast Go.Proofs.YtbcfccdoffbncaaW.PrintMore Go.Proofs.Ytbcfccdoffbncaa.Base Go.Proofs.Ytbcfccdoffbncaa.Bits Go.Proofs.Ytbcfccdoffbncaa.Loops
theorem rdL_drop {l : List (List Int)} {i : Nat} {a : List Int} {r : List (List Int)} (h : l.drop i = a :: r) : rd_L4 l (i : Int) = a := by
  unfold rd_L4
  rw [Int.toNat_natCast]
  exact get_drop h []
def rowB (n : Nat) (r : List Int) : Bool := decide (r.length = n) && allB r (-500) 500
def matB (m : List (List Int)) : Bool := decide (m.length ≤ 6) && m.all (rowB m.length)
theorem implMat_ev (m : List (List Int)) (hl : m.length < 4611686018427387904) (hr : ∀ r ∈ m, r.length < 4611686018427387904) : Ev (fun k => impl_MatrixOk.f k m) (matB m) := by
  simp only [impl_MatrixOk.f, matB]
  by_cases h6 : m.length ≤ 6
  · rw [decide_eq_true h6, Bool.true_and]
    refine ev_ifn (by omega) ?_
    refine ev_listE m (fun k (_ : Unit) i => impl_MatrixOk.l0 k m m (m.length : Int) i) (fun _ r => r.all (rowB m.length)) (fun _ _ => True) (fun s _ => ev_succ ?_) (fun s a rest i hlt hd _ => ?_) () trivial
    · simp only [impl_MatrixOk.l0]
      exact ev_ifn (by omega) (Ev.now _)
    · have ha : a ∈ m := List.mem_of_mem_drop (by rw [hd]; exact List.mem_cons_self)
      have aw := allWithin_ev a (-500) 500 (hr a ha)
      by_cases c : a.length = m.length
      · cases e : allB a (-500) 500 with
        | true =>
          rw [e] at aw
          refine Or.inr ⟨(), trivial, by simp [rowB, c, e], fun r h => ev_succ ?_⟩
          simp only [impl_MatrixOk.l0, rdL_drop hd, wrap_succ (show i < 4611686018427387904 by omega)]
          exact ev_ift (by omega) (ev_ift (by omega) (ev_ift (by omega) (ev_ift (by omega) (Ev.bind aw (ev_ift rfl h)))))
        | false =>
          rw [e] at aw
          refine Or.inl (ev_succ ?_)
          rw [show (a :: rest).all (rowB m.length) = false by simp [rowB, e]]
          simp only [impl_MatrixOk.l0, rdL_drop hd]
          exact ev_ift (by omega) (ev_ift (by omega) (ev_ift (by omega) (ev_ift (by omega) (Ev.bind aw (ev_iff (Ev.now _))))))
      · refine Or.inl (ev_succ ?_)
        rw [show (a :: rest).all (rowB m.length) = false by simp [rowB, c]]
        simp only [impl_MatrixOk.l0, rdL_drop hd]
        exact ev_ift (by omega) (ev_ift (by omega) (ev_ift (by omega) (ev_ifn (by omega) (Ev.now _))))
  · rw [decide_eq_false h6, Bool.false_and]
    exact ev_ift (by omega) (Ev.now _)
theorem matB_facts {m : List (List Int)} (h : matB m = true) : m.length ≤ 6 ∧ ∀ r ∈ m, r.length = m.length ∧ ∀ x ∈ r, -500 ≤ x ∧ x ≤ 500 := by
  simp only [matB, rowB, allB, Bool.and_eq_true, decide_eq_true_eq, List.all_eq_true] at h
  exact h
def tvSum (r x : List Int) : Nat → Int
  | 0 => 0
  | i + 1 => wrap64 (tvSum r x i + wrap64 (rd r (i : Int) * rd x (i : Int)))
def tv (m : List (List Int)) (x : List Int) : List Int := m.map fun r => tvSum r x r.length
theorem impl_tvRow (m : List (List Int)) (x acc : List Int) (i : Int) (r : List Int) (hr : r.length ≤ 6) (hx : r.length = x.length) (ha : acc.length ≤ 6) (q : List Int) (h : Ev (fun k => impl_TimesVector.l0 k x (acc ++ [tvSum r x r.length]) m (m.length : Int) (wrap64 (i + 1))) q) :
    Ev (fun k => impl_TimesVector.l1 k x acc 0 m (m.length : Int) i r (r.length : Int) 0) q := by
  have main : ∀ (d j : Nat), j + d = r.length → Ev (fun k => impl_TimesVector.l1 k x acc (tvSum r x j) m (m.length : Int) i r (r.length : Int) (j : Int)) q := by
    intro d
    induction d with
    | zero =>
      intro j hj
      obtain rfl : j = r.length := by omega
      refine ev_succ ?_
      simp only [impl_TimesVector.l1]
      exact ev_ifn (by omega) (ev_ift (by omega) h)
    | succ d ih =>
      intro j hj
      have h1 := ih (j + 1) (by omega)
      simp only [tvSum] at h1
      refine ev_succ ?_
      simp only [impl_TimesVector.l1, wrap_succ (show j < 4611686018427387904 by omega)]
      exact ev_ift (by omega) (ev_ift (by omega) (ev_ift (by omega) (ev_ift (by omega) h1)))
  exact main r.length 0 (by omega)
theorem impl_tv_ev (m : List (List Int)) (hm : m.length ≤ 6) (x : List Int) (hr : ∀ r ∈ m, r.length ≤ 6 ∧ r.length = x.length) : Ev (fun k => impl_TimesVector.l0 k x [] m (m.length : Int) 0) (tv m x) := by
  have main : ∀ (rest : List (List Int)) (i : Nat) (acc : List Int), m.drop i = rest → i ≤ m.length → acc.length = i → Ev (fun k => impl_TimesVector.l0 k x acc m (m.length : Int) (i : Int)) (acc ++ tv rest x) := by
    intro rest
    induction rest with
    | nil =>
      intro i acc hd hi ha
      have := drop_nil hd
      refine ev_succ ?_
      simp only [impl_TimesVector.l0, tv, List.map_nil, List.append_nil]
      exact ev_ifn (by omega) (Ev.now _)
    | cons r rest ih =>
      intro i acc hd hi ha
      have hlt := drop_lt hd
      have hmem := hr r (List.mem_of_mem_drop (by rw [hd]; exact List.mem_cons_self))
      have h1 := ih (i + 1) (acc ++ [tvSum r x r.length]) (drop_next hd) (by omega) (by simp [ha])
      rw [← wrap_succ (show i < 4611686018427387904 by omega), List.append_assoc, List.singleton_append] at h1
      have h2 := impl_tvRow m x acc (i : Int) r hmem.1 hmem.2 (by omega) _ h1
      refine ev_succ ?_
      simp only [impl_TimesVector.l0, rdL_drop hd]
      exact ev_ift (by omega) (ev_ift (by omega) (ev_ift (by omega) h2))
  exact main m 0 [] (by simp) (by omega) (by simp)
theorem implTV_ev (m : List (List Int)) (x : List Int) (hl : m.length < 4611686018427387904) (hr : ∀ r ∈ m, r.length < 4611686018427387904) : Ev (fun k => impl_TimesVector.f k m x) (if matB m = true ∧ x.length = m.length then tv m x else []) := by
  have h1 := implMat_ev m hl hr
  simp only [impl_TimesVector.f]
  have off : ∀ c : Bool, c = true → Ev (fun k => impl_TimesVector.j0 k m x c) [] := fun c hc => ev_succ (by
    simp only [impl_TimesVector.j0]
    exact ev_ift hc (Ev.now _))
  cases e : matB m with
  | false =>
    rw [e] at h1
    rw [if_neg (by simp)]
    exact Ev.bind h1 (ev_iff (off true rfl))
  | true =>
    rw [e] at h1
    obtain ⟨h6, hr6⟩ := matB_facts e
    by_cases c : x.length = m.length
    · rw [if_pos ⟨rfl, c⟩]
      refine Ev.bind h1 (ev_ift rfl (ev_succ ?_))
      simp only [impl_TimesVector.j0]
      exact ev_ifn (by simp [c]) (impl_tv_ev m h6 x (fun r h => ⟨by have := (hr6 r h).1; omega, by have := (hr6 r h).1; omega⟩))
    · rw [if_neg (fun h => c h.2)]
      exact Ev.bind h1 (ev_ift rfl (off _ (by simp; omega)))
end Go.Proofs.Ytbcfccdoffbncaa.Pure
end
section
set_option linter.unusedVariables false
set_option linter.unusedSimpArgs false
namespace Go.Proofs.Ytbcfccdoffbncaa.Pure
open Go.RowKit Go.Proofs.Ytbcfccdoffbncaa.P Go.Proofs.YtbcfccdoffbncaaW.PrintWords Go.Proofs.YtbcfccdoffbncaaW.PrintLast Go.Proofs.YtbcfccdoffbncaaW.PrintMore Go.Proofs.Ytbcfccdoffbncaa.Base Go.Proofs.Ytbcfccdoffbncaa.Loops Go.Proofs.Ytbcfccdoffbncaa.Bits Go.Proofs.Ytbcfccdoffbncaa.Reduce
theorem sumN_b {f : Nat → Int} {B : Int} (hf : ∀ i, -B ≤ f i ∧ f i ≤ B) (n : Nat) : -(B * n) ≤ sumN f n ∧ sumN f n ≤ B * n := by
  induction n with
  | zero => simp [sumN]
  | succ n ih =>
    have := hf n
    have e : B * ((n + 1 : Nat) : Int) = B * n + B := by rw [show ((n + 1 : Nat) : Int) = (n : Int) + 1 by omega, Int.mul_add]; omega
    simp only [sumN]
    omega
theorem tvSum_val (r x : List Int) (h : ∀ i : Nat, -100 ≤ rd r (i : Int) * rd x (i : Int) ∧ rd r (i : Int) * rd x (i : Int) ≤ 100) : ∀ n, n ≤ 1000 → tvSum r x n = sumN (fun i => rd r (i : Int) * rd x (i : Int)) n := by
  intro n
  induction n with
  | zero => intro _; rfl
  | succ n ih =>
    intro hn
    have hb := sumN_b h n
    have := h n
    simp only [tvSum, sumN, ih (by omega)]
    unfold wrap64
    omega
theorem lapVec {m q : Nat} {es : List S67} {D u : List Int} (S : Start m es D q) (h8 : es.length ≤ 8) (hu : u.length = m) (hb : ∀ v : Nat, -3 ≤ u.getD v 0 ∧ u.getD v 0 ≤ 3) :
    Ev (fun k => impl_LaplacianOf.f k m es) (lapM m es m) ∧ Ev (fun k => impl_TimesVector.f k (lapM m es m) u) (tv (lapM m es m) u) ∧ (tv (lapM m es m) u).length = m ∧ ∀ v, v < m → (tv (lapM m es m) u).getD v 0 = lap m (mE m es) (fun w => u.getD w 0) v := by
  obtain ⟨h1, _, _⟩ := start_ok S
  obtain ⟨f1, f2, f3, f4⟩ := edgesB_facts S.g.1
  obtain ⟨G, hval⟩ := drawn_gr S.g h8
  have hv8 : ∀ v, v < m → valI m es v = sumN (mE m es v) m := fun v hv => val_sum m v hv es (fun e he => f4 e he)
  have hm8 : ∀ v w, v < m → w < m → 0 ≤ multI m es v w ∧ multI m es v w ≤ 8 := fun v w hv hw => by
    have a := G.nonneg v w
    have b := sumN_one (f := mE m es v) hw (fun i _ => G.nonneg v i)
    have c := hval v hv
    show 0 ≤ mE m es v w ∧ mE m es v w ≤ 8
    omega
  have hrow : ∀ v, v < m → ∀ w : Nat, rd (lapRow m es v) (w : Int) = if w < m then (if v = w then sumN (mE m es v) m else -(multI m es v w)) else 0 := fun v hv w => by
    unfold rd
    rw [Int.toNat_natCast]
    by_cases c : w < m
    · unfold lapRow
      rw [getD_range _ _ _ c, if_pos c]
      by_cases e : v = w
      · rw [if_pos e, if_pos e, hv8 v hv]
      · rw [if_neg e, if_neg e]
        have := hm8 v w hv c
        exact wrap_id (by omega) (by omega)
    · rw [if_neg c, List.getD_eq_getElem?_getD, List.getElem?_eq_none (by simp [lapRow]; omega)]; rfl
  have hent : ∀ v, v < m → ∀ w : Nat, -8 ≤ rd (lapRow m es v) (w : Int) ∧ rd (lapRow m es v) (w : Int) ≤ 8 := fun v hv w => by
    rw [hrow v hv w]
    by_cases c : w < m
    · rw [if_pos c]
      have := hm8 v w hv c
      have := hval v hv
      have := sumN_nonneg (f := mE m es v) (n := m) (fun i _ => G.nonneg v i)
      split <;> omega
    · rw [if_neg c]; omega
  have hmat : matB (lapM m es m) = true := by
    simp only [matB, rowB, allB, Bool.and_eq_true, decide_eq_true_eq, List.all_eq_true, lapM_len]
    refine ⟨by omega, fun r hr => ?_⟩
    unfold lapM at hr
    rw [List.mem_map] at hr
    obtain ⟨v, hv, rfl⟩ := hr
    rw [List.mem_range] at hv
    refine ⟨by simp [lapRow], fun x hx => ?_⟩
    obtain ⟨i, hi, rfl⟩ := List.getElem_of_mem hx
    have := hent v hv i
    rw [rd_nat _ i hi] at this
    omega
  have hlen : (tv (lapM m es m) u).length = m := by simp [tv, lapM]
  have ht := implTV_ev (lapM m es m) u (by rw [lapM_len]; omega) (fun r hr => by
    have := (matB_facts hmat).2 r hr
    rw [lapM_len] at this; omega)
  rw [if_pos ⟨hmat, by rw [lapM_len]; exact hu⟩] at ht
  refine ⟨?_, ht, hlen, fun v hv => ?_⟩
  · simp only [impl_LaplacianOf.f]
    exact Ev.bind h1 (ev_ift rfl (implLap_ev m (by omega) es (by omega)))
  · have e : (tv (lapM m es m) u).getD v 0 = tvSum (lapRow m es v) u m := by
      unfold tv lapM
      rw [List.map_map, getD_range _ _ _ hv]
      show tvSum (lapRow m es v) u (lapRow m es v).length = _
      congr 1
      simp [lapRow]
    rw [e, tvSum_val _ _ (fun i => ?_) m (by omega)]
    · unfold lap
      have e2 : ∀ w, w < m → rd (lapRow m es v) (w : Int) * rd u (w : Int) = (if w = v then sumN (mE m es v) m * u.getD v 0 else (fun w => -(mE m es v w * u.getD w 0)) w) := fun w hw => by
        rw [hrow v hv w, if_pos hw]
        have : rd u (w : Int) = u.getD w 0 := by unfold rd; rw [Int.toNat_natCast]
        rw [this]
        by_cases c : w = v
        · subst c; rw [if_pos rfl, if_pos rfl]
        · rw [if_neg c, if_neg (fun h => c h.symm)]
          show -(mE m es v w) * u.getD w 0 = _
          rw [Int.neg_mul]
      rw [sumN_congr e2, sumN_upd _ m v _ hv]
      have e3 : sumN (fun w => mE m es v w * (u.getD v 0 - u.getD w 0)) m = sumN (mE m es v) m * u.getD v 0 - sumN (fun w => mE m es v w * u.getD w 0) m := by
        rw [← sumN_mul', ← sumN_sub]
        exact sumN_congr fun w _ => Int.mul_sub _ _ _
      have e4 : sumN (fun w => -(mE m es v w * u.getD w 0)) m = - sumN (fun w => mE m es v w * u.getD w 0) m := by
        have := sumN_mul (-1) (fun w => mE m es v w * u.getD w 0) m
        rw [sumN_congr (g := fun w => -1 * (mE m es v w * u.getD w 0)) (fun w _ => by omega), this]; omega
      rw [e3, e4]
      have : mE m es v v = 0 := G.self v
      (try dsimp only)
      rw [this]
      omega
    · have a := hent v hv i
      have b := hb i
      have c : rd u (i : Int) = u.getD i 0 := by unfold rd; rw [Int.toNat_natCast]
      rw [c]
      generalize rd (lapRow m es v) (i : Int) = x at *
      generalize u.getD i 0 = y at *
      have hy : y = -3 ∨ y = -2 ∨ y = -1 ∨ y = 0 ∨ y = 1 ∨ y = 2 ∨ y = 3 := by omega
      rcases hy with rfl | rfl | rfl | rfl | rfl | rfl | rfl <;> omega
end Go.Proofs.Ytbcfccdoffbncaa.Pure
end
section
set_option linter.unusedVariables false
set_option linter.unusedSimpArgs false
namespace Go.Proofs.Ytbcfccdoffbncaa.Pure
open Go.RowKit Go.Proofs.Ytbcfccdoffbncaa.P Go.Proofs.YtbcfccdoffbncaaW.PrintWords Go.Proofs.YtbcfccdoffbncaaW.PrintLast Go.Proofs.YtbcfccdoffbncaaW.PrintMore Go.Proofs.Ytbcfccdoffbncaa.Base Go.Proofs.Ytbcfccdoffbncaa.Loops
theorem sameL_ev (a : List Int) (ha : a.length < 4611686018427387904) : Ev (fun k => laws_same.f k a a) true := by
  have main : ∀ (d i : Nat), i + d = a.length → Ev (fun k => laws_same.l0 k a a (a.length : Int) (i : Int)) true := by
    intro d
    induction d with
    | zero =>
      intro i hi
      refine ev_succ ?_
      simp only [laws_same.l0]
      exact ev_ifn (by omega) (Ev.now _)
    | succ d ih =>
      intro i hi
      have h1 := ih (i + 1) (by omega)
      refine ev_succ ?_
      simp only [laws_same.l0, wrap_succ (show i < 4611686018427387904 by omega)]
      exact ev_ift (by omega) (ev_ift (by omega) (ev_ift (by omega) (ev_ift (by omega) (ev_ift trivial h1))))
  simp only [laws_same.f]
  exact ev_ift trivial (main a.length 0 (by omega))
theorem l21New_ex (code : List Int) (hc : code.length < 4611686018427387904) (n : Nat) (hn : n < 1000) : ∃ i h, Ev (fun k => spec_l21New.f k code (n : Int)) (code, i, h) ∧ 0 ≤ i := by
  obtain ⟨h, hh⟩ := new_ex code hc
  have main : ∀ (d j : Nat) (i h : Int), 0 ≤ i → j + d = n → ∃ i' h', Ev (fun k => spec_l21New.l0 k (n : Int) (j : Int) code i h) (code, i', h') ∧ 0 ≤ i' := by
    intro d
    induction d with
    | zero =>
      intro j i h hi hj
      refine ⟨i, h, ev_succ ?_, hi⟩
      simp only [spec_l21New.l0]
      exact ev_ifn (by omega) (Ev.now _)
    | succ d ih =>
      intro j i h hi hj
      obtain ⟨x, i1, h1, e1, _, _, hi1⟩ := byte_ex code hc i h hi
      obtain ⟨i', h', r1, r2⟩ := ih (j + 1) i1 h1 hi1 (by omega)
      refine ⟨i', h', ev_succ ?_, r2⟩
      simp only [spec_l21New.l0, e1, Option.bind_some, wrap_succ (show j < 4611686018427387904 by omega)]
      exact ev_ift (by omega) r1
  obtain ⟨i', h', r1, r2⟩ := main n 0 0 h (by omega) (by omega)
  exact ⟨i', h', by simp only [spec_l21New.f]; exact Ev.bind hh r1, r2⟩
theorem snoc_b {x : List Int} {a : Int} {lo hi : Int} (h : ∀ v ∈ x, lo ≤ v ∧ v ≤ hi) (ha : lo ≤ a ∧ a ≤ hi) : ∀ v ∈ x ++ [a], lo ≤ v ∧ v ≤ hi := by
  intro v hv
  rcases List.mem_append.1 hv with h' | h'
  · exact h v h'
  · rw [List.mem_singleton.1 h']; exact ha
theorem getD_b {x : List Int} {lo hi : Int} (h : ∀ v ∈ x, lo ≤ v ∧ v ≤ hi) (h0 : lo ≤ 0) (h1 : 0 ≤ hi) (u : Nat) : lo ≤ x.getD u 0 ∧ x.getD u 0 ≤ hi := by
  rw [List.getD_eq_getElem?_getD]
  rcases Nat.lt_or_ge u x.length with hu | hu
  · rw [List.getElem?_eq_getElem hu]; exact h _ (List.getElem_mem hu)
  · rw [List.getElem?_eq_none hu]; exact ⟨h0, h1⟩
theorem makeDivisor_ex (code : List Int) (hc : code.length < 4611686018427387904) (n : Nat) (hn : n < 1000) (m : Nat) (hm : m ≤ 6) (es : List S67) :
    ∃ d : List Int, Ev (fun k => spec_MakeDivisor.f k code (n : Int) (m : Int) es) d ∧ d.length = m ∧ ∀ u : Nat, -2 ≤ d.getD u 0 ∧ d.getD u 0 ≤ 6 := by
  obtain ⟨i, h, e0, hi⟩ := l21New_ex code hc n hn
  have main : ∀ (d j : Nat) (i h : Int) (x : List Int), 0 ≤ i → j + d = m → x.length = j → (∀ v ∈ x, -2 ≤ v ∧ v ≤ 6) → ∃ r i' h', Ev (fun k => spec_l04Draw.l0 k x (j : Int) code i h (m : Int) es) (r, i', h') ∧ r.length = m ∧ ∀ v ∈ r, -2 ≤ v ∧ v ≤ 6 := by
    intro d
    induction d with
    | zero =>
      intro j i h x hi hj hx hb
      refine ⟨x, i, h, ev_succ ?_, by omega, hb⟩
      simp only [spec_l04Draw.l0]
      exact ev_ifn (by omega) (Ev.now _)
    | succ d ih =>
      intro j i h x hi hj hx hb
      obtain ⟨a, i1, h1, e1, a0, a1, hi1⟩ := below_ex code hc i h hi 7 (by omega) (by omega)
      obtain ⟨b, i2, h2, e2, b0, b1, hi2⟩ := below_ex code hc i1 h1 hi1 7 (by omega) (by omega)
      have hp : spec_l01Pick.f code i1 h1 [0, 1, 2, (-1), 3, (-2), a] = some (rd [0, 1, 2, (-1), 3, (-2), a] b, i2, h2) := by
        unfold spec_l01Pick.f
        rw [show (([0, 1, 2, (-1), 3, (-2), a] : List Int).length : Int) = 7 from rfl, e2]
        simp only [Option.bind_some]
        rw [if_pos b0, if_pos b1]
      have hv : -2 ≤ rd [0, 1, 2, (-1), 3, (-2), a] b ∧ rd [0, 1, 2, (-1), 3, (-2), a] b ≤ 6 := by
        have : b = 0 ∨ b = 1 ∨ b = 2 ∨ b = 3 ∨ b = 4 ∨ b = 5 ∨ b = 6 := by omega
        rcases this with rfl | rfl | rfl | rfl | rfl | rfl | rfl
        · show -2 ≤ (0 : Int) ∧ (0 : Int) ≤ 6; omega
        · show -2 ≤ (1 : Int) ∧ (1 : Int) ≤ 6; omega
        · show -2 ≤ (2 : Int) ∧ (2 : Int) ≤ 6; omega
        · show -2 ≤ (-1 : Int) ∧ (-1 : Int) ≤ 6; omega
        · show -2 ≤ (3 : Int) ∧ (3 : Int) ≤ 6; omega
        · show -2 ≤ (-2 : Int) ∧ (-2 : Int) ≤ 6; omega
        · show -2 ≤ a ∧ a ≤ 6; omega
      obtain ⟨r, i', h', r1, r2, r3⟩ := ih (j + 1) i2 h2 (x ++ [rd [0, 1, 2, (-1), 3, (-2), a] b]) hi2 (by omega) (by simp [hx]) (snoc_b hb hv)
      refine ⟨r, i', h', ev_succ ?_, r2, r3⟩
      simp only [spec_l04Draw.l0, e1, hp, Option.bind_some, wrap_succ (show j < 4611686018427387904 by omega)]
      exact ev_ift (by omega) (ev_ift (by omega) r1)
  obtain ⟨r, i', h', r1, r2, r3⟩ := main m 0 i h [] hi (by omega) rfl (fun v hv => by cases hv)
  refine ⟨r, ?_, r2, fun u => getD_b r3 (by omega) (by omega) u⟩
  simp only [spec_MakeDivisor.f, spec_l04Draw.f]
  refine Ev.bind e0 ?_
  exact Ev.bind r1 (Ev.now _)
theorem makeScript_ex (code : List Int) (hc : code.length < 4611686018427387904) (n : Nat) (hn : n < 1000) (m : Nat) (hm : m ≤ 6) (es : List S67) :
    ∃ d : List Int, Ev (fun k => spec_MakeScript.f k code (n : Int) (m : Int) es) d ∧ d.length = m ∧ ∀ u : Nat, -3 ≤ d.getD u 0 ∧ d.getD u 0 ≤ 3 := by
  obtain ⟨i, h, e0, hi⟩ := l21New_ex code hc n hn
  have main : ∀ (d j : Nat) (i h : Int) (x : List Int), 0 ≤ i → j + d = m → x.length = j → (∀ v ∈ x, -3 ≤ v ∧ v ≤ 3) → ∃ r, Ev (fun k => spec_MakeScript.l0 k x (j : Int) (m : Int) es code i h) r ∧ r.length = m ∧ ∀ v ∈ r, -3 ≤ v ∧ v ≤ 3 := by
    intro d
    induction d with
    | zero =>
      intro j i h x hi hj hx hb
      refine ⟨x, ev_succ ?_, by omega, hb⟩
      simp only [spec_MakeScript.l0]
      exact ev_ifn (by omega) (Ev.now _)
    | succ d ih =>
      intro j i h x hi hj hx hb
      obtain ⟨a, i1, h1, e1, a0, a1, hi1⟩ := below_ex code hc i h hi 7 (by omega) (by omega)
      obtain ⟨r, r1, r2, r3⟩ := ih (j + 1) i1 h1 (x ++ [wrap64 (a - 3)]) hi1 (by omega) (by simp [hx]) (snoc_b hb (by unfold wrap64; omega))
      refine ⟨r, ev_succ ?_, r2, r3⟩
      simp only [spec_MakeScript.l0, e1, Option.bind_some, wrap_succ (show j < 4611686018427387904 by omega)]
      exact ev_ift (by omega) (ev_ift (by omega) r1)
  obtain ⟨r, r1, r2, r3⟩ := main m 0 i h [] hi (by omega) rfl (fun v hv => by cases hv)
  refine ⟨r, ?_, r2, fun u => getD_b r3 (by omega) (by omega) u⟩
  simp only [spec_MakeScript.f]
  refine Ev.bind e0 ?_
  exact r1
end Go.Proofs.Ytbcfccdoffbncaa.Pure
end
section
namespace Go.Proofs.Ytbcfccdoffbncaa.P
open Go.RowKit Go.Proofs.YtbcfccdoffbncaaW.PrintWords Go.Proofs.YtbcfccdoffbncaaW.PrintLast Go.Proofs.YtbcfccdoffbncaaW.PrintMore
attribute [local go_sem] max2_int min2_int max_two min_two max_three min_three max_four min_four
set_option linter.unusedVariables false
set_option linter.unusedSimpArgs false
def spec_DegreeOf.l0 : Nat → Int → List Int → Int → Int → Option (Int)
 | 0, _, _, _, _ => none
 | k + 1, x3, x6, x7, x8 => if x8 < x7 then (if 0 ≤ x8 then (if x8 < (x6.length : Int) then (spec_DegreeOf.l0 k (wrap64 (x3 + (rd x6 x8))) x6 x7 (wrap64 (x8 + 1))) else (none)) else (none)) else (some x3)
def spec_DegreeOf.f (k : Nat) (l0 : List Int) : Option (Int) := spec_DegreeOf.l0 k 0 l0 (l0.length : Int) 0
def spec_SameDivisor.l0 : Nat → List Int → List Int → Int → Int → Option (Bool)
 | 0, _, _, _, _ => none
 | k + 1, x1, x12, x13, x14 => if x14 < x13 then (if 0 ≤ x14 then (if x14 < (x12.length : Int) then (if x14 < (x1.length : Int) then (if (rd x12 x14) = (rd x1 x14) then (spec_SameDivisor.l0 k x1 x12 x13 (wrap64 (x14 + 1))) else (some false)) else (none)) else (none)) else (none)) else (some true)
def spec_SameDivisor.f (k : Nat) (l0 : List Int) (l1 : List Int) : Option (Bool) := if (l0.length : Int) = (l1.length : Int) then (spec_SameDivisor.l0 k l1 l0 (l0.length : Int) 0) else (some false)
def spec_AreEquivalent.j0 : Nat → List Int → List Int → Bool → Int → List (S67) → Option (Bool)
 | 0, _, _, _, _, _ => none
 | k + 1, x1, x2, x27, x453000, x453001 => if x27 = true then (some false) else ((spec_l05Reduce.f k x453000 x453001 x1 0).bind fun bt457 => ((spec_l05Reduce.f k x453000 x453001 x2 0).bind fun bt463 => ((spec_SameDivisor.f k bt457.1 bt463.1).bind fun t469 => (some t469))))
def spec_AreEquivalent.f (k : Nat) (a0_0 : Int) (l0_1 : List (S67)) (l1 : List Int) (l2 : List Int) : Option (Bool) := (spec_DivisorOk.f k a0_0 l0_1 l1).bind fun t453 => (if t453 = true then ((spec_DivisorOk.f k a0_0 l0_1 l2).bind fun t454 => (if t454 = true then ((spec_DegreeOf.f k l1).bind fun t455 => ((spec_DegreeOf.f k l2).bind fun t456 => (spec_AreEquivalent.j0 k l1 l2 (t455 != t456) a0_0 l0_1))) else (spec_AreEquivalent.j0 k l1 l2 true a0_0 l0_1))) else (spec_AreEquivalent.j0 k l1 l2 true a0_0 l0_1))
end Go.Proofs.Ytbcfccdoffbncaa.P
end
section
set_option linter.unusedVariables false
set_option linter.unusedSimpArgs false
namespace Go.Proofs.Ytbcfccdoffbncaa.Pure
open Go.RowKit Go.Proofs.Ytbcfccdoffbncaa.P Go.Proofs.YtbcfccdoffbncaaW.PrintWords Go.Proofs.YtbcfccdoffbncaaW.PrintLast Go.Proofs.YtbcfccdoffbncaaW.PrintMore Go.Proofs.Ytbcfccdoffbncaa.Base Go.Proofs.Ytbcfccdoffbncaa.Reduce Go.Proofs.Ytbcfccdoffbncaa.Loops Go.Proofs.Ytbcfccdoffbncaa.Bits
theorem redOk0 (n : Int) (es : List S67) (d : List Int) (hl : es.length < 4611686018427387904) (hd : d.length < 4611686018427387904) :
    ∃ b : Bool, Ev (fun k => impl_DivisorOk.f k n es d) b ∧ Ev (fun k => spec_DivisorOk.f k n es d) b ∧ Ev (fun k => spec_l05Ok.f k n es d 0) b ∧
      (b = true → Ev (fun k => impl_isVertex.f k n es 0) true ∧ ∃ m : Nat, n = m ∧ Start m es d 0) := by
  obtain ⟨b, h1, h2, hb⟩ := divOk_both n es d hl hd
  obtain ⟨g, h3, _, hg⟩ := graphOk_both n es hl
  simp only [spec_l05Ok.f, impl_isVertex.f, within_eq, in_eq, Option.bind_some]
  cases b with
  | false => exact ⟨false, h1, h2, Ev.bind h2 (ev_iff (Ev.now _)), fun h => by cases h⟩
  | true =>
    have hD := hb.1 rfl
    obtain ⟨f1, f2, f3, f4⟩ := edgesB_facts hD.1.1
    have ew : wrap64 (n - 1) = n - 1 := by unfold wrap64; omega
    have ed : decide ((0 : Int) ≤ 0 ∧ (0 : Int) ≤ wrap64 (n - 1)) = true := by rw [ew]; simp; omega
    have hgt : g = true := hg.2 hD.1
    subst hgt
    rw [ed]
    refine ⟨true, h1, h2, Ev.bind h2 (ev_ift rfl (Ev.now _)), fun _ => ⟨Ev.bind h3 (ev_ift rfl (Ev.now _)), n.toNat, by omega, ?_⟩⟩
    have hn : ((n.toNat : Nat) : Int) = n := by omega
    exact ⟨by rw [hn]; exact hD.1, by omega, by have := hD.2.1; omega, fun u => allB_get hD.2.2 (by omega) (by omega) u⟩
theorem red_zero {m : Nat} {es : List S67} {d s : List Int} (S : Start m es d 0) (hr : Red m (mE m es) 0 (XF m es d s)) : sumN (fun u => d.getD u 0) m ≤ XF m es d s 0 + sumN (fun u => if u = 0 then 0 else XF m es d s u) m ∧ sumN (fun u => XF m es d s u) m = sumN (fun u => d.getD u 0) m ∧ XF m es d s 0 ≤ sumN (fun u => d.getD u 0) m := by
  have G := gr_of m es S.g
  have h1 : sumN (fun u => XF m es d s u) m = sumN (fun u => d.getD u 0) m := by
    unfold XF
    rw [sumN_sub, lap_sum m _ G.sym]; omega
  have h2 := sumN_upd (fun u => XF m es d s u) m 0 0 S.q
  have h3 : 0 ≤ sumN (fun u => if u = 0 then 0 else XF m es d s u) m := sumN_nonneg fun u hu => by
    (try dsimp only); split
    · omega
    · exact hr.1 u hu ‹_›
  (try dsimp only at h2)
  exact ⟨by omega, h1, by omega⟩
end Go.Proofs.Ytbcfccdoffbncaa.Pure
end
section
set_option linter.unusedVariables false
set_option linter.unusedSimpArgs false
namespace Go.Proofs.Ytbcfccdoffbncaa.Pure
open Go.RowKit Go.Proofs.Ytbcfccdoffbncaa.P Go.Proofs.YtbcfccdoffbncaaW.PrintWords Go.Proofs.YtbcfccdoffbncaaW.PrintLast Go.Proofs.YtbcfccdoffbncaaW.PrintMore Go.Proofs.Ytbcfccdoffbncaa.Base Go.Proofs.Ytbcfccdoffbncaa.Loops Go.Proofs.Ytbcfccdoffbncaa.Reduce
theorem part_sum (l : List Int) (hb : ∀ u : Nat, -60 ≤ l.getD u 0 ∧ l.getD u 0 ≤ 60) (i : Nat) : -(60 * (i : Int)) ≤ sumN (fun u => l.getD u 0) i ∧ sumN (fun u => l.getD u 0) i ≤ 60 * i := by
  induction i with
  | zero => simp [sumN]
  | succ i ih =>
    have := hb i
    simp only [sumN]
    omega
theorem spec_DegreeOf_ev (l : List Int) (hl : l.length ≤ 1000) (hb : ∀ u : Nat, -60 ≤ l.getD u 0 ∧ l.getD u 0 ≤ 60) : Ev (fun k => spec_DegreeOf.f k l) (sumN (fun u => l.getD u 0) l.length) := by
  have main : ∀ (d i : Nat), i + d = l.length → Ev (fun k => spec_DegreeOf.l0 k (sumN (fun u => l.getD u 0) i) l (l.length : Int) (i : Int)) (sumN (fun u => l.getD u 0) l.length) := by
    intro d
    induction d with
    | zero =>
      intro i hi
      obtain rfl : i = l.length := by omega
      refine ev_succ ?_
      simp only [spec_DegreeOf.l0]
      exact ev_ifn (by omega) (Ev.now _)
    | succ d ih =>
      intro i hi
      have h1 := ih (i + 1) (by omega)
      have h2 := part_sum l hb (i + 1)
      have e : wrap64 (sumN (fun u => l.getD u 0) i + rd l (i : Int)) = sumN (fun u => l.getD u 0) (i + 1) := by
        simp only [sumN] at h2 ⊢
        unfold rd
        rw [Int.toNat_natCast]
        exact wrap_id (by omega) (by omega)
      refine ev_succ ?_
      simp only [spec_DegreeOf.l0, wrap_succ (show i < 4611686018427387904 by omega), e]
      exact ev_ift (by omega) (ev_ift (by omega) (ev_ift (by omega) h1))
  exact main l.length 0 (by omega)
end Go.Proofs.Ytbcfccdoffbncaa.Pure
end
section
set_option linter.unusedVariables false
set_option linter.unusedSimpArgs false
namespace Go.Proofs.Ytbcfccdoffbncaa.Pure
open Go.RowKit Go.Proofs.Ytbcfccdoffbncaa.P Go.Proofs.YtbcfccdoffbncaaW.PrintWords Go.Proofs.YtbcfccdoffbncaaW.PrintLast Go.Proofs.YtbcfccdoffbncaaW.PrintMore Go.Proofs.Ytbcfccdoffbncaa.Base Go.Proofs.Ytbcfccdoffbncaa.Loops
theorem drop_two {a b : List Int} {i : Nat} (ha : i < a.length) (hb : i < b.length) : (a.drop i = b.drop i) ↔ (rd a (i : Int) = rd b (i : Int) ∧ a.drop (i + 1) = b.drop (i + 1)) := by
  rw [List.drop_eq_getElem_cons ha, List.drop_eq_getElem_cons hb, rd_nat a i ha, rd_nat b i hb]
  exact ⟨fun h => List.cons.inj h, fun h => by rw [h.1, h.2]⟩
theorem implSame_ev (a b : List Int) (ha : a.length < 4611686018427387904) : Ev (fun k => impl_SameDivisor.f k a b) (decide (a = b)) := by
  simp only [impl_SameDivisor.f, slices_Equal_int_int.f]
  refine Ev.bind (r := decide (a = b)) ?_ (Ev.now _)
  by_cases e : a.length = b.length
  · refine ev_ift (by omega) ?_
    have main : ∀ (d i : Nat), i + d = a.length → Ev (fun k => slices_Equal_int_int.l0 k a b (a.length : Int) (i : Int)) (decide (a.drop i = b.drop i)) := by
      intro d
      induction d with
      | zero =>
        intro i hi
        rw [decide_eq_true (by rw [List.drop_of_length_le (by omega), List.drop_of_length_le (by omega)])]
        refine ev_succ ?_
        simp only [slices_Equal_int_int.l0]; exact ev_ifn (by omega) (Ev.now _)
      | succ d ih =>
        intro i hi
        have h1 := ih (i + 1) (by omega)
        refine ev_succ ?_
        simp only [slices_Equal_int_int.l0, wrap_succ (show i < 4611686018427387904 by omega)]
        refine ev_ift (by omega) (ev_ift (by omega) (ev_ift (by omega) (ev_ift (by omega) ?_)))
        have hd := drop_two (a := a) (b := b) (i := i) (by omega) (by omega)
        by_cases c : rd a (i : Int) = rd b (i : Int)
        · rw [show decide (a.drop i = b.drop i) = decide (a.drop (i + 1) = b.drop (i + 1)) from decide_eq_decide.2 (hd.trans ⟨fun h => h.2, fun h => ⟨c, h⟩⟩)]
          exact ev_ift c h1
        · rw [decide_eq_false (fun h => c (hd.1 h).1)]
          exact ev_ifn c (Ev.now _)
    have := main a.length 0 (by omega)
    rw [List.drop_zero, List.drop_zero] at this
    exact this
  · rw [decide_eq_false (fun h => e (by rw [h]))]
    exact ev_ifn (by omega) (Ev.now _)
theorem specSame_ev (a b : List Int) (ha : a.length < 4611686018427387904) : Ev (fun k => spec_SameDivisor.f k a b) (decide (a = b)) := by
  simp only [spec_SameDivisor.f]
  by_cases e : a.length = b.length
  · refine ev_ift (by omega) ?_
    have main : ∀ (d i : Nat), i + d = a.length → Ev (fun k => spec_SameDivisor.l0 k b a (a.length : Int) (i : Int)) (decide (a.drop i = b.drop i)) := by
      intro d
      induction d with
      | zero =>
        intro i hi
        rw [decide_eq_true (by rw [List.drop_of_length_le (by omega), List.drop_of_length_le (by omega)])]
        refine ev_succ ?_
        simp only [spec_SameDivisor.l0]; exact ev_ifn (by omega) (Ev.now _)
      | succ d ih =>
        intro i hi
        have h1 := ih (i + 1) (by omega)
        refine ev_succ ?_
        simp only [spec_SameDivisor.l0, wrap_succ (show i < 4611686018427387904 by omega)]
        refine ev_ift (by omega) (ev_ift (by omega) (ev_ift (by omega) (ev_ift (by omega) ?_)))
        have hd := drop_two (a := a) (b := b) (i := i) (by omega) (by omega)
        by_cases c : rd a (i : Int) = rd b (i : Int)
        · rw [show decide (a.drop i = b.drop i) = decide (a.drop (i + 1) = b.drop (i + 1)) from decide_eq_decide.2 (hd.trans ⟨fun h => h.2, fun h => ⟨c, h⟩⟩)]
          exact ev_ift c h1
        · rw [decide_eq_false (fun h => c (hd.1 h).1)]
          exact ev_ifn c (Ev.now _)
    have := main a.length 0 (by omega)
    rw [List.drop_zero, List.drop_zero] at this
    exact this
  · rw [decide_eq_false (fun h => e (by rw [h]))]
    exact ev_ifn (by omega) (Ev.now _)
end Go.Proofs.Ytbcfccdoffbncaa.Pure
end
section
set_option linter.unusedVariables false
set_option linter.unusedSimpArgs false
namespace Go.Proofs.Ytbcfccdoffbncaa.Pure
open Go.RowKit Go.Proofs.Ytbcfccdoffbncaa.P Go.Proofs.YtbcfccdoffbncaaW.PrintWords Go.Proofs.YtbcfccdoffbncaaW.PrintLast Go.Proofs.YtbcfccdoffbncaaW.PrintMore Go.Proofs.Ytbcfccdoffbncaa.Base Go.Proofs.Ytbcfccdoffbncaa.Reduce Go.Proofs.Ytbcfccdoffbncaa.Loops Go.Proofs.Ytbcfccdoffbncaa.Bits
theorem areEquivalent_both (n : Int) (es : List S67) (a b : List Int) (hl : es.length < 4611686018427387904) (ha : a.length < 4611686018427387904) (hb : b.length < 4611686018427387904) :
    ∃ r : Bool, Ev (fun k => impl_AreEquivalent.f k n es a b) r ∧ Ev (fun k => spec_AreEquivalent.f k n es a b) r ∧
      (r = true → ∃ m : Nat, n = m ∧ Start m es a 0 ∧ Start m es b 0) ∧
      (∀ m : Nat, n = m → Start m es a 0 → Start m es b 0 → ∃ s t : List Int, s.length = m ∧ t.length = m ∧ s.getD 0 0 = 0 ∧ t.getD 0 0 = 0 ∧ Red m (mE m es) 0 (XF m es a s) ∧ Red m (mE m es) 0 (XF m es b t) ∧ ((∀ v, v < m → XF m es a s v = XF m es b t v) → r = true)) := by
  obtain ⟨p, h1, h2, h3, h4⟩ := redOk0 n es a hl ha
  obtain ⟨q, i1, i2, i3, i4⟩ := redOk0 n es b hl hb
  simp only [impl_AreEquivalent.f, impl_RepresentativeOf.f, impl_ReducedOf.f, spec_AreEquivalent.f]
  have off : ∀ c : Bool, c = true → Ev (fun k => spec_AreEquivalent.j0 k a b c n es) false := fun c hc => ev_succ (by
    simp only [spec_AreEquivalent.j0]
    exact ev_ift hc (Ev.now _))
  have no : ∀ {d : List Int} {c : Bool}, Ev (fun k => impl_DivisorOk.f k n es d) c → c = false → ∀ m : Nat, n = m → ¬ Start m es d 0 := by
    intro d c hc h0 m hm S
    obtain ⟨c', j1, _, hj⟩ := divOk_both n es d hl (by have := S.len; have := edgesB_facts S.g.1; omega)
    have : c = c' := by
      obtain ⟨K, e1⟩ := hc
      obtain ⟨K', e2⟩ := j1
      have a1 := e1 (K + K') (by omega)
      have a2 := e2 (K + K') (by omega)
      dsimp only at a1 a2
      rw [a1] at a2
      exact Option.some.inj a2
    have hp : DivP n es d := by
      subst hm
      refine ⟨S.g, by have := S.len; omega, ?_⟩
      simp only [allB, List.all_eq_true, decide_eq_true_eq]
      intro x hx
      obtain ⟨i, hi, rfl⟩ := List.getElem_of_mem hx
      have := S.b i
      rw [List.getD_eq_getElem?_getD, List.getElem?_eq_getElem hi] at this
      exact this
    have := hj.2 hp
    subst this
    rw [h0] at *
    contradiction
  cases p with
  | false =>
    cases q with
    | false => exact ⟨false, Ev.bind (Ev.bind (Ev.bind h1 (ev_iff (Ev.now _))) (Ev.now _)) (Ev.bind (Ev.bind (Ev.bind i1 (ev_iff (Ev.now _))) (Ev.now _)) (ev_iff (Ev.now _))), Ev.bind h2 (ev_iff (off true rfl)), (fun h => by cases h), fun m hm S _ => absurd S (no h1 rfl m hm)⟩
    | true =>
      obtain ⟨j1, m, rfl, S⟩ := i4 rfl
      obtain ⟨s, s1, s2, s3, s4, s5, s6, s7, s8⟩ := reduce_both S
      exact ⟨false, Ev.bind (Ev.bind (Ev.bind h1 (ev_iff (Ev.now _))) (Ev.now _)) (Ev.bind (Ev.bind (Ev.bind i1 (ev_ift rfl (Ev.bind j1 (ev_ift rfl (Ev.bind s7 (Ev.now _)))))) (Ev.now _)) (ev_iff (Ev.now _))), Ev.bind h2 (ev_iff (off true rfl)), (fun h => by cases h), fun m hm S _ => absurd S (no h1 rfl m hm)⟩
  | true =>
    obtain ⟨k1, m, rfl, S⟩ := h4 rfl
    obtain ⟨s, s1, s2, s3, s4, s5, s6, s7, s8⟩ := reduce_both S
    cases q with
    | false => exact ⟨false, Ev.bind (Ev.bind (Ev.bind h1 (ev_ift rfl (Ev.bind k1 (ev_ift rfl (Ev.bind s7 (Ev.now _)))))) (Ev.now _)) (Ev.bind (Ev.bind (Ev.bind i1 (ev_iff (Ev.now _))) (Ev.now _)) (ev_ift rfl (ev_iff (Ev.now _)))), Ev.bind h2 (ev_ift rfl (Ev.bind i2 (ev_iff (off true rfl)))), (fun h => by cases h), fun m hm _ S => absurd S (no i1 rfl m hm)⟩
    | true =>
      obtain ⟨j1, m', hm', T⟩ := i4 rfl
      obtain rfl : m' = m := by omega
      obtain ⟨t, t1, t2, t3, t4, t5, t6, t7, t8⟩ := reduce_both T
      have f := edgesB_facts S.g.1
      have da := spec_DegreeOf_ev a (by have := S.len; omega) S.b
      have db := spec_DegreeOf_ev b (by have := T.len; omega) T.b
      rw [S.len] at da
      rw [T.len] at db
      have im := implSame_ev (XD es a s) (XD es b t) (by omega)
      have sp := specSame_ev (XD es a s) (XD es b t) (by omega)
      refine ⟨decide (XD es a s = XD es b t), Ev.bind (Ev.bind (Ev.bind h1 (ev_ift rfl (Ev.bind k1 (ev_ift rfl (Ev.bind s7 (Ev.now _)))))) (Ev.now _)) (Ev.bind (Ev.bind (Ev.bind i1 (ev_ift rfl (Ev.bind j1 (ev_ift rfl (Ev.bind t7 (Ev.now _)))))) (Ev.now _)) (ev_ift rfl (ev_ift rfl (Ev.bind im (Ev.now _))))), Ev.bind h2 (ev_ift rfl (Ev.bind i2 (ev_ift rfl (Ev.bind da (Ev.bind db ?_))))), fun _ => ⟨m', rfl, S, T⟩, ?_⟩
      · by_cases c : sumN (fun u => a.getD u 0) m' = sumN (fun u => b.getD u 0) m'
        · rw [c]
          refine ev_succ ?_
          simp only [spec_AreEquivalent.j0]
          refine ev_ifn (by simp) ?_
          refine Ev.bind s8 ?_
          refine Ev.bind t8 ?_
          exact Ev.bind sp (Ev.now _)
        · rw [decide_eq_false (fun h => c ?_)]
          · exact off _ (by simpa using c)
          · rw [← (red_zero S s4).2.1, ← (red_zero T t4).2.1]
            exact sumN_congr fun u hu => by rw [← s5 u hu, ← t5 u hu, h]
      · intro m hm _ _
        obtain rfl : m' = m := by omega
        refine ⟨s, t, s1, t1, s2, t2, s4, t4, fun h => decide_eq_true ?_⟩
        exact list_eq0 (by omega) fun u hu => by rw [s5 u (by omega), t5 u (by omega), h u (by omega)]
end Go.Proofs.Ytbcfccdoffbncaa.Pure
end
section
set_option linter.unusedVariables false
set_option linter.unusedSimpArgs false
namespace Go.Proofs.Ytbcfccdoffbncaa.Pure
open Go.RowKit Go.Proofs.Ytbcfccdoffbncaa.P Go.Proofs.YtbcfccdoffbncaaW.PrintWords Go.Proofs.YtbcfccdoffbncaaW.PrintLast Go.Proofs.YtbcfccdoffbncaaW.PrintMore Go.Proofs.Ytbcfccdoffbncaa.Base Go.Proofs.Ytbcfccdoffbncaa.Loops
def plusL (a b : List Int) : List Int := (List.range a.length).map fun i : Nat => wrap64 (a.getD i 0 + b.getD i 0)
def negL (a : List Int) : List Int := (List.range a.length).map fun i : Nat => wrap64 (-(a.getD i 0))
theorem impl_plus_ev (a b : List Int) (ha : a.length < 17592186044416) (hab : a.length = b.length) : Ev (fun k => impl_plus.f k a b) (plusL a b) := by
  simp only [impl_plus.f, copyI_eq a ha, Option.bind_some]
  refine inplace_ev a (plusL a b) (by simp [plusL]) (fun k x i => impl_plus.l0 k b x (a.length : Int) i) (fun x hx => ev1 fun k => ?_) (fun x i hi hx hg r hr => ev_succ ?_)
  · simp only [impl_plus.l0]
    rw [if_neg (by omega)]
  · have e1 : wrap64 (rd x i + rd b i) = (plusL a b).getD i 0 := by
      unfold plusL
      rw [getD_range _ _ _ hi, ← hg]; rfl
    simp only [impl_plus.l0, wrap_succ (show i < 4611686018427387904 by omega), e1, Int.toNat_natCast]
    exact ev_ift (by omega) (ev_ift (by omega) (ev_ift (by omega) (ev_ift (by omega) hr)))
theorem impl_neg_ev (a : List Int) (ha : a.length < 17592186044416) : Ev (fun k => impl_NegateDivisor.f k a) (negL a) := by
  simp only [impl_NegateDivisor.f, copyI_eq a ha, Option.bind_some]
  refine inplace_ev a (negL a) (by simp [negL]) (fun k x i => impl_NegateDivisor.l0 k x (a.length : Int) i) (fun x hx => ev1 fun k => ?_) (fun x i hi hx hg r hr => ev_succ ?_)
  · simp only [impl_NegateDivisor.l0]
    rw [if_neg (by omega)]
  · have e1 : wrap64 (-(rd x i)) = (negL a).getD i 0 := by
      unfold negL
      rw [getD_range _ _ _ hi, ← hg]; rfl
    simp only [impl_NegateDivisor.l0, wrap_succ (show i < 4611686018427387904 by omega), e1, Int.toNat_natCast]
    exact ev_ift (by omega) (ev_ift (by omega) (ev_ift (by omega) hr))
end Go.Proofs.Ytbcfccdoffbncaa.Pure
end
section
set_option linter.unusedVariables false
set_option linter.unusedSimpArgs false
namespace Go.Proofs.Ytbcfccdoffbncaa.Pure
open Go.RowKit Go.Proofs.Ytbcfccdoffbncaa.P Go.Proofs.YtbcfccdoffbncaaW.PrintWords Go.Proofs.YtbcfccdoffbncaaW.PrintLast Go.Proofs.YtbcfccdoffbncaaW.PrintMore Go.Proofs.Ytbcfccdoffbncaa.Base Go.Proofs.Ytbcfccdoffbncaa.Loops Go.Proofs.Ytbcfccdoffbncaa.Reduce
theorem impl_sumOf_ev (l : List Int) (hl : l.length ≤ 1000) (hb : ∀ u : Nat, -60 ≤ l.getD u 0 ∧ l.getD u 0 ≤ 60) : Ev (fun k => impl_sumOf.f k l) (sumN (fun u => l.getD u 0) l.length) := by
  have main : ∀ (d i : Nat), i + d = l.length → Ev (fun k => impl_sumOf.l0 k (sumN (fun u => l.getD u 0) i) l (l.length : Int) (i : Int)) (sumN (fun u => l.getD u 0) l.length) := by
    intro d
    induction d with
    | zero =>
      intro i hi
      obtain rfl : i = l.length := by omega
      refine ev_succ ?_
      simp only [impl_sumOf.l0]
      exact ev_ifn (by omega) (Ev.now _)
    | succ d ih =>
      intro i hi
      have h1 := ih (i + 1) (by omega)
      have h2 := part_sum l hb (i + 1)
      have e : wrap64 (sumN (fun u => l.getD u 0) i + rd l (i : Int)) = sumN (fun u => l.getD u 0) (i + 1) := by
        simp only [sumN] at h2 ⊢
        unfold rd
        rw [Int.toNat_natCast]
        exact wrap_id (by omega) (by omega)
      refine ev_succ ?_
      simp only [impl_sumOf.l0, wrap_succ (show i < 4611686018427387904 by omega), e]
      exact ev_ift (by omega) (ev_ift (by omega) (ev_ift (by omega) h1))
  exact main l.length 0 (by omega)
end Go.Proofs.Ytbcfccdoffbncaa.Pure
end
section
set_option linter.unusedVariables false
set_option linter.unusedSimpArgs false
namespace Go.Proofs.Ytbcfccdoffbncaa.Pure
open Go.RowKit Go.Proofs.Ytbcfccdoffbncaa.P Go.Proofs.YtbcfccdoffbncaaW.PrintWords Go.Proofs.YtbcfccdoffbncaaW.PrintLast Go.Proofs.YtbcfccdoffbncaaW.PrintMore Go.Proofs.Ytbcfccdoffbncaa.Base Go.Proofs.Ytbcfccdoffbncaa.Loops
theorem addDivI (a b : List Int) (ha : a.length < 17592186044416) (h : a.length = b.length) : Ev (fun k => impl_AddDivisors.f k a b) (plusL a b, true) := by
  simp only [impl_AddDivisors.f]
  exact ev_ift (by omega) (Ev.bind (impl_plus_ev a b (by omega) h) (Ev.now _))
end Go.Proofs.Ytbcfccdoffbncaa.Pure
end
section
set_option linter.unusedVariables false
set_option linter.unusedSimpArgs false
namespace Go.Proofs.Ytbcfccdoffbncaa.Pure
open Go.RowKit Go.Proofs.Ytbcfccdoffbncaa.P Go.Proofs.YtbcfccdoffbncaaW.PrintWords Go.Proofs.YtbcfccdoffbncaaW.PrintLast Go.Proofs.YtbcfccdoffbncaaW.PrintMore Go.Proofs.Ytbcfccdoffbncaa.Base Go.Proofs.Ytbcfccdoffbncaa.Reduce Go.Proofs.Ytbcfccdoffbncaa.Loops Go.Proofs.Ytbcfccdoffbncaa.Bits
theorem negL_get {u : List Int} {m : Nat} (hu : u.length = m) (hb : ∀ v : Nat, -3 ≤ u.getD v 0 ∧ u.getD v 0 ≤ 3) (v : Nat) : (negL u).getD v 0 = - u.getD v 0 := by
  by_cases c : v < u.length
  · unfold negL
    rw [getD_range _ _ _ c]
    have := hb v
    exact wrap_id (by omega) (by omega)
  · rw [List.getD_eq_getElem?_getD, List.getElem?_eq_none (by simp [negL]; omega), List.getD_eq_getElem?_getD, List.getElem?_eq_none (by omega)]; rfl
theorem lawFires (code : List Int) (hc : code.length ≤ 9223372036854775807) : Ev (fun k => laws_FnFires.f k code) true := by
  simp only [laws_FnFires.f]
  by_cases h20 : (code.length : Int) > 1048576
  · exact ev_ift h20 (Ev.now _)
  refine ev_ifn h20 ?_
  obtain ⟨n, es, hg, G⟩ := makeGraph_ex code (by omega)
  obtain ⟨m, rfl⟩ : ∃ m : Nat, n = m := ⟨n.toNat, by have := G.lo; omega⟩
  have glo := G.lo
  have ghi := G.hi
  have h8 := G.len
  obtain ⟨D, hdv, hDl, hDb⟩ := makeDivisor_ex code (by omega) 20 (by omega) m (by omega) es
  obtain ⟨u, hscr, hul, hub⟩ := makeScript_ex code (by omega) 40 (by omega) m (by omega) es
  have S : Start m es D 0 := ⟨G.g, by omega, hDl, fun w => by have := hDb w; omega⟩
  obtain ⟨SE, e1, e2⟩ := start_fired S h8 hDb hul hub
  obtain ⟨aF, aK⟩ := fireV S hul (fun w _ => by have := hub w; omega)
  have aN := impl_neg_ev u (by omega)
  have hnl : (negL u).length = m := by simp [negL, hul]
  have hng := negL_get hul hub
  have aY := (fireV SE hnl (fun w _ => by have := hub w; rw [hng w]; omega)).1
  have hlap : ∀ v, v < m → lap m (mE m es) (fun w => (negL u).getD w 0) v = - lap m (mE m es) (fun w => u.getD w 0) v := fun v hv => by
    rw [← lap_neg]
    exact lap_congr hv fun w _ => hng w
  have hyD : XD es (XD es D u) (negL u) = D := by
    have he := (edgesB_facts S.g.1).2.2.2
    refine list_eq0 (by rw [xd_len m es _ _ he e1 (start64 SE), hDl]) fun v hv => ?_
    rw [xd_len m es _ _ he e1 (start64 SE)] at hv
    rw [xd_xf SE hnl (fun w hw => by have := hub w; rw [hng w]; omega) v hv]
    unfold XF
    rw [hlap v hv, e2 v hv]
    unfold XF
    omega
  rw [hyD] at aY
  have aA := fireAllI S
  obtain ⟨aL, aT, tl, tv_⟩ := lapVec S h8 hul hub
  have aD := addDivI (XD es D u) (tv (lapM m es m) u) (by omega) (by omega)
  have hsum : plusL (XD es D u) (tv (lapM m es m) u) = D := by
    refine list_eq0 (by simp [plusL]; omega) fun v hv => ?_
    have hv' : v < m := by simpa [plusL, e1] using hv
    unfold plusL
    rw [getD_range _ _ _ (by omega), e2 v hv', tv_ v hv']
    have := hDb v
    unfold XF wrap64
    omega
  rw [hsum] at aD
  have aE := sameL_ev D (by omega)
  have s1 := impl_sumOf_ev D (by omega) S.b
  have s2 := impl_sumOf_ev (XD es D u) (by omega) SE.b
  have hdeg : sumN (fun v => (XD es D u).getD v 0) (XD es D u).length = sumN (fun v => D.getD v 0) D.length := by
    rw [e1, hDl, sumN_congr e2]
    have G' := gr_of m es S.g
    unfold XF
    rw [sumN_sub, lap_sum m _ G'.sym]; omega
  rw [hdeg] at s2
  have aG1 : Ev (fun k => impl_DegreeOf.f k D) (sumN (fun v => D.getD v 0) D.length) := by
    simp only [impl_DegreeOf.f]
    exact Ev.bind s1 (Ev.now _)
  have aG2 : Ev (fun k => impl_DegreeOf.f k (XD es D u)) (sumN (fun v => D.getD v 0) D.length) := by
    simp only [impl_DegreeOf.f]
    exact Ev.bind s2 (Ev.now _)
  obtain ⟨b, aQ, _, _, hb⟩ := areEquivalent_both m es D (XD es D u) (by omega) (by omega) (by omega)
  obtain ⟨s, t, _, _, z1, z2, r1, r2, hbt⟩ := hb m rfl S SE
  have hbT : b = true := hbt fun v hv => (red_same S e2 z1 z2 r1 r2 v hv).symm
  rw [hbT] at aQ
  have loop : ∀ (d i : Nat), i + d = m → Ev (fun k => laws_FnFires.l0 k D u (XD es D u) D true (allL i) (i : Int) (m : Int) es) true := by
    intro d
    induction d with
    | zero =>
      intro i hi
      obtain rfl : i = m := by omega
      refine ev_succ ?_
      simp only [laws_FnFires.l0]
      repeat (first
        | exact Ev.now _
        | dsimp only
        | (with_reducible refine Ev.bind aA ?_) | (with_reducible refine Ev.bind aL ?_) | (with_reducible refine Ev.bind aT ?_) | (with_reducible refine Ev.bind aD ?_) | (with_reducible refine Ev.bind aE ?_) | (with_reducible refine Ev.bind aG1 ?_) | (with_reducible refine Ev.bind aG2 ?_) | (with_reducible refine Ev.bind aQ ?_)
        | with_reducible refine ev_ift (by first | rfl | with_reducible exact True.intro | omega) ?_
        | with_reducible refine ev_ifn (by omega) ?_
        | with_reducible refine ev_iff ?_
        )
    | succ d ih =>
      intro i hi
      have h1 := ih (i + 1) (by omega)
      have ea : allL (i + 1) = allL i ++ [(i : Int)] := by unfold allL; rw [List.range_succ, List.map_append]; rfl
      rw [ea] at h1
      refine ev_succ ?_
      simp only [laws_FnFires.l0, wrap_succ (show i < 4611686018427387904 by omega)]
      exact ev_ift (by omega) (ev_ift (by simp [allL]; omega) h1)
  have l0 := loop m 0 (by omega)
  refine ev_succ ?_
  simp only [laws_FnFires.j0]
  refine Ev.bind hg ?_
  refine Ev.bind hdv ?_
  refine Ev.bind hscr ?_
  repeat (first
    | exact Ev.now _
    | exact l0
    | dsimp only
    | (with_reducible refine Ev.bind aF ?_) | (with_reducible refine Ev.bind aK ?_) | (with_reducible refine Ev.bind aN ?_) | (with_reducible refine Ev.bind aY ?_)
    | with_reducible refine ev_ift (by first | rfl | with_reducible exact True.intro | omega) ?_
    | with_reducible refine ev_ifn (by omega) ?_
    | with_reducible refine ev_ifnn ?_
    | with_reducible refine ev_iff ?_
    | (refine ev_succ ?_; simp only [if_true, laws_FnFires.j1, laws_FnFires.j2])
    )
theorem FnFires : StatFnFires := by
  intro code ⟨hc, _⟩
  have hc' : code.length ≤ 9223372036854775807 := by unfold maxLen at hc; omega
  exact Ev.rounds (r := true) (lawFires code hc')
end Go.Proofs.Ytbcfccdoffbncaa.Pure
end
