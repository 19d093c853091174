/- Functions of the program as plain Lean functions and that the machine's calls answer as they do, the words of the print that these use, lemmas and plain proofs of laws. Put together by a program of this work that leaves out what nothing uses; Lean checks it. -/
import Derived.Test.YtplcclifmajcfaaG0ee52d773a
import Derived.Test.YtplcclifmajcfaaGace029dd32
import Derived.Test.YtplcclifmajcfaaGec60a88a63
import Derived.Test.YtplcclifmajcfaaG8246008c45
import Derived.Test.YtplcclifmajcfaaGc97c474802
section
set_option linter.unusedVariables false
set_option linter.unusedSimpArgs false
namespace Go.Proofs.Ytplcclifmajcfaa.Pure
open Go.RowKit Go.Proofs.Ytplcclifmajcfaa.P Go.Proofs.YtplcclifmajcfaaW.PrintWords Go.Proofs.YtplcclifmajcfaaW.PrintLast Go.Proofs.YtplcclifmajcfaaW.PrintMore Go.Proofs.Ytplcclifmajcfaa.Base Go.Proofs.Ytplcclifmajcfaa.Reduce Go.Proofs.Ytplcclifmajcfaa.Loops Go.Proofs.Ytplcclifmajcfaa.Bits
theorem val_sum (n : Nat) (v : Nat) (hv : v < n) : ∀ es : List S57, (∀ e ∈ es, okE n e) → valI n es v = sumN (mE n es v) n := by
  have main : ∀ es : List S57, (∀ e ∈ es, okE n e) → (valN es v : Int) = sumN (mE n es v) n := by
    intro es
    induction es with
    | nil =>
      intro _
      have := mE_nil n v (fun _ => 1)
      simp only [Int.mul_one] at this
      rw [show sumN (mE n ([] : List S57) v) n = 0 from this]; rfl
    | cons e es ih =>
      intro he
      have h1 := he e (by simp)
      have h := lap_cons n es e h1 v hv (fun _ => 1)
      have i := ih (fun y hy => he y (by simp [hy]))
      simp only [Int.mul_one] at h
      rw [show sumN (mE n (e :: es) v) n = _ from h, show sumN (fun w => mE n es v w) n = sumN (mE n es v) n from rfl, ← i]
      obtain ⟨h0, h1, h2⟩ := h1
      unfold valN
      rw [List.countP_cons]
      have hp : (decide (e.f0 = (v : Int)) || decide (e.f1 = (v : Int))) = true ↔ (e.f0.toNat = v ∨ e.f1.toNat = v) := by
        rw [Bool.or_eq_true, decide_eq_true_eq, decide_eq_true_eq]; omega
      by_cases a : e.f0.toNat = v
      · rw [if_pos a, if_neg (show ¬ e.f1.toNat = v by omega), if_pos (hp.2 (Or.inl a))]; omega
      · by_cases b : e.f1.toNat = v
        · rw [if_neg a, if_pos b, if_pos (hp.2 (Or.inr b))]; omega
        · rw [if_neg a, if_neg b, if_neg (fun h => (hp.1 h).elim a b)]; omega
  intro es he
  unfold valI
  rw [if_pos (by omega)]
  exact main es he
end Go.Proofs.Ytplcclifmajcfaa.Pure
end
section
set_option linter.unusedVariables false
set_option linter.unusedSimpArgs false
namespace Go.Proofs.Ytplcclifmajcfaa.Pure
open Go.RowKit Go.Proofs.Ytplcclifmajcfaa.P Go.Proofs.YtplcclifmajcfaaW.PrintWords Go.Proofs.YtplcclifmajcfaaW.PrintLast Go.Proofs.YtplcclifmajcfaaW.PrintMore Go.Proofs.Ytplcclifmajcfaa.Base Go.Proofs.Ytplcclifmajcfaa.Loops
theorem ne_IE (a b : S57) : ((!(a.f0 == b.f0) || (!(a.f1 == b.f1))) = true) ↔ a ≠ b := by
  cases a; cases b
  simp
  omega
theorem eqE_ends (l x : List S57) (hlx : l.length = x.length) (g : Nat → Int → Option Bool)
    (hg : ∀ k i, g (k + 1) i = if i < (l.length : Int) then (if 0 ≤ i then (if i < (l.length : Int) then (if i < (x.length : Int) then (if (!(((rd_T57 l i).f0) == ((rd_T57 x i).f0)) || (!(((rd_T57 l i).f1) == ((rd_T57 x i).f1)))) = true then some false else g k (wrap64 (i + 1))) else none) else none) else none) else some true)
    (hl : l.length < 4611686018427387904) : ∃ b : Bool, Ev (fun k => g k 0) b ∧ (b = true ↔ l = x) := by
  have main : ∀ (rest : List S57) (i : Nat), i ≤ l.length → l.drop i = rest → ∃ b : Bool, Ev (fun k => g k (i : Int)) b ∧ (b = true ↔ rest = x.drop i) := by
    intro rest
    induction rest with
    | nil =>
      intro i hi hd
      have := drop_nil hd
      refine ⟨true, ev1 fun k => ?_, ?_⟩
      · rw [hg, if_neg (by omega)]
      · rw [List.drop_of_length_le (by omega)]; simp
    | cons a rest ih =>
      intro i hi hd
      have hlt := drop_lt hd
      have hdx := List.drop_eq_getElem_cons (l := x) (i := i) (by omega)
      by_cases hc : a = x[i]'(by omega)
      · obtain ⟨b, ⟨K, hb⟩, hiff⟩ := ih (i + 1) (by omega) (drop_next hd)
        refine ⟨b, ⟨K + 1, fun k hk => ?_⟩, ?_⟩
        · obtain ⟨m, rfl⟩ : ∃ m, k = m + 1 := ⟨k - 1, by omega⟩
          have h2 := hb m (by omega)
          dsimp only at h2 ⊢
          rw [hg, if_pos (by omega), if_pos (by omega), if_pos (by omega), if_pos (by omega), rd_IE hd, rd_IE hdx, if_neg (by rw [ne_IE]; exact fun h => h hc), wrap_succ (by omega), h2]
        · rw [hiff, hdx, hc]
          exact ⟨fun h => by rw [h], fun h => (List.cons.inj h).2⟩
      · refine ⟨false, ev1 fun k => ?_, ?_⟩
        · rw [hg, if_pos (by omega), if_pos (by omega), if_pos (by omega), if_pos (by omega), rd_IE hd, rd_IE hdx, if_pos ((ne_IE _ _).2 hc)]
        · rw [hdx]
          exact ⟨fun h => (by cases h), fun h => absurd (List.cons.inj h).1 hc⟩
  obtain ⟨b, hb, hiff⟩ := main l 0 (by omega) rfl
  exact ⟨b, hb, by simpa using hiff⟩
end Go.Proofs.Ytplcclifmajcfaa.Pure
end
section
set_option linter.unusedVariables false
set_option linter.unusedSimpArgs false
namespace Go.Proofs.Ytplcclifmajcfaa.Pure
open Go.RowKit Go.Proofs.Ytplcclifmajcfaa.P Go.Proofs.YtplcclifmajcfaaW.PrintWords Go.Proofs.YtplcclifmajcfaaW.PrintLast Go.Proofs.YtplcclifmajcfaaW.PrintMore Go.Proofs.Ytplcclifmajcfaa.Base Go.Proofs.Ytplcclifmajcfaa.Bits Go.Proofs.Ytplcclifmajcfaa.Loops Go.Proofs.Ytplcclifmajcfaa.Reduce
theorem ev_same {α : Type} {g : Nat → Option α} {a b : α} (h1 : Ev g a) (h2 : Ev g b) : a = b := by
  obtain ⟨K, h1⟩ := h1
  obtain ⟨L, h2⟩ := h2
  exact Option.some.inj ((h1 (K + L) (by omega)).symm.trans (h2 (K + L) (by omega)))
theorem sumN_nb {f : Nat → Int} {B : Int} (hf : ∀ i, 0 ≤ f i ∧ f i ≤ B) (n : Nat) : 0 ≤ sumN f n ∧ sumN f n ≤ B * n := by
  induction n with
  | zero => simp [sumN]
  | succ n ih =>
    have := hf n
    have e : B * ((n + 1 : Nat) : Int) = B * n + B := by rw [show ((n + 1 : Nat) : Int) = (n : Int) + 1 by omega, Int.mul_add, Int.mul_one]
    rw [e]
    simp only [sumN]
    omega
theorem hand_sum (n : Nat) : ∀ es : List S57, (∀ e ∈ es, okE n e) → sumN (fun v => valI n es v) n = 2 * (es.length : Int) := by
  have e0 : ∀ (es : List S57) , sumN (fun v => valI n es (v : Int)) n = sumN (fun v => (valN es (v : Int) : Int)) n := fun es => sumN_congr fun v hv => by
    unfold valI
    rw [if_pos (by omega)]
  intro es
  rw [e0]
  induction es with
  | nil =>
    intro _
    have : sumN (fun v => (valN ([] : List S57) (v : Int) : Int)) n = sumN (fun _ => 0) n := sumN_congr fun v _ => by simp [valN]
    rw [this, sumN_zero]
    simp
  | cons e es ih =>
    intro he
    have i := ih (fun y hy => he y (by simp [hy]))
    obtain ⟨h0, h1, h2⟩ := he e (by simp)
    have hs : sumN (fun v => (valN (e :: es) (v : Int) : Int)) n = sumN (fun v => ((valN es (v : Int) : Int) + (if v = e.f0.toNat then 1 else 0) * 1) + (if v = e.f1.toNat then 1 else 0) * 1) n := sumN_congr fun v hv => by
      unfold valN
      rw [List.countP_cons]
      by_cases a : e.f0 = (v : Int)
      · rw [if_pos (by simp [a]), if_pos (by omega), if_neg (by omega)]; omega
      · by_cases b : e.f1 = (v : Int)
        · rw [if_pos (by simp [b]), if_neg (by omega), if_pos (by omega)]; omega
        · rw [if_neg (by simp [a, b]), if_neg (by omega), if_neg (by omega)]; omega
    rw [hs, sumN_add, sumN_add, sum_ind n e.f0.toNat (fun _ => 1) (by omega), sum_ind n e.f1.toNat (fun _ => 1) (by omega), i]
    simp only [List.length_cons]
    omega
theorem insE_eq (e : S57) : ∀ es : List S57, SortedE (e :: es) → insE e es = e :: es := by
  intro es
  induction es with
  | nil => intro _; rfl
  | cons y r ih =>
    intro h
    have h1 := (sorted_cons e (y :: r)).1 h
    have h2 := (sorted_cons y r).1 h1.2
    simp only [insE]
    by_cases c : ltE e y
    · rw [if_pos c]
    · rw [if_neg c]
      have hy : ¬ ltE y e := h1.1 y rfl
      obtain rfl : y = e := by
        unfold ltE at c hy
        cases y; cases e
        simp only at c hy
        congr 1 <;> omega
      rw [ih ((sorted_cons _ _).2 h2)]
theorem first_ins (e : S57) : ∀ es : List S57, SortedE es → ∃ i, i < (insE e es).length ∧ (insE e es).getD i z57 = e ∧ (∀ j, j < i → (insE e es).getD j z57 ≠ e) ∧ (insE e es).take i ++ (insE e es).drop (i + 1) = es := by
  intro es
  induction es with
  | nil => intro _; exact ⟨0, by simp [insE], by simp [insE], by simp, by simp [insE]⟩
  | cons x r ih =>
    intro h
    have h1 := (sorted_cons x r).1 h
    by_cases c : ltE e x
    · have : insE e (x :: r) = e :: x :: r := by simp [insE, c]
      rw [this]
      exact ⟨0, by simp, by simp, by simp, by simp⟩
    · have hi : insE e (x :: r) = x :: insE e r := by simp [insE, c]
      rw [hi]
      by_cases hx : x = e
      · subst hx
        rw [insE_eq x r h]
        exact ⟨0, by simp, by simp, by simp, by simp⟩
      · obtain ⟨i, i1, i2, i3, i4⟩ := ih h1.2
        refine ⟨i + 1, by simp; omega, by simpa using i2, fun j hj => ?_, by simp [i4]⟩
        cases j with
        | zero => simpa using hx
        | succ j => simpa using i3 j (by omega)
theorem distLen_ev (n : Nat) (es : List S57) (hl : es.length ≤ 100) (hn : n ≤ 6) (hb : ∀ e ∈ es, 0 ≤ e.f0 ∧ e.f0 < e.f1 ∧ e.f1 < n) (v : Int) (hv : 0 ≤ v ∧ v < n) :
    ∃ r : List Int, r.length = n ∧ Ev (fun k => impl_DistancesFrom.l0 k v (List.replicate n 0) (n : Int) 0 n es) r := by
  have l2 : ∀ (x31 : Int) (j : Nat), j < 1000 → ∀ (rest : List S57) (i : Nat) (o : List Int), i ≤ es.length → es.drop i = rest → o.length = n →
      ∃ o', o'.length = n ∧ ∀ R, Ev (fun k => impl_DistancesFrom.l1 k o' x31 ((j + 1 : Nat) : Int) n es) R → Ev (fun k => impl_DistancesFrom.l2 k o x31 (j : Int) es (es.length : Int) (i : Int) n es) R := by
    intro x31 j hj rest
    induction rest with
    | nil =>
      intro i o hi hd ho
      have : es.length ≤ i := drop_nil hd
      refine ⟨o, ho, fun R hR => ev_succ ?_⟩
      simp only [impl_DistancesFrom.l2, wrap_succ (show j < 4611686018427387904 by omega)]
      exact ev_ifn (by omega) hR
    | cons e rest ih =>
      intro i o hi hd ho
      have hlt := drop_lt hd
      have hmem : e ∈ es := by
        have : e ∈ es.drop i := by rw [hd]; simp
        exact List.mem_of_mem_drop this
      have hr := hb e hmem
      have h1 : (o.set e.f0.toNat (mn (rd o e.f0) (wrap64 (rd o e.f1 + 1)))).length = n := by rw [List.length_set, ho]
      obtain ⟨o', G, hG⟩ := ih (i + 1) ((o.set e.f0.toNat (mn (rd o e.f0) (wrap64 (rd o e.f1 + 1)))).set e.f1.toNat (mn (rd (o.set e.f0.toNat (mn (rd o e.f0) (wrap64 (rd o e.f1 + 1)))) e.f1) (wrap64 (rd (o.set e.f0.toNat (mn (rd o e.f0) (wrap64 (rd o e.f1 + 1)))) e.f0 + 1)))) (by omega) (drop_next hd) (by rw [List.length_set, h1])
      refine ⟨o', G, fun R hR => ev_succ ?_⟩
      have g := hG R hR
      simp only [impl_DistancesFrom.l2, rd_IE hd, wrap_succ (show i < 4611686018427387904 by omega), Option.bind_some]
      exact ev_ift (by omega) (ev_ift (by omega) (ev_ift (by omega) (ev_ift (by omega) (ev_ift (by omega) (ev_ift (by omega) (ev_ift (by omega) g))))))
  have rounds : ∀ (d j : Nat) (o : List Int), j + d = n → o.length = n → ∃ r : List Int, r.length = n ∧ Ev (fun k => impl_DistancesFrom.l1 k o (n : Int) (j : Int) n es) r := by
    intro d
    induction d with
    | zero =>
      intro j o hj ho
      refine ⟨o, ho, ev_succ ?_⟩
      simp only [impl_DistancesFrom.l1]
      exact ev_ifn (by omega) (Ev.now _)
    | succ d ih =>
      intro j o hj ho
      obtain ⟨o', G, hG⟩ := l2 (n : Int) j (by omega) es 0 o (by omega) rfl ho
      obtain ⟨r, hr, g⟩ := ih (j + 1) o' (by omega) G
      refine ⟨r, hr, ev_succ ?_⟩
      simp only [impl_DistancesFrom.l1]
      exact ev_ift (by omega) (hG r g)
  have start : ∀ (d i : Nat) (o : List Int), i + d = n → o.length = n → ∃ r : List Int, r.length = n ∧ Ev (fun k => impl_DistancesFrom.l0 k v o (n : Int) (i : Int) n es) r := by
    intro d
    induction d with
    | zero =>
      intro i o hi ho
      have hlen2 : (o.set v.toNat 0).length = n := by rw [List.length_set, ho]
      obtain ⟨r, hr, g⟩ := rounds n 0 _ (by omega) hlen2
      refine ⟨r, hr, ev_succ ?_⟩
      simp only [impl_DistancesFrom.l0, ho]
      exact ev_ifn (by omega) (ev_ift (by omega) (ev_ift (by omega) g))
    | succ d ih =>
      intro i o hi ho
      obtain ⟨r, hr, g⟩ := ih (i + 1) (o.set i (n : Int)) (by omega) (by rw [List.length_set, ho])
      refine ⟨r, hr, ev_succ ?_⟩
      simp only [impl_DistancesFrom.l0, ho, Int.toNat_natCast, wrap_succ (show i < 4611686018427387904 by omega)]
      exact ev_ift (by omega) (ev_ift (by omega) (ev_ift (by omega) g))
  exact start n 0 _ (by omega) (by simp)
theorem lawGraphs (code : List Int) (hc : code.length ≤ 9223372036854775807) : Ev (fun k => laws_FnGraphs.f k code) true := by
  simp only [laws_FnGraphs.f]
  by_cases h20 : (code.length : Int) > 1048576
  · exact ev_ift h20 (Ev.now _)
  refine ev_ifn h20 ?_
  obtain ⟨n, es, hg, G⟩ := makeGraph_ex code (by omega)
  obtain ⟨m, rfl⟩ : ∃ m : Nat, n = m := ⟨n.toNat, by have := G.lo; omega⟩
  have glo := G.lo
  have ghi := G.hi
  have h8 := G.len
  obtain ⟨f1, f2, f3, f4⟩ := edgesB_facts G.g.1
  have hL : es.length < 4611686018427387904 := by omega
  have hok : ∀ e ∈ es, okE m e := fun e he => f4 e he
  refine ev_succ ?_
  simp only [laws_FnGraphs.j0]
  refine Ev.bind hg ?_
  dsimp only
  have tail : Ev (fun k => laws_FnGraphs.l0 k (2 * (es.length : Int)) (m : Int) (m : Int) es) true := by
    obtain ⟨D, hD, hd⟩ := distLen_ev m es (by omega) (by omega) f4 0 (by omega)
    obtain ⟨g, h1, h2, hgq⟩ := graphOk_both m es hL
    obtain rfl : g = true := hgq.2 G.g
    have eD : Ev (fun k => impl_DistancesFrom.f k m es 0) D := by
      have hw : impl_within.f 0 0 (wrap64 ((m : Int) - 1)) = some true := by
        rw [within_eq]
        rw [show wrap64 ((m : Int) - 1) = (m : Int) - 1 by unfold wrap64; omega, decide_eq_true (by omega)]
      simp only [impl_DistancesFrom.f, impl_isVertex.f, hw, Option.bind_some]
      refine Ev.bind (Ev.bind h1 (ev_ift rfl (Ev.now _))) (ev_ift rfl (ev_ift (by omega) (ev_ift (by omega) ?_)))
      simpa using hd
    obtain ⟨x, r, q, a1, a2, hr, _⟩ := addEdge_both m es ((m : Int) - 1) 0 hL
    obtain ⟨a3, hG2⟩ : Ev (fun k => spec_AddEdge.f k m es ((m : Int) - 1) 0) (m, insE ⟨mn ((m : Int) - 1) 0, mx ((m : Int) - 1) 0⟩ es, true) ∧ GraphP m (insE ⟨mn ((m : Int) - 1) 0, mx ((m : Int) - 1) 0⟩ es) := by
      rcases specAdd_ev m es ((m : Int) - 1) 0 hL with ⟨_, _, _, _, _, a3, hG2⟩ | ⟨hno, _⟩
      · exact ⟨a3, hG2⟩
      · exact absurd ⟨G.g, by omega, by omega, by omega, by omega⟩ hno
    have e3 := ev_same a2 a3
    have emn : mn ((m : Int) - 1) 0 = 0 := by unfold mn; rw [if_pos (by omega)]
    have emx : mx ((m : Int) - 1) 0 = (m : Int) - 1 := by unfold mx; rw [if_neg (by omega)]
    rw [emn, emx] at e3 hG2
    simp only [Prod.mk.injEq] at e3
    obtain ⟨rfl, rfl, rfl⟩ := e3
    obtain ⟨i, i1, i2, i3, i4⟩ := first_ins ⟨0, (m : Int) - 1⟩ es G.g.2.1
    have hln := insE_len ⟨0, (m : Int) - 1⟩ es
    generalize insE ⟨0, (m : Int) - 1⟩ es = xs at *
    obtain ⟨g', k1, k2, kq⟩ := graphOk_both m xs (by omega)
    obtain rfl : g' = true := kq.2 hG2
    obtain ⟨x', r', q', d1, _, _, d3⟩ := dropEdge_both m xs (i : Int) (by omega)
    obtain ⟨rfl, rfl, rfl⟩ := d3 i rfl hG2 i1 (by rw [i4]; exact G.g)
    rw [i4] at d1
    have eS : Ev (fun k => impl_SameGraph.f k m es m es) true := by
      obtain ⟨b, hb, hbq⟩ := eqE_ends es es rfl (fun k i => slices_Equal_Edge.l0 k es es (es.length : Int) i) (fun k i => by simp only [slices_Equal_Edge.l0]) hL
      obtain rfl : b = true := hbq.2 rfl
      simp only [impl_SameGraph.f, slices_Equal_Edge.f]
      exact ev_ift trivial (Ev.bind (ev_ift trivial hb) (Ev.now _))
    have ew : wrap64 ((m : Int) - 1) = (m : Int) - 1 := by unfold wrap64; omega
    have eg1 : Ev (fun k => impl_GenusOf.f k m es) ((es.length : Int) - m + 1) := by
      simp only [impl_GenusOf.f]
      refine Ev.bind h1 (ev_ift rfl ?_)
      rw [show wrap64 (wrap64 ((es.length : Int) - m) + 1) = (es.length : Int) - m + 1 by unfold wrap64; omega]
      exact Ev.now _
    have eg2 : Ev (fun k => impl_GenusOf.f k m xs) ((es.length : Int) - m + 2) := by
      simp only [impl_GenusOf.f]
      refine Ev.bind k1 (ev_ift rfl ?_)
      rw [show wrap64 (wrap64 ((xs.length : Int) - m) + 1) = (es.length : Int) - m + 2 by unfold wrap64; omega]
      exact Ev.now _
    have loop : ∀ (d j : Nat), j + d = i → Ev (fun k => laws_FnGraphs.l2 k xs (xs.length : Int) (j : Int) (m : Int) es (m : Int) xs) true := by
      intro d
      induction d with
      | zero =>
        intro j hj
        obtain rfl : j = i := by omega
        refine ev_succ ?_
        simp only [laws_FnGraphs.l2]
        refine ev_ift (by omega) (ev_succ ?_)
        simp only [laws_FnGraphs.j7, rdE_nat, i2, ew]
        refine ev_ift (by omega) (ev_ift (by omega) (ev_ift trivial (ev_succ ?_)))
        simp only [laws_FnGraphs.j8, beq_self_eq_true, if_true]
        refine Ev.bind d1 ?_
        dsimp only
        exact ev_ift rfl (Ev.bind eS (Ev.now _))
      | succ d ih =>
        intro j hj
        have h := ih (j + 1) (by omega)
        have hne := i3 j (by omega)
        have step : Ev (fun k => laws_FnGraphs.j8 k (j : Int) xs (xs.length : Int) (j : Int) false (m : Int) es (m : Int) xs) true := ev_succ (by
          simp only [laws_FnGraphs.j8, wrap_succ (show j < 4611686018427387904 by omega)]
          exact ev_iff h)
        refine ev_succ ?_
        simp only [laws_FnGraphs.l2]
        refine ev_ift (by omega) (ev_succ ?_)
        simp only [laws_FnGraphs.j7, rdE_nat, ew]
        refine ev_ift (by omega) (ev_ift (by omega) ?_)
        by_cases c : (xs.getD j z57).f0 = 0
        · refine ev_ift c ?_
          have : ((xs.getD j z57).f1 == (m : Int) - 1) = false := by
            apply beq_eq_false_iff_ne.mpr
            intro hc
            apply hne
            cases hx : xs.getD j z57 with
            | mk a b =>
              rw [hx] at c hc
              simp only at c hc
              rw [c, hc]
          rw [this]
          exact step
        · exact ev_ifn c step
    refine ev_succ ?_
    simp only [laws_FnGraphs.l0, ew]
    refine ev_ifn (by omega) (Ev.bind eD (Ev.bind a1 (Ev.bind h1 (ev_ift rfl (ev_ift (by unfold wrap64; omega) (ev_ift (by omega) ?_))))))
    dsimp only
    refine ev_ift rfl (Ev.bind eg2 (Ev.bind eg1 ?_))
    rw [show ((es.length : Int) - m + 2 != wrap64 ((es.length : Int) - m + 1 + 1)) = false by rw [show wrap64 ((es.length : Int) - m + 1 + 1) = (es.length : Int) - m + 2 by unfold wrap64; omega]; exact bne_self_eq_false _]
    refine ev_succ ?_
    simp only [laws_FnGraphs.j4]
    refine ev_iff (ev_succ ?_)
    simp only [laws_FnGraphs.j5]
    exact loop i 0 (by omega)
  have hm : ∀ v w : Nat, 0 ≤ multI m es v w ∧ multI m es v w ≤ 8 := fun v w => by have := multI_le m es v w; omega
  have hv8 : ∀ v : Nat, 0 ≤ valI m es v ∧ valI m es v ≤ 8 := fun v => by
    unfold valI
    split
    · unfold valN
      have := List.countP_le_length (p := fun e : S57 => decide (e.f0 = (v : Int)) || decide (e.f1 = (v : Int))) (l := es)
      omega
    · omega
  have inner : ∀ (v : Nat), v < m → ∀ (s : Int), Ev (fun k => laws_FnGraphs.l0 k (wrap64 (s + valI m es v)) ((v + 1 : Nat) : Int) (m : Int) es) true → ∀ (d j : Nat), j + d = m → Ev (fun k => laws_FnGraphs.l1 k s (v : Int) (sumN (fun w => multI m es v w) j) (j : Int) (m : Int) es) true := by
    intro v hv s hnext d
    induction d with
    | zero =>
      intro j hj
      obtain rfl : j = m := by omega
      refine ev_succ ?_
      simp only [laws_FnGraphs.l1]
      refine ev_ifn (by omega) (Ev.bind (impl_val_ev j es hL v) ?_)
      have hvs : valI j es v = sumN (fun w => multI j es v w) j := val_sum j v hv es hok
      rw [wrap_succ (show v < 4611686018427387904 by omega), ← hvs]
      exact ev_ift rfl hnext
    | succ d ih =>
      intro j hj
      have h := ih (j + 1) (by omega)
      have hb := sumN_nb (hm v) j
      refine ev_succ ?_
      simp only [laws_FnGraphs.l1, wrap_succ (show j < 4611686018427387904 by omega)]
      refine ev_ift (by omega) (Ev.bind (impl_mult_ev m es hL v j) ?_)
      have hmj := hm v j
      rw [show wrap64 (sumN (fun w => multI m es v w) j + multI m es v j) = sumN (fun w => multI m es v w) (j + 1) by
        show _ = sumN (fun w => multI m es v w) j + multI m es v j
        unfold wrap64
        omega]
      exact h
  have outer : ∀ (d v : Nat), v + d = m → Ev (fun k => laws_FnGraphs.l0 k (sumN (fun u => valI m es u) v) (v : Int) (m : Int) es) true := by
    intro d
    induction d with
    | zero =>
      intro v hv
      obtain rfl : v = m := by omega
      rw [hand_sum v es hok]
      exact tail
    | succ d ih =>
      intro v hv
      have h := ih (v + 1) (by omega)
      have hb := sumN_nb hv8 v
      have h8v := hv8 v
      refine ev_succ ?_
      simp only [laws_FnGraphs.l0]
      refine ev_ift (by omega) (ev_succ ?_)
      simp only [laws_FnGraphs.j2]
      refine inner v (by omega) _ ?_ m 0 (by omega)
      rw [show wrap64 (sumN (fun u => valI m es u) v + valI m es v) = sumN (fun u => valI m es u) (v + 1) by
        show _ = sumN (fun u => valI m es u) v + valI m es v
        unfold wrap64
        omega]
      exact h
  exact outer m 0 (by omega)
theorem FnGraphs : StatFnGraphs := by
  intro code ⟨hc, _⟩
  have hc' : code.length ≤ 9223372036854775807 := by unfold maxLen at hc; omega
  exact Ev.rounds (r := true) (lawGraphs code hc')
end Go.Proofs.Ytplcclifmajcfaa.Pure
end
