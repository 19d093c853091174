/- Functions of the program as plain Lean functions and that the machine's calls answer as they do, the words of the print that these use, lemmas and plain proofs of laws. Put together by a program of this work that leaves out what nothing uses; Lean checks it. -/
import Derived.Test.YtplcclifmajcfaaGe886775547
import Derived.Test.YtplcclifmajcfaaGc83f7ca425
import Derived.Test.YtplcclifmajcfaaG06245848e3
import Derived.Test.YtplcclifmajcfaaG33280d3144
section
set_option linter.unusedVariables false
set_option linter.unusedSimpArgs false
namespace Go.Proofs.Ytplcclifmajcfaa.Pure
open Go.RowKit Go.Proofs.Ytplcclifmajcfaa.P Go.Proofs.YtplcclifmajcfaaW.PrintWords Go.Proofs.YtplcclifmajcfaaW.PrintLast Go.Proofs.YtplcclifmajcfaaW.PrintMore Go.Proofs.Ytplcclifmajcfaa.Base Go.Proofs.Ytplcclifmajcfaa.Bits Go.Proofs.Ytplcclifmajcfaa.Loops
def SortedE (es : List S57) : Prop := ∀ i, i + 1 < es.length → ¬ ((es.getD (i + 1) z57).f0 < (es.getD i z57).f0 ∨ ((es.getD (i + 1) z57).f0 = (es.getD i z57).f0 ∧ (es.getD (i + 1) z57).f1 < (es.getD i z57).f1))
def ConnE (n : Int) (es : List S57) : Prop := ∀ P : Int → Prop, P 0 → (∀ e ∈ es, P e.f0 ↔ P e.f1) → ∀ v, 0 ≤ v → v < n → P v
def GraphP (n : Int) (es : List S57) : Prop := edgesB n es = true ∧ SortedE es ∧ ConnE n es
theorem rdE_nat (es : List S57) (i : Nat) : rd_T57 es (i : Int) = es.getD i z57 := by unfold rd_T57; rw [Int.toNat_natCast]
theorem edgesB_facts {n : Int} {es : List S57} (h : edgesB n es = true) : 1 ≤ n ∧ n ≤ 6 ∧ es.length ≤ 12 ∧ ∀ e ∈ es, 0 ≤ e.f0 ∧ e.f0 < e.f1 ∧ e.f1 < n := by
  simp only [edgesB, Bool.and_eq_true, decide_eq_true_eq, List.all_eq_true] at h
  exact ⟨h.1.1.1, h.1.1.2, h.1.2, fun e he => ⟨(h.2 e he).1.1, (h.2 e he).1.2, (h.2 e he).2⟩⟩
theorem compare_eq (a0 a1 b0 b1 : Int) : ∃ c, impl_compareEdges.f a0 a1 b0 b1 = some c ∧ (c < 0 ↔ a0 < b0 ∨ (a0 = b0 ∧ a1 < b1)) := by
  have hc : ∀ x y : Int, cmp_Compare_int.f x y = some (if x < y then -1 else if x > y then 1 else 0) := by
    intro x y
    unfold cmp_Compare_int.f cmp_isNaN_int.f
    simp only [Option.bind_some, bne_self_eq_false, Bool.false_eq_true, if_false]
    by_cases h1 : x < y
    · rw [if_pos h1, if_pos h1]
    · rw [if_neg h1, if_neg h1]
      by_cases h2 : x > y
      · rw [if_pos h2, if_pos h2]
      · rw [if_neg h2, if_neg h2]
  unfold impl_compareEdges.f
  simp only [hc, Option.bind_some]
  by_cases h1 : a0 < b0
  · rw [if_pos h1, if_neg (by decide)]
    exact ⟨_, rfl, by omega⟩
  · by_cases h2 : a0 > b0
    · rw [if_neg h1, if_pos h2, if_neg (by decide)]
      exact ⟨_, rfl, by omega⟩
    · rw [if_neg h1, if_neg h2, if_pos rfl]
      refine ⟨_, rfl, ?_⟩
      by_cases h3 : a1 < b1
      · rw [if_pos h3]; omega
      · rw [if_neg h3]
        split <;> omega
theorem impl_sorted_ev (es : List S57) (hl : es.length < 4611686018427387904) : ∃ b : Bool, Ev (fun k => slices_IsSortedFunc_Edge.f k es) b ∧ (b = true ↔ SortedE es) := by
  have main : ∀ i : Nat, i < es.length → ∃ b : Bool, Ev (fun k => slices_IsSortedFunc_Edge.l0 k es (i : Int)) b ∧ (b = true ↔ ∀ j, j < i → ¬ ((es.getD (j + 1) z57).f0 < (es.getD j z57).f0 ∨ ((es.getD (j + 1) z57).f0 = (es.getD j z57).f0 ∧ (es.getD (j + 1) z57).f1 < (es.getD j z57).f1))) := by
    intro i
    induction i with
    | zero =>
      intro _
      refine ⟨true, ev1 fun k => ?_, by simp⟩
      simp only [slices_IsSortedFunc_Edge.l0]
      rw [if_neg (by omega)]
    | succ i ih =>
      intro hi
      obtain ⟨b, ⟨K, hb⟩, hiff⟩ := ih (by omega)
      have ew : wrap64 (((i + 1 : Nat) : Int) - 1) = (i : Int) := by unfold wrap64; omega
      obtain ⟨c, hc, hneg⟩ := compare_eq (es.getD (i + 1) z57).f0 (es.getD (i + 1) z57).f1 (es.getD i z57).f0 (es.getD i z57).f1
      by_cases h : c < 0
      · refine ⟨false, ev1 fun k => ?_, ?_⟩
        · simp only [slices_IsSortedFunc_Edge.l0, ew, rdE_nat, hc, Option.bind_some]
          rw [if_pos (by omega), if_pos (by omega), if_pos (by omega), if_pos (by omega), if_pos (by omega), if_pos h]
        · simp only [Bool.false_eq_true, false_iff]
          intro hall
          exact hall i (by omega) (hneg.1 h)
      · refine ⟨b, ⟨K + 1, fun k hk => ?_⟩, ?_⟩
        · obtain ⟨m, rfl⟩ : ∃ m, k = m + 1 := ⟨k - 1, by omega⟩
          have h2 := hb m (by omega)
          dsimp only at h2 ⊢
          simp only [slices_IsSortedFunc_Edge.l0, ew, rdE_nat, hc, Option.bind_some]
          rw [if_pos (by omega), if_pos (by omega), if_pos (by omega), if_pos (by omega), if_pos (by omega), if_neg h, h2]
        · rw [hiff]
          constructor
          · intro hall j hj
            by_cases e : j = i
            · subst e; exact fun hh => h (hneg.2 hh)
            · exact hall j (by omega)
          · exact fun hall j hj => hall j (by omega)
  simp only [slices_IsSortedFunc_Edge.f]
  by_cases h0 : es.length = 0
  · refine ⟨true, ev1 fun k => ?_, ?_⟩
    · simp only [slices_IsSortedFunc_Edge.l0]
      rw [if_neg (by unfold wrap64; omega)]
    · simp only [true_iff]
      intro i hi
      omega
  · obtain ⟨b, hb, hiff⟩ := main (es.length - 1) (by omega)
    have ew : wrap64 ((es.length : Int) - 1) = ((es.length - 1 : Nat) : Int) := by unfold wrap64; omega
    rw [ew]
    refine ⟨b, hb, ?_⟩
    rw [hiff]
    exact ⟨fun h i hi => h i (by omega), fun h i hi => h i (by omega)⟩
def toN (e : S57) : Nat × Nat := (e.f0.toNat, e.f1.toNat)
theorem conn_l1 (n : Nat) (es : List S57) (hn : n ≤ 6) (he : ∀ e ∈ es, 0 ≤ e.f0 ∧ e.f0 < e.f1 ∧ e.f1 < n) (x8 x9 : Int) (r : Bool) (hl : es.length < 4611686018427387904) :
    ∀ (rest : List S57) (i : Nat) (M : Nat), i ≤ es.length → es.drop i = rest → M < 2 ^ n → Ev (fun k => impl_connected.l0 k n es ((rnd (rest.map toN) M : Nat) : Int) x8 (wrap64 (x9 + 1))) r →
      Ev (fun k => impl_connected.l1 k n es (M : Int) x8 x9 es (es.length : Int) (i : Int)) r := by
  intro rest
  induction rest with
  | nil =>
    intro i M hi hd hM h
    have := drop_nil hd
    obtain ⟨K, hK⟩ := h
    refine ⟨K + 1, fun k hk => ?_⟩
    obtain ⟨m, rfl⟩ : ∃ m, k = m + 1 := ⟨k - 1, by omega⟩
    simp only [impl_connected.l1]
    rw [if_neg (by omega)]
    exact hK m (by omega)
  | cons e rest ih =>
    intro i M hi hd hM h
    have hlt := drop_lt hd
    have hmem : e ∈ es := by
      have : e ∈ es.drop i := by rw [hd]; simp
      exact List.mem_of_mem_drop this
    obtain ⟨h0, h1, h2⟩ := he e hmem
    obtain ⟨a, ha⟩ : ∃ a : Nat, e.f0 = a := ⟨e.f0.toNat, by omega⟩
    obtain ⟨b, hb⟩ : ∃ b : Nat, e.f1 = b := ⟨e.f1.toNat, by omega⟩
    have hte : toN e = (a, b) := by simp [toN, ha, hb]
    have hM62 : M < 2 ^ 62 := Nat.lt_of_lt_of_le hM (Nat.pow_le_pow_right (by decide) (by omega))
    have hlt' := upd_lt M (a, b) n hM (by show a < n; omega) (by show b < n; omega)
    rw [List.map_cons, hte] at h
    obtain ⟨K, hK⟩ := ih (i + 1) (upd M (a, b)) (by omega) (drop_next hd) hlt' h
    refine ⟨K + 1, fun k hk => ?_⟩
    obtain ⟨m, rfl⟩ : ∃ m, k = m + 1 := ⟨k - 1, by omega⟩
    have h3 := hK m (by omega)
    dsimp only at h3 ⊢
    simp only [impl_connected.l1, rd_IE hd, ha, hb, bit_of M a hM62 (by omega), bit_of M b hM62 (by omega), or_two M a b hM62 (by omega) (by omega)]
    rw [if_pos (by omega), if_pos (by omega), if_pos (by omega), if_pos (by omega), wrap_succ (by omega)]
    unfold upd at h3
    by_cases ta : M.testBit a = true
    · rw [if_pos (by simp [ta]), if_pos (by omega)]
      rw [if_pos (by simp [ta])] at h3
      exact h3
    · by_cases tb : M.testBit b = true
      · rw [if_neg (by simp [ta]), if_pos (by omega), if_pos (by simp [tb])]
        rw [if_pos (by simp [tb])] at h3
        exact h3
      · rw [if_neg (by simp [ta]), if_pos (by omega), if_neg (by simp [tb])]
        rw [if_neg (by simp [ta, tb])] at h3
        exact h3
theorem toN_lt {n : Nat} {es : List S57} (he : ∀ e ∈ es, 0 ≤ e.f0 ∧ e.f0 < e.f1 ∧ e.f1 < n) : ∀ x ∈ es.map toN, x.1 < n ∧ x.2 < n := by
  intro x hx
  obtain ⟨e, hm, rfl⟩ := List.mem_map.1 hx
  have := he e hm
  simp only [toN]
  omega
theorem impl_connected_ev (n : Nat) (es : List S57) (hn0 : 0 < n) (hn : n ≤ 6) (he : ∀ e ∈ es, 0 ≤ e.f0 ∧ e.f0 < e.f1 ∧ e.f1 < n) (hl : es.length < 4611686018427387904) :
    Ev (fun k => impl_connected.f k n es) (decide (iter (es.map toN) n 1 = 2 ^ n - 1)) := by
  have main : ∀ (d : Nat) (x9 M : Nat), x9 + d = n → M < 2 ^ n → Ev (fun k => impl_connected.l0 k n es (M : Int) n (x9 : Int)) (decide (iter (es.map toN) d M = 2 ^ n - 1)) := by
    intro d
    induction d with
    | zero =>
      intro x9 M hx hM
      refine ev1 fun k => ?_
      simp only [impl_connected.l0, iter]
      rw [if_neg (by omega), if_pos (by omega), shl_nat n (by omega)]
      have : wrap64 (((2 ^ n : Nat) : Int) - 1) = ((2 ^ n - 1 : Nat) : Int) := by
        have h1 : 2 ^ n ≤ 2 ^ 6 := Nat.pow_le_pow_right (by decide) hn
        have h2 : 0 < 2 ^ n := Nat.pow_pos (by decide)
        unfold wrap64
        omega
      rw [this]
      have e : ((M : Int) == ((2 ^ n - 1 : Nat) : Int)) = decide (M = 2 ^ n - 1) := by
        generalize 2 ^ n - 1 = q
        rw [Bool.eq_iff_iff, beq_iff_eq, decide_eq_true_eq]
        omega
      rw [e]
      rfl
    | succ d ih =>
      intro x9 M hx hM
      have h1 := ih (x9 + 1) (rnd (es.map toN) M) (by omega) (rnd_lt _ n M hM (toN_lt he))
      have h2 := conn_l1 n es hn he n x9 _ hl es 0 M (by omega) rfl hM (by rw [wrap_succ (by omega)]; exact h1)
      obtain ⟨K, hK⟩ := h2
      refine ⟨K + 1, fun k hk => ?_⟩
      obtain ⟨m, rfl⟩ : ∃ m, k = m + 1 := ⟨k - 1, by omega⟩
      have h3 := hK m (by omega)
      dsimp only [iter] at h3 ⊢
      simp only [impl_connected.l0]
      rw [if_pos (by omega)]
      exact h3
  exact main n 0 1 (by omega) (Nat.one_lt_two_pow (by omega))
theorem full_iff (n : Nat) (es : List S57) (hn0 : 0 < n) (he : ∀ e ∈ es, 0 ≤ e.f0 ∧ e.f0 < e.f1 ∧ e.f1 < n) : iter (es.map toN) n 1 = 2 ^ n - 1 ↔ ConnE n es := by
  rw [iter_full (es.map toN) n hn0 (toN_lt he)]
  constructor
  · intro h P h0 hP v hv0 hv
    obtain ⟨u, rfl⟩ : ∃ u : Nat, v = u := ⟨v.toNat, by omega⟩
    refine h (fun u => P u) h0 (fun x hx => ?_) u (by omega)
    obtain ⟨e, hm, rfl⟩ := List.mem_map.1 hx
    have hb := he e hm
    simp only [toN]
    rw [show ((e.f0.toNat : Nat) : Int) = e.f0 by omega, show ((e.f1.toNat : Nat) : Int) = e.f1 by omega]
    exact hP e hm
  · intro h P h0 hP v hv
    have := h (fun u => P u.toNat) h0 (fun e hm => hP (toN e) (List.mem_map.2 ⟨e, hm, rfl⟩)) v (by omega) (by omega)
    simpa using this
theorem impl_graphOk_iff (n : Int) (es : List S57) (hl : es.length < 4611686018427387904) : ∃ b : Bool, Ev (fun k => impl_GraphOk.f k n es) b ∧ (b = true ↔ GraphP n es) := by
  have h1 := impl_edgesOk_ev n es hl
  simp only [impl_GraphOk.f]
  by_cases hb : edgesB n es = true
  · obtain ⟨f1, f2, f3, f4⟩ := edgesB_facts hb
    obtain ⟨m, rfl⟩ : ∃ m : Nat, n = m := ⟨n.toNat, by omega⟩
    obtain ⟨b, h2, hs⟩ := impl_sorted_ev es hl
    rw [hb] at h1
    cases b with
    | false =>
      refine ⟨false, Ev.bind h1 ?_, ?_⟩
      · simp only [if_true]
        refine Ev.bind h2 ?_
        simp only [Bool.false_eq_true, if_false]
        exact Ev.now _
      · simp only [Bool.false_eq_true, false_iff] at hs ⊢
        exact fun h => hs h.2.1
    | true =>
      refine ⟨decide (iter (es.map toN) m 1 = 2 ^ m - 1), Ev.bind h1 ?_, ?_⟩
      · simp only [if_true]
        refine Ev.bind h2 ?_
        simp only [if_true]
        refine Ev.bind (impl_connected_ev m es (by omega) (by omega) f4 hl) ?_
        exact Ev.now _
      · rw [decide_eq_true_eq, full_iff m es (by omega) f4]
        simp only [true_iff] at hs
        exact ⟨fun h => ⟨hb, hs, h⟩, fun h => h.2.2⟩
  · refine ⟨false, Ev.bind h1 ?_, ?_⟩
    · simp only [hb]
      exact Ev.now _
    · simp only [Bool.false_eq_true, false_iff]
      exact fun h => hb h.1
theorem has_ev (l : List Int) (v : Int) (hl : l.length < 4611686018427387904) : Ev (fun k => spec_l02Has.f k l v) (decide (v ∈ l)) := by
  simp only [spec_l02Has.f]
  refine ev_list0 l (fun k (_ : Unit) i => spec_l02Has.l0 k v l (l.length : Int) i) (fun _ r => decide (v ∈ r)) (fun _ _ => True) (fun s _ => ev1 fun k => ?_) (fun s a rest i hlt hd _ => ?_) () trivial
  · simp only [spec_l02Has.l0]
    rw [if_neg (by omega)]; simp
  · by_cases h : a = v
    · refine Or.inl (ev1 fun k => ?_)
      simp only [spec_l02Has.l0, rd_drop hd]
      rw [if_pos (by omega), if_pos (by omega), if_pos (by omega), if_pos h]
      simp [h]
    · refine Or.inr ⟨(), trivial, ?_, 0, fun k _ => ?_⟩
      · simp [Ne.symm h]
      · simp only [spec_l02Has.l0, rd_drop hd]
        rw [if_pos (by omega), if_pos (by omega), if_pos (by omega), if_neg h, wrap_succ (by omega)]
def RInv (n : Nat) (es : List S57) (q : List Int) : Prop :=
  q.Nodup ∧ (∀ v ∈ q, 0 ≤ v ∧ v < n) ∧ (0 : Int) ∈ q ∧ ∀ P : Int → Prop, P 0 → (∀ e ∈ es, P e.f0 ↔ P e.f1) → ∀ v ∈ q, P v
theorem rinv_len {n : Nat} {es : List S57} {q : List Int} (h : RInv n es q) : q.length ≤ n := by
  have := List.Nodup.length_le_of_subset h.1 (l₂ := (List.range n).map fun i : Nat => (i : Int)) (fun v hv => by
    have hb := h.2.1 v hv
    exact List.mem_map.2 ⟨v.toNat, by simp; omega, by omega⟩)
  simpa using this
theorem rinv_add {n : Nat} {es : List S57} {q : List Int} (h : RInv n es q) {u v : Int} {e : S57} (he : e ∈ es) (hb : 0 ≤ e.f0 ∧ e.f0 < e.f1 ∧ e.f1 < n) (hu : u ∈ q) (huv : (u = e.f0 ∧ v = e.f1) ∨ (u = e.f1 ∧ v = e.f0)) (hv : v ∉ q) : RInv n es (q ++ [v]) := by
  refine ⟨?_, fun x hx => ?_, by simp [h.2.2.1], fun P h0 hP x hx => ?_⟩
  · rw [List.nodup_append]
    refine ⟨h.1, by simp, fun a ha b hb' => ?_⟩
    simp at hb'
    subst hb'
    intro e'
    subst e'
    exact hv ha
  · rcases List.mem_append.1 hx with hx | hx
    · exact h.2.1 x hx
    · simp at hx
      omega
  · rcases List.mem_append.1 hx with hx | hx
    · exact h.2.2.2 P h0 hP x hx
    · simp at hx
      subst hx
      have := h.2.2.2 P h0 hP u hu
      rcases huv with ⟨h1, h2⟩ | ⟨h1, h2⟩
      · rw [h2]; exact (hP e he).1 (h1 ▸ this)
      · rw [h2]; exact (hP e he).2 (h1 ▸ this)
theorem get_mem_append {q : List Int} {i : Nat} (h : i < q.length) (v : Int) : rd (q ++ [v]) (i : Int) = rd q (i : Int) := by
  rw [rd_nat q i h, rd_nat (q ++ [v]) i (by simp; omega), List.getElem_append_left h]
theorem reach_step (n : Nat) (es : List S57) (q : List Int) (pos i : Nat) (e : S57) (rest : List S57) (hd : es.drop i = e :: rest) (hne : e.f0 ≠ e.f1) (hpos : pos < q.length) (hq : q.length ≤ 6) (hl : es.length < 4611686018427387904) (r : List Int)
    (h : Ev (fun k => spec_l02Reach.l1 k (if e.f0 = rd q pos ∧ e.f1 ∉ q then q ++ [e.f1] else if e.f1 = rd q pos ∧ e.f0 ∉ q then q ++ [e.f0] else q) (pos : Int) es (es.length : Int) ((i + 1 : Nat) : Int) n es) r) :
    Ev (fun k => spec_l02Reach.l1 k q (pos : Int) es (es.length : Int) (i : Int) n es) r := by
  have hlt := drop_lt hd
  have b1 := has_ev q e.f1 (by omega)
  have tail : ∀ q' : List Int, pos < q'.length → q'.length ≤ 7 →
      Ev (fun k => spec_l02Reach.l1 k (if e.f1 = rd q' pos ∧ e.f0 ∉ q' then q' ++ [e.f0] else q') (pos : Int) es (es.length : Int) ((i + 1 : Nat) : Int) n es) r →
      Ev (fun k => spec_l02Reach.j3 k q' (pos : Int) es (es.length : Int) (i : Int) n es e.f0 e.f1) r := by
    intro q' hp' hq' h'
    have b2 := has_ev q' e.f0 (by omega)
    refine ev_succ ?_
    simp only [spec_l02Reach.j3, wrap_succ (show i < 4611686018427387904 by omega)]
    refine ev_ift (by omega) (ev_ift (by omega) ?_)
    by_cases c1 : e.f1 = rd q' pos
    · refine ev_ift c1 (Ev.bind b2 ?_)
      by_cases m0 : e.f0 ∈ q'
      · rw [if_neg (fun hh => hh.2 m0)] at h'
        exact ev_ift (by simp [m0]) h'
      · rw [if_pos ⟨c1, m0⟩] at h'
        exact ev_ifn (by simp [m0]) (ev_ift (by omega) h')
    · rw [if_neg (fun hh => c1 hh.1)] at h'
      exact ev_ifn c1 h'
  refine ev_succ ?_
  simp only [spec_l02Reach.l1, rd_IE hd]
  refine ev_ift (by omega) (ev_ift (by omega) (ev_ift (by omega) (ev_ift (by omega) (ev_ift (by omega) ?_))))
  by_cases c0 : e.f0 = rd q pos
  · have c1 : ¬ e.f1 = rd q pos := fun hh => hne (c0.trans hh.symm)
    refine ev_ift c0 (Ev.bind b1 (ev_succ ?_))
    simp only [spec_l02Reach.j2]
    by_cases m1 : e.f1 ∈ q
    · rw [if_neg (fun hh => hh.2 m1), if_neg (fun hh => c1 hh.1)] at h
      refine ev_ifn (by simp [m1]) (tail q hpos (by omega) ?_)
      rw [if_neg (fun hh => c1 hh.1)]
      exact h
    · rw [if_pos ⟨c0, m1⟩] at h
      refine ev_ift (by simp [m1]) (ev_ift (by omega) (tail (q ++ [e.f1]) (by simp; omega) (by simp; omega) ?_))
      rw [get_mem_append hpos, if_neg (fun hh => c1 hh.1)]
      exact h
  · refine ev_ifn c0 (ev_succ ?_)
    simp only [spec_l02Reach.j2]
    rw [if_neg (fun hh => c0 hh.1)] at h
    exact ev_ifn (by simp) (tail q hpos (by omega) h)
def Done (es : List S57) (q : List Int) (pos : Nat) : Prop := ∀ j, j < pos → ∀ e ∈ es, (e.f0 = rd q j → e.f1 ∈ q) ∧ (e.f1 = rd q j → e.f0 ∈ q)
theorem done_add {es : List S57} {q : List Int} {pos : Nat} (h : Done es q pos) (hp : pos ≤ q.length) (v : Int) : Done es (q ++ [v]) pos := by
  intro j hj e he
  rw [get_mem_append (by omega)]
  have := h j hj e he
  exact ⟨fun hh => List.mem_append_left _ (this.1 hh), fun hh => List.mem_append_left _ (this.2 hh)⟩
theorem reach_inner (n : Nat) (hn : n ≤ 6) (es : List S57) (he : ∀ e ∈ es, 0 ≤ e.f0 ∧ e.f0 < e.f1 ∧ e.f1 < n) (hl : es.length < 4611686018427387904) (pos : Nat)
    (next : ∀ q, RInv n es q → Done es q (pos + 1) → pos < q.length → ∃ r, Ev (fun k => spec_l02Reach.l0 k q ((pos + 1 : Nat) : Int) n es) r ∧ RInv n es r ∧ Done es r r.length) :
    ∀ (rest : List S57) (i : Nat) (q : List Int), i ≤ es.length → es.drop i = rest → RInv n es q → Done es q pos → pos < q.length →
      (∀ e ∈ es.take i, (e.f0 = rd q pos → e.f1 ∈ q) ∧ (e.f1 = rd q pos → e.f0 ∈ q)) →
      ∃ r, Ev (fun k => spec_l02Reach.l1 k q (pos : Int) es (es.length : Int) (i : Int) n es) r ∧ RInv n es r ∧ Done es r r.length := by
  intro rest
  induction rest with
  | nil =>
    intro i q hi hd hinv hdone hpos hpart
    have hge := drop_nil hd
    have hlen := rinv_len hinv
    rw [List.take_of_length_le hge] at hpart
    obtain ⟨r, ⟨K, hK⟩, h1, h2⟩ := next q hinv (fun j hj => by
      by_cases e : j = pos
      · subst e; exact hpart
      · exact hdone j (by omega)) hpos
    refine ⟨r, ⟨K + 1, fun k hk => ?_⟩, h1, h2⟩
    obtain ⟨m, rfl⟩ : ∃ m, k = m + 1 := ⟨k - 1, by omega⟩
    have h3 := hK m (by omega)
    dsimp only at h3 ⊢
    simp only [spec_l02Reach.l1]
    rw [if_neg (by omega), wrap_succ (by omega), h3]
  | cons e rest ih =>
    intro i q hi hd hinv hdone hpos hpart
    have hlt := drop_lt hd
    have hmem : e ∈ es := by
      have : e ∈ es.drop i := by rw [hd]; simp
      exact List.mem_of_mem_drop this
    have hb := he e hmem
    have hlen := rinv_len hinv
    have hx : rd q pos ∈ q := by rw [rd_nat q pos hpos]; exact List.getElem_mem _
    have htake : es.take (i + 1) = es.take i ++ [e] := take_drop hd
    have step := reach_step n es q pos i e rest hd (by omega) hpos (by omega) hl
    by_cases c0 : e.f0 = rd q pos ∧ e.f1 ∉ q
    · obtain ⟨r, hr, h1, h2⟩ := ih (i + 1) (q ++ [e.f1]) (by omega) (drop_next hd) (rinv_add hinv hmem hb hx (Or.inl ⟨c0.1.symm, rfl⟩) c0.2) (done_add hdone (by omega) _) (by simp; omega) (fun x hx' => by
        rw [get_mem_append hpos]
        rw [htake] at hx'
        rcases List.mem_append.1 hx' with hx' | hx'
        · have := hpart x hx'
          exact ⟨fun hh => List.mem_append_left _ (this.1 hh), fun hh => List.mem_append_left _ (this.2 hh)⟩
        · simp at hx'
          subst hx'
          exact ⟨fun _ => by simp, fun hh => absurd (c0.1.trans hh.symm) (by omega)⟩)
      refine ⟨r, step r ?_, h1, h2⟩
      simp only [if_pos c0]
      exact hr
    · by_cases c1 : e.f1 = rd q pos ∧ e.f0 ∉ q
      · obtain ⟨r, hr, h1, h2⟩ := ih (i + 1) (q ++ [e.f0]) (by omega) (drop_next hd) (rinv_add hinv hmem hb hx (Or.inr ⟨c1.1.symm, rfl⟩) c1.2) (done_add hdone (by omega) _) (by simp; omega) (fun x hx' => by
          rw [get_mem_append hpos]
          rw [htake] at hx'
          rcases List.mem_append.1 hx' with hx' | hx'
          · have := hpart x hx'
            exact ⟨fun hh => List.mem_append_left _ (this.1 hh), fun hh => List.mem_append_left _ (this.2 hh)⟩
          · simp at hx'
            subst hx'
            exact ⟨fun hh => absurd (hh.trans c1.1.symm) (by omega), fun _ => by simp⟩)
        refine ⟨r, step r ?_, h1, h2⟩
        simp only [if_neg c0, if_pos c1]
        exact hr
      · obtain ⟨r, hr, h1, h2⟩ := ih (i + 1) q (by omega) (drop_next hd) hinv hdone hpos (fun x hx' => by
          rw [htake] at hx'
          rcases List.mem_append.1 hx' with hx' | hx'
          · exact hpart x hx'
          · simp at hx'
            subst hx'
            exact ⟨fun hh => Classical.byContradiction fun hn => c0 ⟨hh, hn⟩, fun hh => Classical.byContradiction fun hn => c1 ⟨hh, hn⟩⟩)
        refine ⟨r, step r ?_, h1, h2⟩
        simp only [if_neg c0, if_neg c1]
        exact hr
theorem reach_ev (n : Nat) (hn0 : 0 < n) (hn : n ≤ 6) (es : List S57) (he : ∀ e ∈ es, 0 ≤ e.f0 ∧ e.f0 < e.f1 ∧ e.f1 < n) (hl : es.length < 4611686018427387904) :
    ∃ r, Ev (fun k => spec_l02Reach.f k n es) r ∧ RInv n es r ∧ Done es r r.length := by
  have main : ∀ (d pos : Nat) (q : List Int), RInv n es q → Done es q pos → pos ≤ q.length → n < pos + d → ∃ r, Ev (fun k => spec_l02Reach.l0 k q (pos : Int) n es) r ∧ RInv n es r ∧ Done es r r.length := by
    intro d
    induction d with
    | zero =>
      intro pos q hinv _ hp hd
      have := rinv_len hinv
      omega
    | succ d ih =>
      intro pos q hinv hdone hp hd
      by_cases hlt : pos < q.length
      · obtain ⟨r, ⟨K, hK⟩, h1, h2⟩ := reach_inner n hn es he hl pos (fun q' h1 h2 h3 => ih (pos + 1) q' h1 h2 (by omega) (by omega)) es 0 q (by omega) rfl hinv hdone hlt (fun e he' => by simp at he')
        refine ⟨r, ⟨K + 1, fun k hk => ?_⟩, h1, h2⟩
        obtain ⟨m, rfl⟩ : ∃ m, k = m + 1 := ⟨k - 1, by omega⟩
        have h3 := hK m (by omega)
        dsimp only at h3 ⊢
        simp only [spec_l02Reach.l0]
        rw [if_pos (by omega)]
        exact h3
      · refine ⟨q, ev1 fun k => ?_, hinv, ?_⟩
        · simp only [spec_l02Reach.l0]
          rw [if_neg (by omega)]
        · have : pos = q.length := by omega
          rw [this] at hdone
          exact hdone
  refine main (n + 1) 0 [0] ⟨by simp, fun v hv => by simp at hv; omega, by simp, fun P h0 _ v hv => by simp at hv; rw [hv]; exact h0⟩ (fun j hj => by omega) (by simp) (by omega)
theorem reach_all (n : Nat) (es : List S57) (r : List Int) (h1 : RInv n es r) (h2 : Done es r r.length) : ((r.length : Int) == n) = true ↔ ConnE n es := by
  have hlen := rinv_len h1
  constructor
  · intro h P h0 hP v hv0 hv
    simp at h
    refine h1.2.2.2 P h0 hP v (Classical.byContradiction fun hno => ?_)
    have := List.Nodup.length_le_of_subset (l₁ := v :: r) (by rw [List.nodup_cons]; exact ⟨hno, h1.1⟩) (l₂ := (List.range n).map fun i : Nat => (i : Int)) (fun u hu => by
      have hb : 0 ≤ u ∧ u < n := by
        rcases List.mem_cons.1 hu with rfl | hu
        · omega
        · exact h1.2.1 u hu
      exact List.mem_map.2 ⟨u.toNat, by simp; omega, by omega⟩)
    simp at this
    omega
  · intro h
    have hall := h (fun v => v ∈ r) h1.2.2.1 (fun e he => by
      constructor
      · intro hm
        obtain ⟨j, hj, hjv⟩ := List.mem_iff_getElem.1 hm
        exact (h2 j hj e he).1 (by rw [rd_nat r j hj]; exact hjv.symm)
      · intro hm
        obtain ⟨j, hj, hjv⟩ := List.mem_iff_getElem.1 hm
        exact (h2 j hj e he).2 (by rw [rd_nat r j hj]; exact hjv.symm))
    have := List.Nodup.length_le_of_subset (l₁ := (List.range n).map fun i : Nat => (i : Int)) (l₂ := r) (by
      refine List.Pairwise.map _ (fun a b hab => ?_) List.nodup_range
      show (a : Int) ≠ b
      omega) (fun v hv => by
      obtain ⟨i, hi, rfl⟩ := List.mem_map.1 hv
      simp at hi
      exact hall _ (by omega) (by omega))
    simp at this ⊢
    omega
theorem spec_graphOk_iff (n : Int) (es : List S57) (hl : es.length < 4611686018427387904) : ∃ b : Bool, Ev (fun k => spec_GraphOk.f k n es) b ∧ (b = true ↔ GraphP n es) := by
  have h1 := spec_edgesOk_ev n es hl
  simp only [spec_GraphOk.f]
  by_cases hb : edgesB n es = true
  · obtain ⟨f1, f2, f3, f4⟩ := edgesB_facts hb
    obtain ⟨m, rfl⟩ : ∃ m : Nat, n = m := ⟨n.toNat, by omega⟩
    obtain ⟨r, hr, r1, r2⟩ := reach_ev m (by omega) (by omega) es f4 hl
    rw [hb] at h1
    have main : ∀ (d i : Nat), i + d = es.length → ∃ b : Bool, Ev (fun k => spec_GraphOk.l0 k es (es.length : Int) (i : Int) m es) b ∧
        (b = true ↔ (∀ j, i ≤ j + 1 → j + 1 < es.length → ¬ ((es.getD (j + 1) z57).f0 < (es.getD j z57).f0 ∨ ((es.getD (j + 1) z57).f0 = (es.getD j z57).f0 ∧ (es.getD (j + 1) z57).f1 < (es.getD j z57).f1))) ∧ ConnE m es) := by
      intro d
      induction d with
      | zero =>
        intro i hi
        obtain ⟨K, hK⟩ := hr
        refine ⟨((r.length : Int) == m), ⟨K + 1, fun k hk => ?_⟩, ?_⟩
        · obtain ⟨p, rfl⟩ : ∃ p, k = p + 1 := ⟨k - 1, by omega⟩
          have h3 := hK p (by omega)
          dsimp only at h3 ⊢
          simp only [spec_GraphOk.l0]
          rw [if_neg (by omega), h3]
          rfl
        · rw [reach_all m es r r1 r2]
          exact ⟨fun h => ⟨fun j h1 h2 => by omega, h⟩, fun h => h.2⟩
      | succ d ih =>
        intro i hi
        obtain ⟨b, hK, hiff⟩ := ih (i + 1) (by omega)
        have stop : Ev (fun k => spec_GraphOk.j1 k es (es.length : Int) (i : Int) true m es) false := ev1 fun k => by simp only [spec_GraphOk.j1, if_true]
        have go : Ev (fun k => spec_GraphOk.j1 k es (es.length : Int) (i : Int) false m es) b := by
          refine ev_succ ?_
          simp only [spec_GraphOk.j1, Bool.false_eq_true, if_false, wrap_succ (show i < 4611686018427387904 by omega)]
          exact hK
        by_cases i0 : i = 0
        · subst i0
          refine ⟨b, ev_succ ?_, ?_⟩
          · simp only [spec_GraphOk.l0]
            exact ev_ift (by omega) (ev_ift (by omega) (ev_ift (by omega) (ev_ifn (by omega) go)))
          · rw [hiff]
            exact ⟨fun h => ⟨fun j _ h2 => h.1 j (by omega) h2, h.2⟩, fun h => ⟨fun j _ h2 => h.1 j (by omega) h2, h.2⟩⟩
        · obtain ⟨p, rfl⟩ : ∃ p, i = p + 1 := ⟨i - 1, by omega⟩
          have ew : wrap64 (((p + 1 : Nat) : Int) - 1) = (p : Int) := by unfold wrap64; omega
          by_cases hc : (es.getD (p + 1) z57).f0 < (es.getD p z57).f0 ∨ ((es.getD (p + 1) z57).f0 = (es.getD p z57).f0 ∧ (es.getD (p + 1) z57).f1 < (es.getD p z57).f1)
          · refine ⟨false, ev_succ ?_, ?_⟩
            · simp only [spec_GraphOk.l0, ew, rdE_nat]
              refine ev_ift (by omega) (ev_ift (by omega) (ev_ift (by omega) (ev_ift (by omega) (ev_ift (by omega) (ev_ift (by omega) ?_)))))
              by_cases c0 : (es.getD (p + 1) z57).f0 < (es.getD p z57).f0
              · exact ev_ift c0 stop
              · have c1 : (es.getD (p + 1) z57).f1 < (es.getD p z57).f1 := by omega
                simp only [decide_eq_true c1]
                exact ev_ifn c0 (ev_ift (by omega) stop)
            · simp only [Bool.false_eq_true, false_iff]
              exact fun h => h.1 p (by omega) (by omega) hc
          · refine ⟨b, ev_succ ?_, ?_⟩
            · simp only [spec_GraphOk.l0, ew, rdE_nat]
              refine ev_ift (by omega) (ev_ift (by omega) (ev_ift (by omega) (ev_ift (by omega) (ev_ift (by omega) (ev_ift (by omega) (ev_ifn (by omega) ?_))))))
              by_cases c0 : (es.getD (p + 1) z57).f0 = (es.getD p z57).f0
              · have c1 : ¬ (es.getD (p + 1) z57).f1 < (es.getD p z57).f1 := by omega
                simp only [decide_eq_false c1]
                exact ev_ift c0 go
              · exact ev_ifn c0 go
            · rw [hiff]
              refine ⟨fun h => ⟨fun j h1 h2 => ?_, h.2⟩, fun h => ⟨fun j _ h2 => h.1 j (by omega) h2, h.2⟩⟩
              by_cases e : j = p
              · subst e; exact hc
              · exact h.1 j (by omega) h2
    obtain ⟨b, hb2, hiff⟩ := main es.length 0 (by omega)
    refine ⟨b, Ev.bind h1 ?_, ?_⟩
    · simp only [if_true]
      exact hb2
    · rw [hiff]
      exact ⟨fun h => ⟨hb, fun i hi => h.1 i (by omega) hi, h.2⟩, fun h => ⟨fun j _ h2 => h.2.1 j h2, h.2.2⟩⟩
  · refine ⟨false, Ev.bind h1 ?_, ?_⟩
    · simp only [hb]
      exact Ev.now _
    · simp only [Bool.false_eq_true, false_iff]
      exact fun h => hb h.1
theorem graphOk_both (n : Int) (es : List S57) (hl : es.length < 4611686018427387904) : ∃ b : Bool, Ev (fun k => impl_GraphOk.f k n es) b ∧ Ev (fun k => spec_GraphOk.f k n es) b ∧ (b = true ↔ GraphP n es) := by
  obtain ⟨b, h1, i1⟩ := impl_graphOk_iff n es hl
  obtain ⟨b', h2, i2⟩ := spec_graphOk_iff n es hl
  have : b' = b := by rw [Bool.eq_iff_iff, i1, i2]
  subst this
  exact ⟨b', h1, h2, i1⟩
end Go.Proofs.Ytplcclifmajcfaa.Pure
end
section
set_option linter.unusedVariables false
set_option linter.unusedSimpArgs false
namespace Go.Proofs.Ytplcclifmajcfaa.Pure
open Go.RowKit Go.Proofs.Ytplcclifmajcfaa.P Go.Proofs.YtplcclifmajcfaaW.PrintWords Go.Proofs.YtplcclifmajcfaaW.PrintLast Go.Proofs.YtplcclifmajcfaaW.PrintMore Go.Proofs.Ytplcclifmajcfaa.Base Go.Proofs.Ytplcclifmajcfaa.Loops
theorem eqIntS_l0 (l : List Int) (hl : l.length < 4611686018427387904) : ∀ (d k i : Nat), i + d = l.length → d < k → laws_eqIntS.l0 k l l (i : Int) = some true := by
  intro d
  induction d with
  | zero =>
    intro k i hi hk
    obtain ⟨k, rfl⟩ := succ_of_lt hk
    simp only [laws_eqIntS.l0]
    rw [if_neg (by omega)]
  | succ d ih =>
    intro k i hi hk
    obtain ⟨k, rfl⟩ := succ_of_lt hk
    simp only [laws_eqIntS.l0]
    rw [if_pos (by omega), if_pos (by omega), if_pos (by omega), wrap_succ (by omega)]
    exact ih k (i + 1) (by omega) (by omega)
theorem eqIntS_ev (l : List Int) (hl : l.length < 4611686018427387904) : Ev (fun k => laws_eqIntS.f k l l) true := by
  refine ev_k l.length fun k hk => ?_
  unfold laws_eqIntS.f
  simp only [if_true]
  exact eqIntS_l0 l hl l.length k 0 (by omega) hk
end Go.Proofs.Ytplcclifmajcfaa.Pure
end
section
set_option linter.unusedVariables false
set_option linter.unusedSimpArgs false
namespace Go.Proofs.Ytplcclifmajcfaa.Pure
open Go.RowKit Go.Proofs.Ytplcclifmajcfaa.P Go.Proofs.YtplcclifmajcfaaW.PrintWords Go.Proofs.YtplcclifmajcfaaW.PrintLast Go.Proofs.YtplcclifmajcfaaW.PrintMore Go.Proofs.Ytplcclifmajcfaa.Base Go.Proofs.Ytplcclifmajcfaa.Loops Go.Proofs.Ytplcclifmajcfaa.Bits
def lapRow (n : Nat) (es : List S57) (v : Nat) : List Int := (List.range n).map fun w : Nat => if v = w then valI n es v else wrap64 (-(multI n es v w))
def lapM (n : Nat) (es : List S57) (k : Nat) : List (List Int) := (List.range k).map (lapRow n es)
theorem implLap_row (n : Nat) (hn : n ≤ 6) (es : List S57) (hl : es.length < 4611686018427387904) (v : Nat) (hv : v < n) (x3 : List (List Int)) (h3 : x3.length ≤ 6) (r : List (List Int))
    (hr : Ev (fun k => impl_LaplacianOf.l0 k (x3 ++ [lapRow n es v]) ((v + 1 : Nat) : Int) n es) r) :
    Ev (fun k => impl_LaplacianOf.l1 k x3 (v : Int) (List.replicate n 0) (n : Int) 0 n es) r := by
  have main : ∀ (d i : Nat) (x : List Int), i + d = n → x.length = n → (∀ j, j < i → x.getD j 0 = wrap64 (-(multI n es v j))) → Ev (fun k => impl_LaplacianOf.l1 k x3 (v : Int) x (n : Int) (i : Int) n es) r := by
    intro d
    induction d with
    | zero =>
      intro i x hi hx hj
      obtain rfl : i = n := by omega
      have e : x.set v (valI i es v) = lapRow i es v := by
        refine list_eq0 (by simp [lapRow, hx]) fun u hu => ?_
        have hu' : u < i := by simpa [hx] using hu
        unfold lapRow
        rw [getD_range _ _ _ hu', getD_set0 _ _ _ _ (by omega)]
        by_cases c : v = u
        · simp [c]
        · rw [if_neg c, if_neg c]; exact hj u hu'
      refine ev_succ ?_
      simp only [impl_LaplacianOf.l1, Int.toNat_natCast, wrap_succ (show v < 4611686018427387904 by omega)]
      refine ev_ifn (by omega) (Ev.bind (impl_val_ev i es hl v) (ev_ift (by omega) (ev_ift (by omega) (ev_ift (by omega) ?_))))
      rw [e]
      exact hr
    | succ d ih =>
      intro i x hi hx hj
      have h1 := ih (i + 1) (x.set i (wrap64 (-(multI n es v i)))) (by omega) (by simpa using hx) (fun j hj' => by
        rw [getD_set0 _ _ _ _ (by omega)]
        by_cases c : i = j
        · rw [if_pos c, c]
        · rw [if_neg c]; exact hj j (by omega))
      refine ev_succ ?_
      simp only [impl_LaplacianOf.l1, Int.toNat_natCast, wrap_succ (show i < 4611686018427387904 by omega)]
      exact ev_ift (by omega) (Ev.bind (impl_mult_ev n es hl v i) (ev_ift (by omega) (ev_ift (by omega) h1)))
  exact main n 0 _ (by omega) (by simp) (fun j hj => by omega)
theorem lapM_succ (n : Nat) (es : List S57) (k : Nat) : lapM n es (k + 1) = lapM n es k ++ [lapRow n es k] := by
  unfold lapM
  rw [List.range_succ, List.map_append]; rfl
theorem lapM_len (n : Nat) (es : List S57) (k : Nat) : (lapM n es k).length = k := by simp [lapM]
theorem implLap_ev (n : Nat) (hn : n ≤ 6) (es : List S57) (hl : es.length < 4611686018427387904) : Ev (fun k => impl_LaplacianOf.l0 k [] 0 n es) (lapM n es n) := by
  have main : ∀ (d i : Nat), i + d = n → Ev (fun k => impl_LaplacianOf.l0 k (lapM n es i) (i : Int) n es) (lapM n es n) := by
    intro d
    induction d with
    | zero =>
      intro i hi
      obtain rfl : i = n := by omega
      refine ev_succ ?_
      simp only [impl_LaplacianOf.l0]
      exact ev_ifn (by omega) (Ev.now _)
    | succ d ih =>
      intro i hi
      have h1 := ih (i + 1) (by omega)
      rw [lapM_succ] at h1
      have h2 := implLap_row n hn es hl i (by omega) (lapM n es i) (by rw [lapM_len]; omega) _ h1
      refine ev_succ ?_
      simp only [impl_LaplacianOf.l0, Option.bind_some, Int.toNat_natCast, List.length_replicate]
      exact ev_ift (by omega) (ev_ift (by omega) (ev_ift (by omega) h2))
  exact main n 0 (by omega)
theorem specLap_row (n : Nat) (hn : n ≤ 6) (es : List S57) (hl : es.length < 4611686018427387904) (v : Nat) (hv : v < n) (x3 : List (List Int)) (h3 : x3.length ≤ 6) (r : List (List Int))
    (hr : Ev (fun k => spec_LaplacianOf.l0 k (x3 ++ [lapRow n es v]) ((v + 1 : Nat) : Int) n es) r) :
    Ev (fun k => spec_LaplacianOf.l1 k x3 (v : Int) [] 0 n es) r := by
  have main : ∀ (d i : Nat), i + d = n → Ev (fun k => spec_LaplacianOf.l1 k x3 (v : Int) ((List.range i).map fun w : Nat => if v = w then valI n es v else wrap64 (-(multI n es v w))) (i : Int) n es) r := by
    intro d
    induction d with
    | zero =>
      intro i hi
      obtain rfl : i = n := by omega
      refine ev_succ ?_
      simp only [spec_LaplacianOf.l1, wrap_succ (show v < 4611686018427387904 by omega)]
      exact ev_ifn (by omega) (ev_ift (by omega) hr)
    | succ d ih =>
      intro i hi
      have h1 := ih (i + 1) (by omega)
      rw [List.range_succ, List.map_append] at h1
      simp only [List.map_cons, List.map_nil] at h1
      refine ev_succ ?_
      simp only [spec_LaplacianOf.l1, wrap_succ (show i < 4611686018427387904 by omega)]
      refine ev_ift (by omega) ?_
      by_cases c : v = i
      · rw [if_pos c] at h1
        exact ev_ift (by omega) (Ev.bind (spec_val_ev n es hl v) (ev_ift (by simp; omega) h1))
      · rw [if_neg c] at h1
        exact ev_ifn (by omega) (Ev.bind (spec_mult_ev n es hl v i) (ev_ift (by simp; omega) h1))
  exact main n 0 (by omega)
theorem specLap_ev (n : Nat) (hn : n ≤ 6) (es : List S57) (hl : es.length < 4611686018427387904) : Ev (fun k => spec_LaplacianOf.l0 k [] 0 n es) (lapM n es n) := by
  have main : ∀ (d i : Nat), i + d = n → Ev (fun k => spec_LaplacianOf.l0 k (lapM n es i) (i : Int) n es) (lapM n es n) := by
    intro d
    induction d with
    | zero =>
      intro i hi
      obtain rfl : i = n := by omega
      refine ev_succ ?_
      simp only [spec_LaplacianOf.l0]
      exact ev_ifn (by omega) (Ev.now _)
    | succ d ih =>
      intro i hi
      have h1 := ih (i + 1) (by omega)
      rw [lapM_succ] at h1
      have h2 := specLap_row n hn es hl i (by omega) (lapM n es i) (by rw [lapM_len]; omega) _ h1
      refine ev_succ ?_
      simp only [spec_LaplacianOf.l0]
      exact ev_ift (by omega) h2
  exact main n 0 (by omega)
theorem laplacian_both (n : Int) (es : List S57) (hl : es.length < 4611686018427387904) :
    ∃ r : List (List Int), Ev (fun k => impl_LaplacianOf.f k n es) r ∧ Ev (fun k => spec_LaplacianOf.f k n es) r ∧ (r.length ≤ 6 ∧ ∀ x ∈ r, x.length ≤ 6) ∧
      (r = [] ∧ ¬ GraphP n es ∨ GraphP n es ∧ ∃ m : Nat, n = m ∧ r = lapM m es m) := by
  obtain ⟨b, h1, h2, hb⟩ := graphOk_both n es hl
  simp only [impl_LaplacianOf.f, spec_LaplacianOf.f]
  cases b with
  | false => exact ⟨[], Ev.bind h1 (ev_iff (Ev.now _)), Ev.bind h2 (ev_iff (Ev.now _)), ⟨by simp, by simp⟩, Or.inl ⟨rfl, fun h => by have := hb.2 h; cases this⟩⟩
  | true =>
    simp only [true_iff] at hb
    obtain ⟨f1, f2, f3, f4⟩ := edgesB_facts hb.1
    obtain ⟨m, rfl⟩ : ∃ m : Nat, n = m := ⟨n.toNat, by omega⟩
    refine ⟨lapM m es m, Ev.bind h1 (ev_ift rfl (implLap_ev m (by omega) es hl)), Ev.bind h2 (ev_ift rfl (specLap_ev m (by omega) es hl)), ⟨by rw [lapM_len]; omega, fun x hx => ?_⟩, Or.inr ⟨hb, m, rfl, rfl⟩⟩
    unfold lapM at hx
    rw [List.mem_map] at hx
    obtain ⟨i, _, rfl⟩ := hx
    simp [lapRow]; omega
end Go.Proofs.Ytplcclifmajcfaa.Pure
end
section
set_option linter.unusedVariables false
set_option linter.unusedSimpArgs false
namespace Go.Proofs.Ytplcclifmajcfaa.Pure
open Go.RowKit Go.Proofs.Ytplcclifmajcfaa.P Go.Proofs.YtplcclifmajcfaaW.PrintWords Go.Proofs.YtplcclifmajcfaaW.PrintLast Go.Proofs.YtplcclifmajcfaaW.PrintMore Go.Proofs.Ytplcclifmajcfaa.Base Go.Proofs.Ytplcclifmajcfaa.Loops
def mkE (m : Nat) : List S57 := (List.range m).map fun i : Nat => ⟨2 * (i : Int) + 1, 2 * (i : Int) + 2⟩
theorem mkE_len (m : Nat) : (mkE m).length = m := by simp [mkE]
theorem mkE_drop {m i : Nat} (h : i < m) : (mkE m).drop i = ⟨2 * (i : Int) + 1, 2 * (i : Int) + 2⟩ :: (mkE m).drop (i + 1) := by
  rw [List.drop_eq_getElem_cons (by rw [mkE_len]; exact h)]
  congr 1
  simp [mkE]
theorem markG_ev (n : Int) (l : List S57) (hl : l.length < 2305843009213693952) : Ev (fun k => laws_markGraph.f k n l 1) (2 * (l.length : Int) + 1, mkE l.length) := by
  have main : ∀ (d i : Nat) (x : List S57), i + d = l.length → x.length = l.length → x.take i = (mkE l.length).take i → Ev (fun k => laws_markEdgeS.l0 k x (2 * (i : Int) + 1) (i : Int)) (2 * (l.length : Int) + 1, mkE l.length) := by
    intro d
    induction d with
    | zero =>
      intro i x hi hx ht
      obtain rfl : i = l.length := by omega
      have e : x = mkE l.length := fill_end (by rw [hx, mkE_len]) (by rw [mkE_len]; exact ht)
      refine ev_succ ?_
      simp only [laws_markEdgeS.l0]
      rw [e]
      exact ev_ifn (by rw [mkE_len]; omega) (Ev.now _)
    | succ d ih =>
      intro i x hi hx ht
      have hil : i < x.length := by omega
      have hr : rd_T57 (x.set i (⟨2 * (i : Int) + 1, (rd_T57 x i).f1⟩ : S57)) (i : Int) = ⟨2 * (i : Int) + 1, (rd_T57 x i).f1⟩ := by
        unfold rd_T57
        rw [Int.toNat_natCast, List.getD_eq_getElem?_getD, List.getElem?_set_self hil]
        rfl
      have w1 : wrap64 (2 * (i : Int) + 1 + 1) = 2 * (i : Int) + 2 := by unfold wrap64; omega
      have w2 : wrap64 (2 * (i : Int) + 2 + 1) = 2 * ((i + 1 : Nat) : Int) + 1 := by unfold wrap64; omega
      have h1 := ih (i + 1) (x.set i (⟨2 * (i : Int) + 1, 2 * (i : Int) + 2⟩ : S57)) (by omega) (by simpa using hx) (fill_step (by rw [hx, mkE_len]) ht (mkE_drop (by omega)))
      refine ev_succ ?_
      simp only [laws_markEdgeS.l0, Option.bind_some, Int.toNat_natCast, hr, w1, w2, List.set_set, wrap_succ (show i < 4611686018427387904 by omega)]
      exact ev_ift (by omega) (ev_ift (by omega) h1)
  simp only [laws_markGraph.f, laws_markEdgeS.f]
  exact Ev.bind (main l.length 0 l (by omega) rfl (by simp)) (Ev.now _)
def mkI (m : Int) (n : Nat) : List Int := (List.range n).map fun i : Nat => m + (i : Int)
theorem mkI_length (m : Int) (n : Nat) : (mkI m n).length = n := by simp [mkI]
theorem mkI_drop {m : Int} {n i : Nat} (h : i < n) : (mkI m n).drop i = (m + (i : Int)) :: (mkI m n).drop (i + 1) := by
  rw [List.drop_eq_getElem_cons (by rw [mkI_length]; exact h)]
  simp [mkI]
theorem markIntS_ev (m : Int) (h0 : 0 ≤ m) (l : List Int) (hl : m + l.length < 2305843009213693952) : Ev (fun k => laws_markIntS.f k l m) (m + (l.length : Int), mkI m l.length) := by
  have main : ∀ (d k i : Nat) (x : List Int), i + d = l.length → x.length = l.length → x.take i = (mkI m l.length).take i → d < k → laws_markIntS.l0 k x (m + (i : Int)) (i : Int) = some (m + (l.length : Int), mkI m l.length) := by
    intro d
    induction d with
    | zero =>
      intro k i x hi hx ht hk
      obtain ⟨k, rfl⟩ := succ_of_lt hk
      have e : i = l.length := by omega
      subst e
      have ex : x = mkI m l.length := fill_end (by rw [mkI_length]; exact hx) (by rw [mkI_length]; exact ht)
      simp only [laws_markIntS.l0]
      rw [if_neg (by omega), ex]
    | succ d ih =>
      intro k i x hi hx ht hk
      obtain ⟨k, rfl⟩ := succ_of_lt hk
      simp only [laws_markIntS.l0]
      rw [if_pos (by omega), if_pos (by omega), wrap_succ (by omega), show wrap64 (m + (i : Int) + 1) = m + ((i + 1 : Nat) : Int) by unfold wrap64; omega, Int.toNat_natCast]
      exact ih k (i + 1) _ (by omega) (by simpa using hx) (fill_step (by rw [mkI_length]; exact hx) ht (mkI_drop (by omega))) (by omega)
  refine ev_k l.length fun k hk => ?_
  unfold laws_markIntS.f
  have h := main l.length k 0 l (by omega) rfl (by simp) hk
  rw [show m + ((0 : Nat) : Int) = m by omega] at h
  exact h
def mkSS (v : Int) : List (List Int) → List (List Int)
  | [] => []
  | a :: r => mkI v a.length :: mkSS (v + (a.length : Int)) r
def cntSS (v : Int) : List (List Int) → Int
  | [] => v
  | a :: r => cntSS (v + (a.length : Int)) r
theorem mkSS_len : ∀ (m : List (List Int)) (v : Int), (mkSS v m).length = m.length := by
  intro m
  induction m with
  | nil => intro v; rfl
  | cons a r ih => intro v; simp [mkSS, ih]
theorem cntSS_le (B : Nat) : ∀ (m : List (List Int)) (v : Int), (∀ a ∈ m, a.length ≤ B) → v ≤ cntSS v m ∧ cntSS v m ≤ v + (B : Int) * (m.length : Int) := by
  intro m
  induction m with
  | nil => intro v _; simp [cntSS]
  | cons a r ih =>
    intro v h
    have h1 := h a (by simp)
    have := ih (v + (a.length : Int)) (fun x hx => h x (by simp [hx]))
    simp only [cntSS, List.length_cons]
    have e : (B : Int) * ((r.length + 1 : Nat) : Int) = (B : Int) * (r.length : Int) + B := by rw [show ((r.length + 1 : Nat) : Int) = (r.length : Int) + 1 by omega, Int.mul_add, Int.mul_one]
    omega
theorem heldFrom_ev (v : Int) (h0 : 0 ≤ v) (n : Nat) (hn : v + n < 2305843009213693952) : Ev (fun k => laws_heldIntS.f k (mkI v n) v) (v + (n : Int)) := by
  have main : ∀ (d i : Nat), i + d = n → Ev (fun k => laws_heldIntS.l0 k (mkI v n) (v + (i : Int)) (i : Int)) (v + (n : Int)) := by
    intro d
    induction d with
    | zero =>
      intro i hi
      obtain rfl : i = n := by omega
      refine ev_succ ?_
      simp only [laws_heldIntS.l0, mkI_length]
      exact ev_ifn (by omega) (Ev.now _)
    | succ d ih =>
      intro i hi
      have h := ih (i + 1) (by omega)
      refine ev_succ ?_
      simp only [laws_heldIntS.l0, mkI_length, rd_drop (mkI_drop (show i < n by omega)), wrap_succ (show i < 4611686018427387904 by omega)]
      rw [show wrap64 (v + (i : Int) + 1) = v + ((i + 1 : Nat) : Int) by unfold wrap64; omega]
      exact ev_ift (by omega) (ev_ift (by omega) (ev_ift (by first | rfl | trivial) h))
  have h := main n 0 (by omega)
  simp only [laws_heldIntS.f]
  simpa using h
theorem markSS_ev (m : List (List Int)) (hl : m.length ≤ 1000) (hr : ∀ r ∈ m, r.length ≤ 1000) : Ev (fun k => laws_markIntSS.f k m 1) (cntSS 1 m, mkSS 1 m) := by
  have main : ∀ (rest : List (List Int)) (done : List (List Int)) (v : Int), (∀ r ∈ rest, r.length ≤ 1000) → done.length + rest.length ≤ 1000 → 0 ≤ v → v ≤ 1000 * (done.length : Int) + 1 →
      Ev (fun k => laws_markIntSS.l0 k (done ++ rest) v (done.length : Int)) (cntSS v rest, done ++ mkSS v rest) := by
    intro rest
    induction rest with
    | nil =>
      intro done v _ _ _ _
      refine ev_succ ?_
      simp only [laws_markIntSS.l0, List.append_nil, mkSS, cntSS]
      exact ev_ifn (by omega) (Ev.now _)
    | cons a rest ih =>
      intro done v hr hl h0 h1
      have ha := hr a (by simp)
      simp only [List.length_cons] at hl
      have e := markIntS_ev v h0 a (by omega)
      have g := ih (done ++ [mkI v a.length]) (v + (a.length : Int)) (fun x hx => hr x (by simp [hx])) (by simp; omega) (by omega) (by simp; omega)
      have hg : (done ++ a :: rest).getD done.length [] = a := by simp
      have hs : (done ++ a :: rest).set done.length (mkI v a.length) = done ++ [mkI v a.length] ++ rest := by simp
      rw [show ((done ++ [mkI v a.length]).length : Int) = ((done.length + 1 : Nat) : Int) by simp] at g
      refine ev_succ ?_
      simp only [laws_markIntSS.l0, Int.toNat_natCast, hg, wrap_succ (show done.length < 4611686018427387904 by omega)]
      refine ev_ift (by simp; omega) (ev_ift (by omega) (Ev.bind e ?_))
      dsimp only
      rw [hs]
      simpa [mkSS, cntSS] using g
  have g := main m [] 1 hr (by simpa using hl) (by omega) (by simp)
  simp only [laws_markIntSS.f]
  simpa using g
theorem heldSS_ev (m : List (List Int)) (hl : m.length ≤ 1000) (hr : ∀ r ∈ m, r.length ≤ 1000) : Ev (fun k => laws_heldIntSS.f k (mkSS 1 m) 1) (cntSS 1 m) := by
  have main : ∀ (rest : List (List Int)) (i : Nat) (v : Int), (∀ r ∈ rest, r.length ≤ 1000) → i + rest.length = m.length → (mkSS 1 m).drop i = mkSS v rest → 0 ≤ v → v ≤ 1000 * (i : Int) + 1 →
      Ev (fun k => laws_heldIntSS.l0 k (mkSS 1 m) v (i : Int)) (cntSS v rest) := by
    intro rest
    induction rest with
    | nil =>
      intro i v _ hi _ _ _
      refine ev_succ ?_
      simp only [laws_heldIntSS.l0, cntSS, mkSS_len]
      simp only [List.length_nil] at hi
      exact ev_ifn (by omega) (Ev.now _)
    | cons a rest ih =>
      intro i v hr hi hd h0 h1
      have ha := hr a (by simp)
      simp only [List.length_cons] at hi
      have e := heldFrom_ev v h0 a.length (by omega)
      have hx : rd_L4 (mkSS 1 m) (i : Int) = mkI v a.length := by
        unfold rd_L4
        rw [Int.toNat_natCast]
        exact get_drop hd _
      have g := ih (i + 1) (v + (a.length : Int)) (fun x hx => hr x (by simp [hx])) (by omega) (drop_next hd) (by omega) (by omega)
      refine ev_succ ?_
      simp only [laws_heldIntSS.l0, mkSS_len, hx, wrap_succ (show i < 4611686018427387904 by omega)]
      exact ev_ift (by omega) (ev_ift (by omega) (Ev.bind e (ev_ifn (by omega) g)))
  simp only [laws_heldIntSS.f]
  exact main m 0 1 hr (by omega) rfl (by omega) (by simp)
theorem rdL_at {l : List (List Int)} {i : Nat} {a : List Int} {r : List (List Int)} (h : l.drop i = a :: r) : rd_L4 l (i : Int) = a := by
  unfold rd_L4
  rw [Int.toNat_natCast]
  exact get_drop h []
theorem eqIntSS_ev (m : List (List Int)) (hl : m.length < 4611686018427387904) (hr : ∀ r ∈ m, r.length < 4611686018427387904) : Ev (fun k => laws_eqIntSS.f k m m) true := by
  have main : ∀ (rest : List (List Int)) (i : Nat), m.drop i = rest → i ≤ m.length → Ev (fun k => laws_eqIntSS.l0 k m m (i : Int)) true := by
    intro rest
    induction rest with
    | nil =>
      intro i hd hi
      have := drop_nil hd
      refine ev_succ ?_
      simp only [laws_eqIntSS.l0]
      exact ev_ifn (by omega) (Ev.now _)
    | cons a rest ih =>
      intro i hd hi
      have hlt := drop_lt hd
      have ha : a ∈ m := List.mem_of_mem_drop (by rw [hd]; exact List.mem_cons_self)
      have ea := eqIntS_ev a (hr a ha)
      have h1 := ih (i + 1) (drop_next hd) (by omega)
      refine ev_succ ?_
      simp only [laws_eqIntSS.l0, rdL_at hd, wrap_succ (show i < 4611686018427387904 by omega)]
      exact ev_ift (by omega) (ev_ift (by omega) (ev_ift (by omega) (Ev.bind ea (ev_ift rfl h1))))
  simp only [laws_eqIntSS.f]
  exact ev_ift (by first | rfl | with_reducible exact True.intro) (main m 0 (by simp) (by omega))
end Go.Proofs.Ytplcclifmajcfaa.Pure
end
section
set_option linter.unusedVariables false
set_option linter.unusedSimpArgs false
namespace Go.Proofs.Ytplcclifmajcfaa.Pure
open Go.RowKit Go.Proofs.Ytplcclifmajcfaa.P Go.Proofs.YtplcclifmajcfaaW.PrintWords Go.Proofs.YtplcclifmajcfaaW.PrintLast Go.Proofs.YtplcclifmajcfaaW.PrintMore Go.Proofs.Ytplcclifmajcfaa.Base Go.Proofs.Ytplcclifmajcfaa.Loops Go.Proofs.Ytplcclifmajcfaa.Bits
theorem FnExactLaplacianOf : StatFnExactLaplacianOf := by
  intro n l ⟨_, hl, _⟩
  refine Ev.rounds (r := true) ?_
  unfold laws_FnExactLaplacianOf.f
  have hs := szGraph_eq n l hl 1048576 (by omega) (by omega)
  by_cases h : (l.length : Int) ≤ 1048576
  · have es : Ev (fun _ : Nat => laws_szGraph.f n l 1048576) (1048576 - (l.length : Int)) := ev_const fun _ => by rw [hs, if_pos h]
    have tg := toGraph_ev n l (by omega)
    have hm := map_cv_length l
    have hL : (l.map cvE).length < 4611686018427387904 := by omega
    obtain ⟨r, g1, g2, ⟨hr, hx⟩, _⟩ := laplacian_both n (l.map cvE) hL
    have eg := eqGraph_ev n (l.map cvE) hL
    have er := eqIntSS_ev r (by omega) (fun x h => by have := hx x h; omega)
    have my := markG_ev n (l.map cvE) (by omega)
    have mr := markSS_ev r (by omega) (fun x h => by have := hx x h; omega)
    have he := heldSS_ev r (by omega) (fun x h => by have := hx x h; omega)
    have hc := cntSS_le 1000 r 1 (fun x h => by have := hx x h; omega)
    repeat (first
      | exact Ev.now _
      | dsimp only
      | (with_reducible refine Ev.bind es ?_) | (with_reducible refine Ev.bind tg ?_) | (with_reducible refine Ev.bind g1 ?_) | (with_reducible refine Ev.bind g2 ?_) | (with_reducible refine Ev.bind eg ?_) | (with_reducible refine Ev.bind er ?_) | (with_reducible refine Ev.bind my ?_) | (with_reducible refine Ev.bind mr ?_) | (with_reducible refine Ev.bind he ?_)
      | with_reducible refine ev_ift (by first | rfl | with_reducible exact True.intro | omega) ?_
      | with_reducible refine ev_ifn (by omega) ?_
      | with_reducible refine ev_ifb ?_
      | with_reducible refine ev_ifnn ?_
      | with_reducible refine ev_iff ?_
      | (refine ev_succ ?_; simp only [if_true, laws_FnExactLaplacianOf.j0, laws_FnExactLaplacianOf.j1, laws_FnExactLaplacianOf.j2, laws_FnExactLaplacianOf.j3, laws_FnExactLaplacianOf.j4, laws_FnExactLaplacianOf.j5, laws_FnExactLaplacianOf.j6, laws_FnExactLaplacianOf.j7, laws_FnExactLaplacianOf.j8])
      )
  · have es : Ev (fun _ : Nat => laws_szGraph.f n l 1048576) (-1) := ev_const fun _ => by rw [hs, if_neg h]
    repeat (first
      | exact Ev.now _
      | dsimp only
      | (with_reducible refine Ev.bind es ?_)
      | with_reducible refine ev_ift (by first | rfl | omega) ?_
      | with_reducible refine ev_ifn (by omega) ?_
      )
end Go.Proofs.Ytplcclifmajcfaa.Pure
end
