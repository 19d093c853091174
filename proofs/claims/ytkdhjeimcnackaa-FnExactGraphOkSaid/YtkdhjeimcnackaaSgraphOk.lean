/- Lemmas on what the program's functions compute (graphOk). -/
import Derived.Test.YtkdhjeimcnackaaPx52
import Derived.Test.YtkdhjeimcnackaaPx53
import Derived.Test.YtkdhjeimcnackaaPx54
import Derived.Test.YtkdhjeimcnackaaPx55
import Derived.Test.YtkdhjeimcnackaaPx56
import Derived.Test.YtkdhjeimcnackaaPx57
import Derived.Test.YtkdhjeimcnackaaPx0
import Derived.Test.YtkdhjeimcnackaaBase
import Derived.Test.YtkdhjeimcnackaaBits
import Derived.Test.YtkdhjeimcnackaaLoops
import Derived.Test.YtkdhjeimcnackaaSedgesOk
set_option linter.unusedVariables false
set_option linter.unusedSimpArgs false
namespace Go.Proofs.Ytkdhjeimcnackaa.Pure
open Go.RowKit Go.Proofs.Ytkdhjeimcnackaa.P Go.Proofs.YtkdhjeimcnackaaW.PrintWords Go.Proofs.YtkdhjeimcnackaaW.PrintLast Go.Proofs.YtkdhjeimcnackaaW.PrintMore Go.Proofs.Ytkdhjeimcnackaa.Base Go.Proofs.Ytkdhjeimcnackaa.Bits Go.Proofs.Ytkdhjeimcnackaa.Loops

/-- A list of edges in order. -/
def SortedE (es : List S57) : Prop := ∀ i, i + 1 < es.length → ¬ ((es.getD (i + 1) z57).f0 < (es.getD i z57).f0 ∨ ((es.getD (i + 1) z57).f0 = (es.getD i z57).f0 ∧ (es.getD (i + 1) z57).f1 < (es.getD i z57).f1))

def ConnE (n : Int) (es : List S57) : Prop := ∀ P : Int → Prop, P 0 → (∀ e ∈ es, P e.f0 ↔ P e.f1) → ∀ v, 0 ≤ v → v < n → P v

/-- A valid graph. -/
def GraphP (n : Int) (es : List S57) : Prop := edgesB n es = true ∧ SortedE es ∧ ConnE n es

theorem rdE_nat (es : List S57) (i : Nat) : rd_T57 es (i : Int) = es.getD i z57 := by unfold rd_T57; rw [Int.toNat_natCast]

theorem edgesB_facts {n : Int} {es : List S57} (h : edgesB n es = true) : 1 ≤ n ∧ n ≤ 6 ∧ es.length ≤ 12 ∧ ∀ e ∈ es, 0 ≤ e.f0 ∧ e.f0 < e.f1 ∧ e.f1 < n := by
  simp only [edgesB, Bool.and_eq_true, decide_eq_true_eq, List.all_eq_true] at h
  exact ⟨h.1.1.1, h.1.1.2, h.1.2, fun e he => ⟨(h.2 e he).1.1, (h.2 e he).1.2, (h.2 e he).2⟩⟩

theorem compare_eq (a0 a1 b0 b1 : Int) : ∃ c, impl_compareEdges.f a0 a1 b0 b1 = some c ∧ (c < 0 ↔ a0 < b0 ∨ (a0 = b0 ∧ a1 < b1)) := by
  have hc : ∀ x y : Int, cmp_Compare_int.f x y = some (if x < y then -1 else if x > y then 1 else 0) := by
    intro x y
    unfold cmp_Compare_int.f cmp_isNaN_int.f
    simp only [Option.bind_some, bne_self_eq_false, Bool.false_eq_true, if_false]
    by_cases h1 : x < y
    · rw [if_pos h1, if_pos h1]
    · rw [if_neg h1, if_neg h1]
      by_cases h2 : x > y
      · rw [if_pos h2, if_pos h2]
      · rw [if_neg h2, if_neg h2]
  unfold impl_compareEdges.f
  simp only [hc, Option.bind_some]
  by_cases h1 : a0 < b0
  · rw [if_pos h1, if_neg (by decide)]
    exact ⟨_, rfl, by omega⟩
  · by_cases h2 : a0 > b0
    · rw [if_neg h1, if_pos h2, if_neg (by decide)]
      exact ⟨_, rfl, by omega⟩
    · rw [if_neg h1, if_neg h2, if_pos rfl]
      refine ⟨_, rfl, ?_⟩
      by_cases h3 : a1 < b1
      · rw [if_pos h3]; omega
      · rw [if_neg h3]
        split <;> omega

theorem impl_sorted_ev (es : List S57) (hl : es.length < 4611686018427387904) : ∃ b : Bool, Ev (fun k => slices_IsSortedFunc_Edge.f k es) b ∧ (b = true ↔ SortedE es) := by
  have main : ∀ i : Nat, i < es.length → ∃ b : Bool, Ev (fun k => slices_IsSortedFunc_Edge.l0 k es (i : Int)) b ∧ (b = true ↔ ∀ j, j < i → ¬ ((es.getD (j + 1) z57).f0 < (es.getD j z57).f0 ∨ ((es.getD (j + 1) z57).f0 = (es.getD j z57).f0 ∧ (es.getD (j + 1) z57).f1 < (es.getD j z57).f1))) := by
    intro i
    induction i with
    | zero =>
      intro _
      refine ⟨true, ev1 fun k => ?_, by simp⟩
      simp only [slices_IsSortedFunc_Edge.l0]
      rw [if_neg (by omega)]
    | succ i ih =>
      intro hi
      obtain ⟨b, ⟨K, hb⟩, hiff⟩ := ih (by omega)
      have ew : wrap64 (((i + 1 : Nat) : Int) - 1) = (i : Int) := by unfold wrap64; omega
      obtain ⟨c, hc, hneg⟩ := compare_eq (es.getD (i + 1) z57).f0 (es.getD (i + 1) z57).f1 (es.getD i z57).f0 (es.getD i z57).f1
      by_cases h : c < 0
      · refine ⟨false, ev1 fun k => ?_, ?_⟩
        · simp only [slices_IsSortedFunc_Edge.l0, ew, rdE_nat, hc, Option.bind_some]
          rw [if_pos (by omega), if_pos (by omega), if_pos (by omega), if_pos (by omega), if_pos (by omega), if_pos h]
        · simp only [Bool.false_eq_true, false_iff]
          intro hall
          exact hall i (by omega) (hneg.1 h)
      · refine ⟨b, ⟨K + 1, fun k hk => ?_⟩, ?_⟩
        · obtain ⟨m, rfl⟩ : ∃ m, k = m + 1 := ⟨k - 1, by omega⟩
          have h2 := hb m (by omega)
          dsimp only at h2 ⊢
          simp only [slices_IsSortedFunc_Edge.l0, ew, rdE_nat, hc, Option.bind_some]
          rw [if_pos (by omega), if_pos (by omega), if_pos (by omega), if_pos (by omega), if_pos (by omega), if_neg h, h2]
        · rw [hiff]
          constructor
          · intro hall j hj
            by_cases e : j = i
            · subst e; exact fun hh => h (hneg.2 hh)
            · exact hall j (by omega)
          · exact fun hall j hj => hall j (by omega)
  simp only [slices_IsSortedFunc_Edge.f]
  by_cases h0 : es.length = 0
  · refine ⟨true, ev1 fun k => ?_, ?_⟩
    · simp only [slices_IsSortedFunc_Edge.l0]
      rw [if_neg (by unfold wrap64; omega)]
    · simp only [true_iff]
      intro i hi
      omega
  · obtain ⟨b, hb, hiff⟩ := main (es.length - 1) (by omega)
    have ew : wrap64 ((es.length : Int) - 1) = ((es.length - 1 : Nat) : Int) := by unfold wrap64; omega
    rw [ew]
    refine ⟨b, hb, ?_⟩
    rw [hiff]
    exact ⟨fun h i hi => h i (by omega), fun h i hi => h i (by omega)⟩

def toN (e : S57) : Nat × Nat := (e.f0.toNat, e.f1.toNat)

theorem conn_l1 (n : Nat) (es : List S57) (hn : n ≤ 6) (he : ∀ e ∈ es, 0 ≤ e.f0 ∧ e.f0 < e.f1 ∧ e.f1 < n) (x8 x9 : Int) (r : Bool) (hl : es.length < 4611686018427387904) :
    ∀ (rest : List S57) (i : Nat) (M : Nat), i ≤ es.length → es.drop i = rest → M < 2 ^ n → Ev (fun k => impl_connected.l0 k n es ((rnd (rest.map toN) M : Nat) : Int) x8 (wrap64 (x9 + 1))) r →
      Ev (fun k => impl_connected.l1 k n es (M : Int) x8 x9 es (es.length : Int) (i : Int)) r := by
  intro rest
  induction rest with
  | nil =>
    intro i M hi hd hM h
    have := drop_nil hd
    obtain ⟨K, hK⟩ := h
    refine ⟨K + 1, fun k hk => ?_⟩
    obtain ⟨m, rfl⟩ : ∃ m, k = m + 1 := ⟨k - 1, by omega⟩
    simp only [impl_connected.l1]
    rw [if_neg (by omega)]
    exact hK m (by omega)
  | cons e rest ih =>
    intro i M hi hd hM h
    have hlt := drop_lt hd
    have hmem : e ∈ es := by
      have : e ∈ es.drop i := by rw [hd]; simp
      exact List.mem_of_mem_drop this
    obtain ⟨h0, h1, h2⟩ := he e hmem
    obtain ⟨a, ha⟩ : ∃ a : Nat, e.f0 = a := ⟨e.f0.toNat, by omega⟩
    obtain ⟨b, hb⟩ : ∃ b : Nat, e.f1 = b := ⟨e.f1.toNat, by omega⟩
    have hte : toN e = (a, b) := by simp [toN, ha, hb]
    have hM62 : M < 2 ^ 62 := Nat.lt_of_lt_of_le hM (Nat.pow_le_pow_right (by decide) (by omega))
    have hlt' := upd_lt M (a, b) n hM (by show a < n; omega) (by show b < n; omega)
    rw [List.map_cons, hte] at h
    obtain ⟨K, hK⟩ := ih (i + 1) (upd M (a, b)) (by omega) (drop_next hd) hlt' h
    refine ⟨K + 1, fun k hk => ?_⟩
    obtain ⟨m, rfl⟩ : ∃ m, k = m + 1 := ⟨k - 1, by omega⟩
    have h3 := hK m (by omega)
    dsimp only at h3 ⊢
    simp only [impl_connected.l1, rd_IE hd, ha, hb, bit_of M a hM62 (by omega), bit_of M b hM62 (by omega), or_two M a b hM62 (by omega) (by omega)]
    rw [if_pos (by omega), if_pos (by omega), if_pos (by omega), if_pos (by omega), wrap_succ (by omega)]
    unfold upd at h3
    by_cases ta : M.testBit a = true
    · rw [if_pos (by simp [ta]), if_pos (by omega)]
      rw [if_pos (by simp [ta])] at h3
      exact h3
    · by_cases tb : M.testBit b = true
      · rw [if_neg (by simp [ta]), if_pos (by omega), if_pos (by simp [tb])]
        rw [if_pos (by simp [tb])] at h3
        exact h3
      · rw [if_neg (by simp [ta]), if_pos (by omega), if_neg (by simp [tb])]
        rw [if_neg (by simp [ta, tb])] at h3
        exact h3

theorem toN_lt {n : Nat} {es : List S57} (he : ∀ e ∈ es, 0 ≤ e.f0 ∧ e.f0 < e.f1 ∧ e.f1 < n) : ∀ x ∈ es.map toN, x.1 < n ∧ x.2 < n := by
  intro x hx
  obtain ⟨e, hm, rfl⟩ := List.mem_map.1 hx
  have := he e hm
  simp only [toN]
  omega

theorem impl_connected_ev (n : Nat) (es : List S57) (hn0 : 0 < n) (hn : n ≤ 6) (he : ∀ e ∈ es, 0 ≤ e.f0 ∧ e.f0 < e.f1 ∧ e.f1 < n) (hl : es.length < 4611686018427387904) :
    Ev (fun k => impl_connected.f k n es) (decide (iter (es.map toN) n 1 = 2 ^ n - 1)) := by
  have main : ∀ (d : Nat) (x9 M : Nat), x9 + d = n → M < 2 ^ n → Ev (fun k => impl_connected.l0 k n es (M : Int) n (x9 : Int)) (decide (iter (es.map toN) d M = 2 ^ n - 1)) := by
    intro d
    induction d with
    | zero =>
      intro x9 M hx hM
      refine ev1 fun k => ?_
      simp only [impl_connected.l0, iter]
      rw [if_neg (by omega), if_pos (by omega), shl_nat n (by omega)]
      have : wrap64 (((2 ^ n : Nat) : Int) - 1) = ((2 ^ n - 1 : Nat) : Int) := by
        have h1 : 2 ^ n ≤ 2 ^ 6 := Nat.pow_le_pow_right (by decide) hn
        have h2 : 0 < 2 ^ n := Nat.pow_pos (by decide)
        unfold wrap64
        omega
      rw [this]
      have e : ((M : Int) == ((2 ^ n - 1 : Nat) : Int)) = decide (M = 2 ^ n - 1) := by
        generalize 2 ^ n - 1 = q
        rw [Bool.eq_iff_iff, beq_iff_eq, decide_eq_true_eq]
        omega
      rw [e]
      rfl
    | succ d ih =>
      intro x9 M hx hM
      have h1 := ih (x9 + 1) (rnd (es.map toN) M) (by omega) (rnd_lt _ n M hM (toN_lt he))
      have h2 := conn_l1 n es hn he n x9 _ hl es 0 M (by omega) rfl hM (by rw [wrap_succ (by omega)]; exact h1)
      obtain ⟨K, hK⟩ := h2
      refine ⟨K + 1, fun k hk => ?_⟩
      obtain ⟨m, rfl⟩ : ∃ m, k = m + 1 := ⟨k - 1, by omega⟩
      have h3 := hK m (by omega)
      dsimp only [iter] at h3 ⊢
      simp only [impl_connected.l0]
      rw [if_pos (by omega)]
      exact h3
  exact main n 0 1 (by omega) (Nat.one_lt_two_pow (by omega))

theorem full_iff (n : Nat) (es : List S57) (hn0 : 0 < n) (he : ∀ e ∈ es, 0 ≤ e.f0 ∧ e.f0 < e.f1 ∧ e.f1 < n) : iter (es.map toN) n 1 = 2 ^ n - 1 ↔ ConnE n es := by
  rw [iter_full (es.map toN) n hn0 (toN_lt he)]
  constructor
  · intro h P h0 hP v hv0 hv
    obtain ⟨u, rfl⟩ : ∃ u : Nat, v = u := ⟨v.toNat, by omega⟩
    refine h (fun u => P u) h0 (fun x hx => ?_) u (by omega)
    obtain ⟨e, hm, rfl⟩ := List.mem_map.1 hx
    have hb := he e hm
    simp only [toN]
    rw [show ((e.f0.toNat : Nat) : Int) = e.f0 by omega, show ((e.f1.toNat : Nat) : Int) = e.f1 by omega]
    exact hP e hm
  · intro h P h0 hP v hv
    have := h (fun u => P u.toNat) h0 (fun e hm => hP (toN e) (List.mem_map.2 ⟨e, hm, rfl⟩)) v (by omega) (by omega)
    simpa using this

theorem impl_graphOk_iff (n : Int) (es : List S57) (hl : es.length < 4611686018427387904) : ∃ b : Bool, Ev (fun k => impl_GraphOk.f k n es) b ∧ (b = true ↔ GraphP n es) := by
  have h1 := impl_edgesOk_ev n es hl
  simp only [impl_GraphOk.f]
  by_cases hb : edgesB n es = true
  · obtain ⟨f1, f2, f3, f4⟩ := edgesB_facts hb
    obtain ⟨m, rfl⟩ : ∃ m : Nat, n = m := ⟨n.toNat, by omega⟩
    obtain ⟨b, h2, hs⟩ := impl_sorted_ev es hl
    rw [hb] at h1
    cases b with
    | false =>
      refine ⟨false, Ev.bind h1 ?_, ?_⟩
      · simp only [if_true]
        refine Ev.bind h2 ?_
        simp only [Bool.false_eq_true, if_false]
        exact Ev.now _
      · simp only [Bool.false_eq_true, false_iff] at hs ⊢
        exact fun h => hs h.2.1
    | true =>
      refine ⟨decide (iter (es.map toN) m 1 = 2 ^ m - 1), Ev.bind h1 ?_, ?_⟩
      · simp only [if_true]
        refine Ev.bind h2 ?_
        simp only [if_true]
        refine Ev.bind (impl_connected_ev m es (by omega) (by omega) f4 hl) ?_
        exact Ev.now _
      · rw [decide_eq_true_eq, full_iff m es (by omega) f4]
        simp only [true_iff] at hs
        exact ⟨fun h => ⟨hb, hs, h⟩, fun h => h.2.2⟩
  · refine ⟨false, Ev.bind h1 ?_, ?_⟩
    · simp only [hb]
      exact Ev.now _
    · simp only [Bool.false_eq_true, false_iff]
      exact fun h => hb h.1

end Go.Proofs.Ytkdhjeimcnackaa.Pure
