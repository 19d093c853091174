/- Functions of the program as plain Lean functions and that the machine's calls answer as they do, the words of the print that these use, lemmas and plain proofs of laws. Put together by a program of this work that leaves out what nothing uses; Lean checks it. -/
import Derived.Test.YtbcfccdoffbncaaG4577911c2e
import Derived.Test.YtbcfccdoffbncaaGa2b5af435a
import Derived.Test.YtbcfccdoffbncaaGaac7f9c49c
import Derived.Test.YtbcfccdoffbncaaG34698dee4f
import Derived.Test.YtbcfccdoffbncaaG3937dc48b5
import Derived.Test.YtbcfccdoffbncaaG6a09071fbe
import Derived.Test.YtbcfccdoffbncaaG87c6f8233f
section
set_option linter.unusedVariables false
set_option linter.unusedSimpArgs false
namespace Go.Proofs.Ytbcfccdoffbncaa.Pure
open Go.RowKit Go.Proofs.Ytbcfccdoffbncaa.P Go.Proofs.YtbcfccdoffbncaaW.PrintWords Go.Proofs.YtbcfccdoffbncaaW.PrintLast Go.Proofs.YtbcfccdoffbncaaW.PrintMore Go.Proofs.Ytbcfccdoffbncaa.Base Go.Proofs.Ytbcfccdoffbncaa.Loops
def edgesB (n : Int) (es : List S67) : Bool := decide (1 ≤ n) && decide (n ≤ 6) && decide (es.length ≤ 12) && es.all fun e => decide (0 ≤ e.f0) && decide (e.f0 < e.f1) && decide (e.f1 < n)
theorem impl_edgesOk_ev (n : Int) (es : List S67) (hl : es.length < 4611686018427387904) : Ev (fun k => impl_EdgesOk.f k n es) (edgesB n es) := by
  have hw : impl_within.f n 1 6 = some (decide (1 ≤ n) && decide (n ≤ 6)) := by
    unfold impl_within.f
    by_cases h : n ≥ 1
    · rw [if_pos h]; simp [h]
    · rw [if_neg h]; simp [h]
  simp only [impl_EdgesOk.f, hw, Option.bind_some]
  by_cases hn : 1 ≤ n ∧ n ≤ 6
  · by_cases h12 : es.length ≤ 12
    · have loop : Ev (fun k => impl_EdgesOk.l0 k es (es.length : Int) 0 n es) (es.all fun e => decide (0 ≤ e.f0) && decide (e.f0 < e.f1) && decide (e.f1 < n)) := by
        refine ev_listE es (fun k (_ : Unit) i => impl_EdgesOk.l0 k es (es.length : Int) i n es) (fun _ r => r.all fun e => decide (0 ≤ e.f0) && decide (e.f0 < e.f1) && decide (e.f1 < n)) (fun _ _ => True)
          (fun s _ => ev1 fun k => ?_) (fun s a rest i hlt hd _ => ?_) () trivial
        · simp only [impl_EdgesOk.l0]
          rw [if_neg (by omega)]; rfl
        · have bad : a.f0 < 0 ∨ a.f0 ≥ a.f1 ∨ a.f1 ≥ n → ((a :: rest).all fun e => decide (0 ≤ e.f0) && decide (e.f0 < e.f1) && decide (e.f1 < n)) = false := by
            intro h; simp only [List.all_cons, Bool.and_eq_false_iff, decide_eq_false_iff_not]; omega
          have stop : Ev (fun k => impl_EdgesOk.j2 k es (es.length : Int) (i : Int) true n es) false := ev1 fun k => by simp only [impl_EdgesOk.j2, if_true]
          by_cases h1 : a.f0 < 0
          · refine Or.inl (ev_succ ?_)
            simp only [impl_EdgesOk.l0, rd_IE hd]
            rw [bad (by omega)]
            exact ev_ift (by omega) (ev_ift (by omega) (ev_ift (by omega) (ev_ift h1 stop)))
          by_cases h2 : a.f0 ≥ a.f1
          · refine Or.inl (ev_succ ?_)
            simp only [impl_EdgesOk.l0, rd_IE hd]
            rw [bad (by omega)]
            exact ev_ift (by omega) (ev_ift (by omega) (ev_ift (by omega) (ev_ifn h1 (ev_ift h2 stop))))
          by_cases h3 : a.f1 ≥ n
          · refine Or.inl (ev_succ ?_)
            simp only [impl_EdgesOk.l0, rd_IE hd]
            rw [bad (by omega), decide_eq_true h3]
            exact ev_ift (by omega) (ev_ift (by omega) (ev_ift (by omega) (ev_ifn h1 (ev_ifn h2 stop))))
          refine Or.inr ⟨(), trivial, ?_, fun r hr => ev_succ ?_⟩
          · simp; omega
          · simp only [impl_EdgesOk.l0, rd_IE hd, decide_eq_false h3]
            refine ev_ift (by omega) (ev_ift (by omega) (ev_ift (by omega) (ev_ifn h1 (ev_ifn h2 (ev_succ ?_)))))
            simp only [impl_EdgesOk.j2, Bool.false_eq_true, if_false, wrap_succ (show i < 4611686018427387904 by omega)]
            exact hr
      obtain ⟨K, hK⟩ := loop
      dsimp only at hK
      refine ⟨K + 1, fun k hk => ?_⟩
      obtain ⟨m, rfl⟩ : ∃ m, k = m + 1 := ⟨k - 1, by omega⟩
      have := hK m (by omega)
      simp only [hn.1, hn.2, decide_true, Bool.and_self, if_true, impl_EdgesOk.j0]
      rw [if_neg (by simp; omega), this]
      simp [edgesB, hn, h12]
    · refine ev1 fun k => ?_
      simp only [hn.1, hn.2, decide_true, Bool.and_self, if_true, impl_EdgesOk.j0]
      rw [if_pos (by simp; omega)]
      simp [edgesB, h12]
  · refine ev1 fun k => ?_
    rw [if_neg (by simp; omega)]
    simp only [impl_EdgesOk.j0, if_true]
    simp [edgesB]
    intro a b
    exact absurd ⟨a, b⟩ hn
theorem spec_edgesOk_ev (n : Int) (es : List S67) (hl : es.length < 4611686018427387904) : Ev (fun k => spec_EdgesOk.f k n es) (edgesB n es) := by
  have hw : ∀ a b c : Int, spec_l01In.f a b c = some (decide (b ≤ a) && decide (a ≤ c)) := by
    intro a b c
    unfold spec_l01In.f
    by_cases h : a ≥ b
    · rw [if_pos h]; simp [h]
    · rw [if_neg h]; simp [h]
  simp only [spec_EdgesOk.f, hw, Option.bind_some]
  by_cases hn : 1 ≤ n ∧ n ≤ 6
  · have hn1 : wrap64 (n - 1) = n - 1 := by unfold wrap64; omega
    by_cases h12 : es.length ≤ 12
    · have loop : Ev (fun k => spec_EdgesOk.l0 k es (es.length : Int) 0 n es) (es.all fun e => decide (0 ≤ e.f0) && decide (e.f0 < e.f1) && decide (e.f1 < n)) := by
        refine ev_list0 es (fun k (_ : Unit) i => spec_EdgesOk.l0 k es (es.length : Int) i n es) (fun _ r => r.all fun e => decide (0 ≤ e.f0) && decide (e.f0 < e.f1) && decide (e.f1 < n)) (fun _ _ => True)
          (fun s _ => ev1 fun k => ?_) (fun s a rest i hlt hd _ => ?_) () trivial
        · simp only [spec_EdgesOk.l0]
          rw [if_neg (by omega)]; rfl
        · by_cases h1 : 0 ≤ a.f0 ∧ a.f0 ≤ n - 1
          · have e1 : wrap64 (a.f0 + 1) = a.f0 + 1 := by unfold wrap64; omega
            by_cases h2 : a.f0 + 1 ≤ a.f1 ∧ a.f1 ≤ n - 1
            · refine Or.inr ⟨(), trivial, ?_, 0, fun k _ => ?_⟩
              · simp; omega
              · simp only [spec_EdgesOk.l0, rd_IE hd, hw, hn1, e1, Option.bind_some]
                rw [if_pos (by omega), if_pos (by omega), if_pos (by omega), if_pos (by simp; omega), if_pos (by simp; omega), wrap_succ (by omega)]
            · refine Or.inl (ev1 fun k => ?_)
              simp only [spec_EdgesOk.l0, rd_IE hd, hw, hn1, e1, Option.bind_some]
              rw [if_pos (by omega), if_pos (by omega), if_pos (by omega), if_pos (by simp; omega), if_neg (by simp; omega)]
              simp; omega
          · refine Or.inl (ev1 fun k => ?_)
            simp only [spec_EdgesOk.l0, rd_IE hd, hw, hn1, Option.bind_some]
            rw [if_pos (by omega), if_pos (by omega), if_pos (by omega), if_neg (by simp; omega)]
            simp; omega
      obtain ⟨K, hK⟩ := loop
      dsimp only at hK
      refine ⟨K + 1, fun k hk => ?_⟩
      obtain ⟨m, rfl⟩ : ∃ m, k = m + 1 := ⟨k - 1, by omega⟩
      have := hK m (by omega)
      simp only [hn.1, hn.2, decide_true, Bool.and_self, if_true, spec_EdgesOk.j0]
      rw [if_neg (by simp; omega), this]
      simp [edgesB, hn, h12]
    · refine ev1 fun k => ?_
      simp only [hn.1, hn.2, decide_true, Bool.and_self, if_true, spec_EdgesOk.j0]
      rw [if_pos (by simp; omega)]
      simp [edgesB, h12]
  · refine ev1 fun k => ?_
    rw [if_neg (by simp; omega)]
    simp only [spec_EdgesOk.j0, if_true]
    simp [edgesB]
    intro a b
    exact absurd ⟨a, b⟩ hn
end Go.Proofs.Ytbcfccdoffbncaa.Pure
end
section
set_option linter.unusedVariables false
set_option linter.unusedSimpArgs false
namespace Go.Proofs.Ytbcfccdoffbncaa.Pure
open Go.RowKit Go.Proofs.Ytbcfccdoffbncaa.P Go.Proofs.YtbcfccdoffbncaaW.PrintWords Go.Proofs.YtbcfccdoffbncaaW.PrintLast Go.Proofs.YtbcfccdoffbncaaW.PrintMore Go.Proofs.Ytbcfccdoffbncaa.Base Go.Proofs.Ytbcfccdoffbncaa.Bits Go.Proofs.Ytbcfccdoffbncaa.Loops
def SortedE (es : List S67) : Prop := ∀ i, i + 1 < es.length → ¬ ((es.getD (i + 1) z67).f0 < (es.getD i z67).f0 ∨ ((es.getD (i + 1) z67).f0 = (es.getD i z67).f0 ∧ (es.getD (i + 1) z67).f1 < (es.getD i z67).f1))
def ConnE (n : Int) (es : List S67) : Prop := ∀ P : Int → Prop, P 0 → (∀ e ∈ es, P e.f0 ↔ P e.f1) → ∀ v, 0 ≤ v → v < n → P v
def GraphP (n : Int) (es : List S67) : Prop := edgesB n es = true ∧ SortedE es ∧ ConnE n es
theorem rdE_nat (es : List S67) (i : Nat) : rd_T67 es (i : Int) = es.getD i z67 := by unfold rd_T67; rw [Int.toNat_natCast]
theorem edgesB_facts {n : Int} {es : List S67} (h : edgesB n es = true) : 1 ≤ n ∧ n ≤ 6 ∧ es.length ≤ 12 ∧ ∀ e ∈ es, 0 ≤ e.f0 ∧ e.f0 < e.f1 ∧ e.f1 < n := by
  simp only [edgesB, Bool.and_eq_true, decide_eq_true_eq, List.all_eq_true] at h
  exact ⟨h.1.1.1, h.1.1.2, h.1.2, fun e he => ⟨(h.2 e he).1.1, (h.2 e he).1.2, (h.2 e he).2⟩⟩
theorem compare_eq (a0 a1 b0 b1 : Int) : ∃ c, impl_compareEdges.f a0 a1 b0 b1 = some c ∧ (c < 0 ↔ a0 < b0 ∨ (a0 = b0 ∧ a1 < b1)) := by
  have hc : ∀ x y : Int, cmp_Compare_int.f x y = some (if x < y then -1 else if x > y then 1 else 0) := by
    intro x y
    unfold cmp_Compare_int.f cmp_isNaN_int.f
    simp only [Option.bind_some, bne_self_eq_false, Bool.false_eq_true, if_false]
    by_cases h1 : x < y
    · rw [if_pos h1, if_pos h1]
    · rw [if_neg h1, if_neg h1]
      by_cases h2 : x > y
      · rw [if_pos h2, if_pos h2]
      · rw [if_neg h2, if_neg h2]
  unfold impl_compareEdges.f
  simp only [hc, Option.bind_some]
  by_cases h1 : a0 < b0
  · rw [if_pos h1, if_neg (by decide)]
    exact ⟨_, rfl, by omega⟩
  · by_cases h2 : a0 > b0
    · rw [if_neg h1, if_pos h2, if_neg (by decide)]
      exact ⟨_, rfl, by omega⟩
    · rw [if_neg h1, if_neg h2, if_pos rfl]
      refine ⟨_, rfl, ?_⟩
      by_cases h3 : a1 < b1
      · rw [if_pos h3]; omega
      · rw [if_neg h3]
        split <;> omega
theorem impl_sorted_ev (es : List S67) (hl : es.length < 4611686018427387904) : ∃ b : Bool, Ev (fun k => slices_IsSortedFunc_Edge.f k es) b ∧ (b = true ↔ SortedE es) := by
  have main : ∀ i : Nat, i < es.length → ∃ b : Bool, Ev (fun k => slices_IsSortedFunc_Edge.l0 k es (i : Int)) b ∧ (b = true ↔ ∀ j, j < i → ¬ ((es.getD (j + 1) z67).f0 < (es.getD j z67).f0 ∨ ((es.getD (j + 1) z67).f0 = (es.getD j z67).f0 ∧ (es.getD (j + 1) z67).f1 < (es.getD j z67).f1))) := by
    intro i
    induction i with
    | zero =>
      intro _
      refine ⟨true, ev1 fun k => ?_, by simp⟩
      simp only [slices_IsSortedFunc_Edge.l0]
      rw [if_neg (by omega)]
    | succ i ih =>
      intro hi
      obtain ⟨b, ⟨K, hb⟩, hiff⟩ := ih (by omega)
      have ew : wrap64 (((i + 1 : Nat) : Int) - 1) = (i : Int) := by unfold wrap64; omega
      obtain ⟨c, hc, hneg⟩ := compare_eq (es.getD (i + 1) z67).f0 (es.getD (i + 1) z67).f1 (es.getD i z67).f0 (es.getD i z67).f1
      by_cases h : c < 0
      · refine ⟨false, ev1 fun k => ?_, ?_⟩
        · simp only [slices_IsSortedFunc_Edge.l0, ew, rdE_nat, hc, Option.bind_some]
          rw [if_pos (by omega), if_pos (by omega), if_pos (by omega), if_pos (by omega), if_pos (by omega), if_pos h]
        · simp only [Bool.false_eq_true, false_iff]
          intro hall
          exact hall i (by omega) (hneg.1 h)
      · refine ⟨b, ⟨K + 1, fun k hk => ?_⟩, ?_⟩
        · obtain ⟨m, rfl⟩ : ∃ m, k = m + 1 := ⟨k - 1, by omega⟩
          have h2 := hb m (by omega)
          dsimp only at h2 ⊢
          simp only [slices_IsSortedFunc_Edge.l0, ew, rdE_nat, hc, Option.bind_some]
          rw [if_pos (by omega), if_pos (by omega), if_pos (by omega), if_pos (by omega), if_pos (by omega), if_neg h, h2]
        · rw [hiff]
          constructor
          · intro hall j hj
            by_cases e : j = i
            · subst e; exact fun hh => h (hneg.2 hh)
            · exact hall j (by omega)
          · exact fun hall j hj => hall j (by omega)
  simp only [slices_IsSortedFunc_Edge.f]
  by_cases h0 : es.length = 0
  · refine ⟨true, ev1 fun k => ?_, ?_⟩
    · simp only [slices_IsSortedFunc_Edge.l0]
      rw [if_neg (by unfold wrap64; omega)]
    · simp only [true_iff]
      intro i hi
      omega
  · obtain ⟨b, hb, hiff⟩ := main (es.length - 1) (by omega)
    have ew : wrap64 ((es.length : Int) - 1) = ((es.length - 1 : Nat) : Int) := by unfold wrap64; omega
    rw [ew]
    refine ⟨b, hb, ?_⟩
    rw [hiff]
    exact ⟨fun h i hi => h i (by omega), fun h i hi => h i (by omega)⟩
def toN (e : S67) : Nat × Nat := (e.f0.toNat, e.f1.toNat)
theorem conn_l1 (n : Nat) (es : List S67) (hn : n ≤ 6) (he : ∀ e ∈ es, 0 ≤ e.f0 ∧ e.f0 < e.f1 ∧ e.f1 < n) (x8 x9 : Int) (r : Bool) (hl : es.length < 4611686018427387904) :
    ∀ (rest : List S67) (i : Nat) (M : Nat), i ≤ es.length → es.drop i = rest → M < 2 ^ n → Ev (fun k => impl_connected.l0 k n es ((rnd (rest.map toN) M : Nat) : Int) x8 (wrap64 (x9 + 1))) r →
      Ev (fun k => impl_connected.l1 k n es (M : Int) x8 x9 es (es.length : Int) (i : Int)) r := by
  intro rest
  induction rest with
  | nil =>
    intro i M hi hd hM h
    have := drop_nil hd
    obtain ⟨K, hK⟩ := h
    refine ⟨K + 1, fun k hk => ?_⟩
    obtain ⟨m, rfl⟩ : ∃ m, k = m + 1 := ⟨k - 1, by omega⟩
    simp only [impl_connected.l1]
    rw [if_neg (by omega)]
    exact hK m (by omega)
  | cons e rest ih =>
    intro i M hi hd hM h
    have hlt := drop_lt hd
    have hmem : e ∈ es := by
      have : e ∈ es.drop i := by rw [hd]; simp
      exact List.mem_of_mem_drop this
    obtain ⟨h0, h1, h2⟩ := he e hmem
    obtain ⟨a, ha⟩ : ∃ a : Nat, e.f0 = a := ⟨e.f0.toNat, by omega⟩
    obtain ⟨b, hb⟩ : ∃ b : Nat, e.f1 = b := ⟨e.f1.toNat, by omega⟩
    have hte : toN e = (a, b) := by simp [toN, ha, hb]
    have hM62 : M < 2 ^ 62 := Nat.lt_of_lt_of_le hM (Nat.pow_le_pow_right (by decide) (by omega))
    have hlt' := upd_lt M (a, b) n hM (by show a < n; omega) (by show b < n; omega)
    rw [List.map_cons, hte] at h
    obtain ⟨K, hK⟩ := ih (i + 1) (upd M (a, b)) (by omega) (drop_next hd) hlt' h
    refine ⟨K + 1, fun k hk => ?_⟩
    obtain ⟨m, rfl⟩ : ∃ m, k = m + 1 := ⟨k - 1, by omega⟩
    have h3 := hK m (by omega)
    dsimp only at h3 ⊢
    simp only [impl_connected.l1, rd_IE hd, ha, hb, bit_of M a hM62 (by omega), bit_of M b hM62 (by omega), or_two M a b hM62 (by omega) (by omega)]
    rw [if_pos (by omega), if_pos (by omega), if_pos (by omega), if_pos (by omega), wrap_succ (by omega)]
    unfold upd at h3
    by_cases ta : M.testBit a = true
    · rw [if_pos (by simp [ta]), if_pos (by omega)]
      rw [if_pos (by simp [ta])] at h3
      exact h3
    · by_cases tb : M.testBit b = true
      · rw [if_neg (by simp [ta]), if_pos (by omega), if_pos (by simp [tb])]
        rw [if_pos (by simp [tb])] at h3
        exact h3
      · rw [if_neg (by simp [ta]), if_pos (by omega), if_neg (by simp [tb])]
        rw [if_neg (by simp [ta, tb])] at h3
        exact h3
theorem toN_lt {n : Nat} {es : List S67} (he : ∀ e ∈ es, 0 ≤ e.f0 ∧ e.f0 < e.f1 ∧ e.f1 < n) : ∀ x ∈ es.map toN, x.1 < n ∧ x.2 < n := by
  intro x hx
  obtain ⟨e, hm, rfl⟩ := List.mem_map.1 hx
  have := he e hm
  simp only [toN]
  omega
theorem impl_connected_ev (n : Nat) (es : List S67) (hn0 : 0 < n) (hn : n ≤ 6) (he : ∀ e ∈ es, 0 ≤ e.f0 ∧ e.f0 < e.f1 ∧ e.f1 < n) (hl : es.length < 4611686018427387904) :
    Ev (fun k => impl_connected.f k n es) (decide (iter (es.map toN) n 1 = 2 ^ n - 1)) := by
  have main : ∀ (d : Nat) (x9 M : Nat), x9 + d = n → M < 2 ^ n → Ev (fun k => impl_connected.l0 k n es (M : Int) n (x9 : Int)) (decide (iter (es.map toN) d M = 2 ^ n - 1)) := by
    intro d
    induction d with
    | zero =>
      intro x9 M hx hM
      refine ev1 fun k => ?_
      simp only [impl_connected.l0, iter]
      rw [if_neg (by omega), if_pos (by omega), shl_nat n (by omega)]
      have : wrap64 (((2 ^ n : Nat) : Int) - 1) = ((2 ^ n - 1 : Nat) : Int) := by
        have h1 : 2 ^ n ≤ 2 ^ 6 := Nat.pow_le_pow_right (by decide) hn
        have h2 : 0 < 2 ^ n := Nat.pow_pos (by decide)
        unfold wrap64
        omega
      rw [this]
      have e : ((M : Int) == ((2 ^ n - 1 : Nat) : Int)) = decide (M = 2 ^ n - 1) := by
        generalize 2 ^ n - 1 = q
        rw [Bool.eq_iff_iff, beq_iff_eq, decide_eq_true_eq]
        omega
      rw [e]
      rfl
    | succ d ih =>
      intro x9 M hx hM
      have h1 := ih (x9 + 1) (rnd (es.map toN) M) (by omega) (rnd_lt _ n M hM (toN_lt he))
      have h2 := conn_l1 n es hn he n x9 _ hl es 0 M (by omega) rfl hM (by rw [wrap_succ (by omega)]; exact h1)
      obtain ⟨K, hK⟩ := h2
      refine ⟨K + 1, fun k hk => ?_⟩
      obtain ⟨m, rfl⟩ : ∃ m, k = m + 1 := ⟨k - 1, by omega⟩
      have h3 := hK m (by omega)
      dsimp only [iter] at h3 ⊢
      simp only [impl_connected.l0]
      rw [if_pos (by omega)]
      exact h3
  exact main n 0 1 (by omega) (Nat.one_lt_two_pow (by omega))
theorem full_iff (n : Nat) (es : List S67) (hn0 : 0 < n) (he : ∀ e ∈ es, 0 ≤ e.f0 ∧ e.f0 < e.f1 ∧ e.f1 < n) : iter (es.map toN) n 1 = 2 ^ n - 1 ↔ ConnE n es := by
  rw [iter_full (es.map toN) n hn0 (toN_lt he)]
  constructor
  · intro h P h0 hP v hv0 hv
    obtain ⟨u, rfl⟩ : ∃ u : Nat, v = u := ⟨v.toNat, by omega⟩
    refine h (fun u => P u) h0 (fun x hx => ?_) u (by omega)
    obtain ⟨e, hm, rfl⟩ := List.mem_map.1 hx
    have hb := he e hm
    simp only [toN]
    rw [show ((e.f0.toNat : Nat) : Int) = e.f0 by omega, show ((e.f1.toNat : Nat) : Int) = e.f1 by omega]
    exact hP e hm
  · intro h P h0 hP v hv
    have := h (fun u => P u.toNat) h0 (fun e hm => hP (toN e) (List.mem_map.2 ⟨e, hm, rfl⟩)) v (by omega) (by omega)
    simpa using this
theorem impl_graphOk_iff (n : Int) (es : List S67) (hl : es.length < 4611686018427387904) : ∃ b : Bool, Ev (fun k => impl_GraphOk.f k n es) b ∧ (b = true ↔ GraphP n es) := by
  have h1 := impl_edgesOk_ev n es hl
  simp only [impl_GraphOk.f]
  by_cases hb : edgesB n es = true
  · obtain ⟨f1, f2, f3, f4⟩ := edgesB_facts hb
    obtain ⟨m, rfl⟩ : ∃ m : Nat, n = m := ⟨n.toNat, by omega⟩
    obtain ⟨b, h2, hs⟩ := impl_sorted_ev es hl
    rw [hb] at h1
    cases b with
    | false =>
      refine ⟨false, Ev.bind h1 ?_, ?_⟩
      · simp only [if_true]
        refine Ev.bind h2 ?_
        simp only [Bool.false_eq_true, if_false]
        exact Ev.now _
      · simp only [Bool.false_eq_true, false_iff] at hs ⊢
        exact fun h => hs h.2.1
    | true =>
      refine ⟨decide (iter (es.map toN) m 1 = 2 ^ m - 1), Ev.bind h1 ?_, ?_⟩
      · simp only [if_true]
        refine Ev.bind h2 ?_
        simp only [if_true]
        refine Ev.bind (impl_connected_ev m es (by omega) (by omega) f4 hl) ?_
        exact Ev.now _
      · rw [decide_eq_true_eq, full_iff m es (by omega) f4]
        simp only [true_iff] at hs
        exact ⟨fun h => ⟨hb, hs, h⟩, fun h => h.2.2⟩
  · refine ⟨false, Ev.bind h1 ?_, ?_⟩
    · simp only [hb]
      exact Ev.now _
    · simp only [Bool.false_eq_true, false_iff]
      exact fun h => hb h.1
theorem has_ev (l : List Int) (v : Int) (hl : l.length < 4611686018427387904) : Ev (fun k => spec_l02Has.f k l v) (decide (v ∈ l)) := by
  simp only [spec_l02Has.f]
  refine ev_list0 l (fun k (_ : Unit) i => spec_l02Has.l0 k v l (l.length : Int) i) (fun _ r => decide (v ∈ r)) (fun _ _ => True) (fun s _ => ev1 fun k => ?_) (fun s a rest i hlt hd _ => ?_) () trivial
  · simp only [spec_l02Has.l0]
    rw [if_neg (by omega)]; simp
  · by_cases h : a = v
    · refine Or.inl (ev1 fun k => ?_)
      simp only [spec_l02Has.l0, rd_drop hd]
      rw [if_pos (by omega), if_pos (by omega), if_pos (by omega), if_pos h]
      simp [h]
    · refine Or.inr ⟨(), trivial, ?_, 0, fun k _ => ?_⟩
      · simp [Ne.symm h]
      · simp only [spec_l02Has.l0, rd_drop hd]
        rw [if_pos (by omega), if_pos (by omega), if_pos (by omega), if_neg h, wrap_succ (by omega)]
def RInv (n : Nat) (es : List S67) (q : List Int) : Prop :=
  q.Nodup ∧ (∀ v ∈ q, 0 ≤ v ∧ v < n) ∧ (0 : Int) ∈ q ∧ ∀ P : Int → Prop, P 0 → (∀ e ∈ es, P e.f0 ↔ P e.f1) → ∀ v ∈ q, P v
theorem rinv_len {n : Nat} {es : List S67} {q : List Int} (h : RInv n es q) : q.length ≤ n := by
  have := List.Nodup.length_le_of_subset h.1 (l₂ := (List.range n).map fun i : Nat => (i : Int)) (fun v hv => by
    have hb := h.2.1 v hv
    exact List.mem_map.2 ⟨v.toNat, by simp; omega, by omega⟩)
  simpa using this
theorem rinv_add {n : Nat} {es : List S67} {q : List Int} (h : RInv n es q) {u v : Int} {e : S67} (he : e ∈ es) (hb : 0 ≤ e.f0 ∧ e.f0 < e.f1 ∧ e.f1 < n) (hu : u ∈ q) (huv : (u = e.f0 ∧ v = e.f1) ∨ (u = e.f1 ∧ v = e.f0)) (hv : v ∉ q) : RInv n es (q ++ [v]) := by
  refine ⟨?_, fun x hx => ?_, by simp [h.2.2.1], fun P h0 hP x hx => ?_⟩
  · rw [List.nodup_append]
    refine ⟨h.1, by simp, fun a ha b hb' => ?_⟩
    simp at hb'
    subst hb'
    intro e'
    subst e'
    exact hv ha
  · rcases List.mem_append.1 hx with hx | hx
    · exact h.2.1 x hx
    · simp at hx
      omega
  · rcases List.mem_append.1 hx with hx | hx
    · exact h.2.2.2 P h0 hP x hx
    · simp at hx
      subst hx
      have := h.2.2.2 P h0 hP u hu
      rcases huv with ⟨h1, h2⟩ | ⟨h1, h2⟩
      · rw [h2]; exact (hP e he).1 (h1 ▸ this)
      · rw [h2]; exact (hP e he).2 (h1 ▸ this)
theorem get_mem_append {q : List Int} {i : Nat} (h : i < q.length) (v : Int) : rd (q ++ [v]) (i : Int) = rd q (i : Int) := by
  rw [rd_nat q i h, rd_nat (q ++ [v]) i (by simp; omega), List.getElem_append_left h]
theorem reach_step (n : Nat) (es : List S67) (q : List Int) (pos i : Nat) (e : S67) (rest : List S67) (hd : es.drop i = e :: rest) (hne : e.f0 ≠ e.f1) (hpos : pos < q.length) (hq : q.length ≤ 6) (hl : es.length < 4611686018427387904) (r : List Int)
    (h : Ev (fun k => spec_l02Reach.l1 k (if e.f0 = rd q pos ∧ e.f1 ∉ q then q ++ [e.f1] else if e.f1 = rd q pos ∧ e.f0 ∉ q then q ++ [e.f0] else q) (pos : Int) es (es.length : Int) ((i + 1 : Nat) : Int) n es) r) :
    Ev (fun k => spec_l02Reach.l1 k q (pos : Int) es (es.length : Int) (i : Int) n es) r := by
  have hlt := drop_lt hd
  have b1 := has_ev q e.f1 (by omega)
  have tail : ∀ q' : List Int, pos < q'.length → q'.length ≤ 7 →
      Ev (fun k => spec_l02Reach.l1 k (if e.f1 = rd q' pos ∧ e.f0 ∉ q' then q' ++ [e.f0] else q') (pos : Int) es (es.length : Int) ((i + 1 : Nat) : Int) n es) r →
      Ev (fun k => spec_l02Reach.j3 k q' (pos : Int) es (es.length : Int) (i : Int) n es e.f0 e.f1) r := by
    intro q' hp' hq' h'
    have b2 := has_ev q' e.f0 (by omega)
    refine ev_succ ?_
    simp only [spec_l02Reach.j3, wrap_succ (show i < 4611686018427387904 by omega)]
    refine ev_ift (by omega) (ev_ift (by omega) ?_)
    by_cases c1 : e.f1 = rd q' pos
    · refine ev_ift c1 (Ev.bind b2 ?_)
      by_cases m0 : e.f0 ∈ q'
      · rw [if_neg (fun hh => hh.2 m0)] at h'
        exact ev_ift (by simp [m0]) h'
      · rw [if_pos ⟨c1, m0⟩] at h'
        exact ev_ifn (by simp [m0]) (ev_ift (by omega) h')
    · rw [if_neg (fun hh => c1 hh.1)] at h'
      exact ev_ifn c1 h'
  refine ev_succ ?_
  simp only [spec_l02Reach.l1, rd_IE hd]
  refine ev_ift (by omega) (ev_ift (by omega) (ev_ift (by omega) (ev_ift (by omega) (ev_ift (by omega) ?_))))
  by_cases c0 : e.f0 = rd q pos
  · have c1 : ¬ e.f1 = rd q pos := fun hh => hne (c0.trans hh.symm)
    refine ev_ift c0 (Ev.bind b1 (ev_succ ?_))
    simp only [spec_l02Reach.j2]
    by_cases m1 : e.f1 ∈ q
    · rw [if_neg (fun hh => hh.2 m1), if_neg (fun hh => c1 hh.1)] at h
      refine ev_ifn (by simp [m1]) (tail q hpos (by omega) ?_)
      rw [if_neg (fun hh => c1 hh.1)]
      exact h
    · rw [if_pos ⟨c0, m1⟩] at h
      refine ev_ift (by simp [m1]) (ev_ift (by omega) (tail (q ++ [e.f1]) (by simp; omega) (by simp; omega) ?_))
      rw [get_mem_append hpos, if_neg (fun hh => c1 hh.1)]
      exact h
  · refine ev_ifn c0 (ev_succ ?_)
    simp only [spec_l02Reach.j2]
    rw [if_neg (fun hh => c0 hh.1)] at h
    exact ev_ifn (by simp) (tail q hpos (by omega) h)
def Done (es : List S67) (q : List Int) (pos : Nat) : Prop := ∀ j, j < pos → ∀ e ∈ es, (e.f0 = rd q j → e.f1 ∈ q) ∧ (e.f1 = rd q j → e.f0 ∈ q)
theorem done_add {es : List S67} {q : List Int} {pos : Nat} (h : Done es q pos) (hp : pos ≤ q.length) (v : Int) : Done es (q ++ [v]) pos := by
  intro j hj e he
  rw [get_mem_append (by omega)]
  have := h j hj e he
  exact ⟨fun hh => List.mem_append_left _ (this.1 hh), fun hh => List.mem_append_left _ (this.2 hh)⟩
theorem reach_inner (n : Nat) (hn : n ≤ 6) (es : List S67) (he : ∀ e ∈ es, 0 ≤ e.f0 ∧ e.f0 < e.f1 ∧ e.f1 < n) (hl : es.length < 4611686018427387904) (pos : Nat)
    (next : ∀ q, RInv n es q → Done es q (pos + 1) → pos < q.length → ∃ r, Ev (fun k => spec_l02Reach.l0 k q ((pos + 1 : Nat) : Int) n es) r ∧ RInv n es r ∧ Done es r r.length) :
    ∀ (rest : List S67) (i : Nat) (q : List Int), i ≤ es.length → es.drop i = rest → RInv n es q → Done es q pos → pos < q.length →
      (∀ e ∈ es.take i, (e.f0 = rd q pos → e.f1 ∈ q) ∧ (e.f1 = rd q pos → e.f0 ∈ q)) →
      ∃ r, Ev (fun k => spec_l02Reach.l1 k q (pos : Int) es (es.length : Int) (i : Int) n es) r ∧ RInv n es r ∧ Done es r r.length := by
  intro rest
  induction rest with
  | nil =>
    intro i q hi hd hinv hdone hpos hpart
    have hge := drop_nil hd
    have hlen := rinv_len hinv
    rw [List.take_of_length_le hge] at hpart
    obtain ⟨r, ⟨K, hK⟩, h1, h2⟩ := next q hinv (fun j hj => by
      by_cases e : j = pos
      · subst e; exact hpart
      · exact hdone j (by omega)) hpos
    refine ⟨r, ⟨K + 1, fun k hk => ?_⟩, h1, h2⟩
    obtain ⟨m, rfl⟩ : ∃ m, k = m + 1 := ⟨k - 1, by omega⟩
    have h3 := hK m (by omega)
    dsimp only at h3 ⊢
    simp only [spec_l02Reach.l1]
    rw [if_neg (by omega), wrap_succ (by omega), h3]
  | cons e rest ih =>
    intro i q hi hd hinv hdone hpos hpart
    have hlt := drop_lt hd
    have hmem : e ∈ es := by
      have : e ∈ es.drop i := by rw [hd]; simp
      exact List.mem_of_mem_drop this
    have hb := he e hmem
    have hlen := rinv_len hinv
    have hx : rd q pos ∈ q := by rw [rd_nat q pos hpos]; exact List.getElem_mem _
    have htake : es.take (i + 1) = es.take i ++ [e] := take_drop hd
    have step := reach_step n es q pos i e rest hd (by omega) hpos (by omega) hl
    by_cases c0 : e.f0 = rd q pos ∧ e.f1 ∉ q
    · obtain ⟨r, hr, h1, h2⟩ := ih (i + 1) (q ++ [e.f1]) (by omega) (drop_next hd) (rinv_add hinv hmem hb hx (Or.inl ⟨c0.1.symm, rfl⟩) c0.2) (done_add hdone (by omega) _) (by simp; omega) (fun x hx' => by
        rw [get_mem_append hpos]
        rw [htake] at hx'
        rcases List.mem_append.1 hx' with hx' | hx'
        · have := hpart x hx'
          exact ⟨fun hh => List.mem_append_left _ (this.1 hh), fun hh => List.mem_append_left _ (this.2 hh)⟩
        · simp at hx'
          subst hx'
          exact ⟨fun _ => by simp, fun hh => absurd (c0.1.trans hh.symm) (by omega)⟩)
      refine ⟨r, step r ?_, h1, h2⟩
      simp only [if_pos c0]
      exact hr
    · by_cases c1 : e.f1 = rd q pos ∧ e.f0 ∉ q
      · obtain ⟨r, hr, h1, h2⟩ := ih (i + 1) (q ++ [e.f0]) (by omega) (drop_next hd) (rinv_add hinv hmem hb hx (Or.inr ⟨c1.1.symm, rfl⟩) c1.2) (done_add hdone (by omega) _) (by simp; omega) (fun x hx' => by
          rw [get_mem_append hpos]
          rw [htake] at hx'
          rcases List.mem_append.1 hx' with hx' | hx'
          · have := hpart x hx'
            exact ⟨fun hh => List.mem_append_left _ (this.1 hh), fun hh => List.mem_append_left _ (this.2 hh)⟩
          · simp at hx'
            subst hx'
            exact ⟨fun hh => absurd (hh.trans c1.1.symm) (by omega), fun _ => by simp⟩)
        refine ⟨r, step r ?_, h1, h2⟩
        simp only [if_neg c0, if_pos c1]
        exact hr
      · obtain ⟨r, hr, h1, h2⟩ := ih (i + 1) q (by omega) (drop_next hd) hinv hdone hpos (fun x hx' => by
          rw [htake] at hx'
          rcases List.mem_append.1 hx' with hx' | hx'
          · exact hpart x hx'
          · simp at hx'
            subst hx'
            exact ⟨fun hh => Classical.byContradiction fun hn => c0 ⟨hh, hn⟩, fun hh => Classical.byContradiction fun hn => c1 ⟨hh, hn⟩⟩)
        refine ⟨r, step r ?_, h1, h2⟩
        simp only [if_neg c0, if_neg c1]
        exact hr
theorem reach_ev (n : Nat) (hn0 : 0 < n) (hn : n ≤ 6) (es : List S67) (he : ∀ e ∈ es, 0 ≤ e.f0 ∧ e.f0 < e.f1 ∧ e.f1 < n) (hl : es.length < 4611686018427387904) :
    ∃ r, Ev (fun k => spec_l02Reach.f k n es) r ∧ RInv n es r ∧ Done es r r.length := by
  have main : ∀ (d pos : Nat) (q : List Int), RInv n es q → Done es q pos → pos ≤ q.length → n < pos + d → ∃ r, Ev (fun k => spec_l02Reach.l0 k q (pos : Int) n es) r ∧ RInv n es r ∧ Done es r r.length := by
    intro d
    induction d with
    | zero =>
      intro pos q hinv _ hp hd
      have := rinv_len hinv
      omega
    | succ d ih =>
      intro pos q hinv hdone hp hd
      by_cases hlt : pos < q.length
      · obtain ⟨r, ⟨K, hK⟩, h1, h2⟩ := reach_inner n hn es he hl pos (fun q' h1 h2 h3 => ih (pos + 1) q' h1 h2 (by omega) (by omega)) es 0 q (by omega) rfl hinv hdone hlt (fun e he' => by simp at he')
        refine ⟨r, ⟨K + 1, fun k hk => ?_⟩, h1, h2⟩
        obtain ⟨m, rfl⟩ : ∃ m, k = m + 1 := ⟨k - 1, by omega⟩
        have h3 := hK m (by omega)
        dsimp only at h3 ⊢
        simp only [spec_l02Reach.l0]
        rw [if_pos (by omega)]
        exact h3
      · refine ⟨q, ev1 fun k => ?_, hinv, ?_⟩
        · simp only [spec_l02Reach.l0]
          rw [if_neg (by omega)]
        · have : pos = q.length := by omega
          rw [this] at hdone
          exact hdone
  refine main (n + 1) 0 [0] ⟨by simp, fun v hv => by simp at hv; omega, by simp, fun P h0 _ v hv => by simp at hv; rw [hv]; exact h0⟩ (fun j hj => by omega) (by simp) (by omega)
theorem reach_all (n : Nat) (es : List S67) (r : List Int) (h1 : RInv n es r) (h2 : Done es r r.length) : ((r.length : Int) == n) = true ↔ ConnE n es := by
  have hlen := rinv_len h1
  constructor
  · intro h P h0 hP v hv0 hv
    simp at h
    refine h1.2.2.2 P h0 hP v (Classical.byContradiction fun hno => ?_)
    have := List.Nodup.length_le_of_subset (l₁ := v :: r) (by rw [List.nodup_cons]; exact ⟨hno, h1.1⟩) (l₂ := (List.range n).map fun i : Nat => (i : Int)) (fun u hu => by
      have hb : 0 ≤ u ∧ u < n := by
        rcases List.mem_cons.1 hu with rfl | hu
        · omega
        · exact h1.2.1 u hu
      exact List.mem_map.2 ⟨u.toNat, by simp; omega, by omega⟩)
    simp at this
    omega
  · intro h
    have hall := h (fun v => v ∈ r) h1.2.2.1 (fun e he => by
      constructor
      · intro hm
        obtain ⟨j, hj, hjv⟩ := List.mem_iff_getElem.1 hm
        exact (h2 j hj e he).1 (by rw [rd_nat r j hj]; exact hjv.symm)
      · intro hm
        obtain ⟨j, hj, hjv⟩ := List.mem_iff_getElem.1 hm
        exact (h2 j hj e he).2 (by rw [rd_nat r j hj]; exact hjv.symm))
    have := List.Nodup.length_le_of_subset (l₁ := (List.range n).map fun i : Nat => (i : Int)) (l₂ := r) (by
      refine List.Pairwise.map _ (fun a b hab => ?_) List.nodup_range
      show (a : Int) ≠ b
      omega) (fun v hv => by
      obtain ⟨i, hi, rfl⟩ := List.mem_map.1 hv
      simp at hi
      exact hall _ (by omega) (by omega))
    simp at this ⊢
    omega
theorem spec_graphOk_iff (n : Int) (es : List S67) (hl : es.length < 4611686018427387904) : ∃ b : Bool, Ev (fun k => spec_GraphOk.f k n es) b ∧ (b = true ↔ GraphP n es) := by
  have h1 := spec_edgesOk_ev n es hl
  simp only [spec_GraphOk.f]
  by_cases hb : edgesB n es = true
  · obtain ⟨f1, f2, f3, f4⟩ := edgesB_facts hb
    obtain ⟨m, rfl⟩ : ∃ m : Nat, n = m := ⟨n.toNat, by omega⟩
    obtain ⟨r, hr, r1, r2⟩ := reach_ev m (by omega) (by omega) es f4 hl
    rw [hb] at h1
    have main : ∀ (d i : Nat), i + d = es.length → ∃ b : Bool, Ev (fun k => spec_GraphOk.l0 k es (es.length : Int) (i : Int) m es) b ∧
        (b = true ↔ (∀ j, i ≤ j + 1 → j + 1 < es.length → ¬ ((es.getD (j + 1) z67).f0 < (es.getD j z67).f0 ∨ ((es.getD (j + 1) z67).f0 = (es.getD j z67).f0 ∧ (es.getD (j + 1) z67).f1 < (es.getD j z67).f1))) ∧ ConnE m es) := by
      intro d
      induction d with
      | zero =>
        intro i hi
        obtain ⟨K, hK⟩ := hr
        refine ⟨((r.length : Int) == m), ⟨K + 1, fun k hk => ?_⟩, ?_⟩
        · obtain ⟨p, rfl⟩ : ∃ p, k = p + 1 := ⟨k - 1, by omega⟩
          have h3 := hK p (by omega)
          dsimp only at h3 ⊢
          simp only [spec_GraphOk.l0]
          rw [if_neg (by omega), h3]
          rfl
        · rw [reach_all m es r r1 r2]
          exact ⟨fun h => ⟨fun j h1 h2 => by omega, h⟩, fun h => h.2⟩
      | succ d ih =>
        intro i hi
        obtain ⟨b, hK, hiff⟩ := ih (i + 1) (by omega)
        have stop : Ev (fun k => spec_GraphOk.j1 k es (es.length : Int) (i : Int) true m es) false := ev1 fun k => by simp only [spec_GraphOk.j1, if_true]
        have go : Ev (fun k => spec_GraphOk.j1 k es (es.length : Int) (i : Int) false m es) b := by
          refine ev_succ ?_
          simp only [spec_GraphOk.j1, Bool.false_eq_true, if_false, wrap_succ (show i < 4611686018427387904 by omega)]
          exact hK
        by_cases i0 : i = 0
        · subst i0
          refine ⟨b, ev_succ ?_, ?_⟩
          · simp only [spec_GraphOk.l0]
            exact ev_ift (by omega) (ev_ift (by omega) (ev_ift (by omega) (ev_ifn (by omega) go)))
          · rw [hiff]
            exact ⟨fun h => ⟨fun j _ h2 => h.1 j (by omega) h2, h.2⟩, fun h => ⟨fun j _ h2 => h.1 j (by omega) h2, h.2⟩⟩
        · obtain ⟨p, rfl⟩ : ∃ p, i = p + 1 := ⟨i - 1, by omega⟩
          have ew : wrap64 (((p + 1 : Nat) : Int) - 1) = (p : Int) := by unfold wrap64; omega
          by_cases hc : (es.getD (p + 1) z67).f0 < (es.getD p z67).f0 ∨ ((es.getD (p + 1) z67).f0 = (es.getD p z67).f0 ∧ (es.getD (p + 1) z67).f1 < (es.getD p z67).f1)
          · refine ⟨false, ev_succ ?_, ?_⟩
            · simp only [spec_GraphOk.l0, ew, rdE_nat]
              refine ev_ift (by omega) (ev_ift (by omega) (ev_ift (by omega) (ev_ift (by omega) (ev_ift (by omega) (ev_ift (by omega) ?_)))))
              by_cases c0 : (es.getD (p + 1) z67).f0 < (es.getD p z67).f0
              · exact ev_ift c0 stop
              · have c1 : (es.getD (p + 1) z67).f1 < (es.getD p z67).f1 := by omega
                simp only [decide_eq_true c1]
                exact ev_ifn c0 (ev_ift (by omega) stop)
            · simp only [Bool.false_eq_true, false_iff]
              exact fun h => h.1 p (by omega) (by omega) hc
          · refine ⟨b, ev_succ ?_, ?_⟩
            · simp only [spec_GraphOk.l0, ew, rdE_nat]
              refine ev_ift (by omega) (ev_ift (by omega) (ev_ift (by omega) (ev_ift (by omega) (ev_ift (by omega) (ev_ift (by omega) (ev_ifn (by omega) ?_))))))
              by_cases c0 : (es.getD (p + 1) z67).f0 = (es.getD p z67).f0
              · have c1 : ¬ (es.getD (p + 1) z67).f1 < (es.getD p z67).f1 := by omega
                simp only [decide_eq_false c1]
                exact ev_ift c0 go
              · exact ev_ifn c0 go
            · rw [hiff]
              refine ⟨fun h => ⟨fun j h1 h2 => ?_, h.2⟩, fun h => ⟨fun j _ h2 => h.1 j (by omega) h2, h.2⟩⟩
              by_cases e : j = p
              · subst e; exact hc
              · exact h.1 j (by omega) h2
    obtain ⟨b, hb2, hiff⟩ := main es.length 0 (by omega)
    refine ⟨b, Ev.bind h1 ?_, ?_⟩
    · simp only [if_true]
      exact hb2
    · rw [hiff]
      exact ⟨fun h => ⟨hb, fun i hi => h.1 i (by omega) hi, h.2⟩, fun h => ⟨fun j _ h2 => h.2.1 j h2, h.2.2⟩⟩
  · refine ⟨false, Ev.bind h1 ?_, ?_⟩
    · simp only [hb]
      exact Ev.now _
    · simp only [Bool.false_eq_true, false_iff]
      exact fun h => hb h.1
theorem graphOk_both (n : Int) (es : List S67) (hl : es.length < 4611686018427387904) : ∃ b : Bool, Ev (fun k => impl_GraphOk.f k n es) b ∧ Ev (fun k => spec_GraphOk.f k n es) b ∧ (b = true ↔ GraphP n es) := by
  obtain ⟨b, h1, i1⟩ := impl_graphOk_iff n es hl
  obtain ⟨b', h2, i2⟩ := spec_graphOk_iff n es hl
  have : b' = b := by rw [Bool.eq_iff_iff, i1, i2]
  subst this
  exact ⟨b', h1, h2, i1⟩
theorem within_eq (a b c : Int) : impl_within.f a b c = some (decide (b ≤ a ∧ a ≤ c)) := by
  unfold impl_within.f
  by_cases h : a ≥ b
  · rw [if_pos h]; simp; omega
  · rw [if_neg h]; simp; omega
theorem in_eq (a b c : Int) : spec_l01In.f a b c = some (decide (b ≤ a ∧ a ≤ c)) := by
  unfold spec_l01In.f
  by_cases h : a ≥ b
  · rw [if_pos h]; simp; omega
  · rw [if_neg h]; simp; omega
def allB (l : List Int) (lo hi : Int) : Bool := l.all fun x => decide (lo ≤ x ∧ x ≤ hi)
theorem allWithin_ev (l : List Int) (lo hi : Int) (hl : l.length < 4611686018427387904) : Ev (fun k => impl_allWithin.f k l lo hi) (allB l lo hi) := by
  simp only [impl_allWithin.f]
  refine ev_list0 l (fun k (_ : Unit) i => impl_allWithin.l0 k lo hi l (l.length : Int) i) (fun _ r => allB r lo hi) (fun _ _ => True) (fun s _ => ev1 fun k => ?_) (fun s a rest i hlt hd _ => ?_) () trivial
  · simp only [impl_allWithin.l0]
    rw [if_neg (by omega)]; rfl
  · by_cases h : lo ≤ a ∧ a ≤ hi
    · refine Or.inr ⟨(), trivial, by simp [allB, h], 0, fun k _ => ?_⟩
      simp only [impl_allWithin.l0, rd_drop hd, within_eq, Option.bind_some]
      rw [if_pos (by omega), if_pos (by omega), if_pos (by omega), if_pos (by simp [h]), wrap_succ (by omega)]
    · refine Or.inl (ev1 fun k => ?_)
      simp only [impl_allWithin.l0, rd_drop hd, within_eq, Option.bind_some]
      rw [if_pos (by omega), if_pos (by omega), if_pos (by omega), if_neg (by simpa using h)]
      simp [allB, h]
theorem all_loop (l : List Int) (lo hi : Int) (hl : l.length < 4611686018427387904) (g : Nat → Int → Option Bool)
    (hg : ∀ k i, g (k + 1) i = if i < (l.length : Int) then (if 0 ≤ i then (if i < (l.length : Int) then ((spec_l01In.f (rd l i) lo hi).bind fun t => (if t = true then (g k (wrap64 (i + 1))) else (some false))) else (none)) else (none)) else (some true)) :
    Ev (fun k => g k 0) (allB l lo hi) := by
  refine ev_list0 l (fun k (_ : Unit) i => g k i) (fun _ r => allB r lo hi) (fun _ _ => True) (fun s _ => ev1 fun k => ?_) (fun s a rest i hlt hd _ => ?_) () trivial
  · rw [hg, if_neg (by omega)]; rfl
  · by_cases h : lo ≤ a ∧ a ≤ hi
    · refine Or.inr ⟨(), trivial, by simp [allB, h], 0, fun k _ => ?_⟩
      rw [hg, if_pos (by omega), if_pos (by omega), if_pos (by omega), rd_drop hd, in_eq, Option.bind_some, if_pos (by simp [h]), wrap_succ (by omega)]
    · refine Or.inl (ev1 fun k => ?_)
      rw [hg, if_pos (by omega), if_pos (by omega), if_pos (by omega), rd_drop hd, in_eq, Option.bind_some, if_neg (by simpa using h)]
      simp [allB, h]
def DivP (n : Int) (es : List S67) (d : List Int) : Prop := GraphP n es ∧ (d.length : Int) = n ∧ allB d (-60) 60 = true
theorem divOk_both (n : Int) (es : List S67) (d : List Int) (hl : es.length < 4611686018427387904) (hd : d.length < 4611686018427387904) : ∃ b : Bool, Ev (fun k => impl_DivisorOk.f k n es d) b ∧ Ev (fun k => spec_DivisorOk.f k n es d) b ∧ (b = true ↔ DivP n es d) := by
  obtain ⟨b, h1, h2, hb⟩ := graphOk_both n es hl
  simp only [impl_DivisorOk.f, spec_DivisorOk.f]
  have off : ∀ q : Bool, q = true → Ev (fun k => spec_DivisorOk.j0 k d q) false := fun q hq => ev1 fun k => by
    simp only [spec_DivisorOk.j0, hq, if_true]
  cases b with
  | false =>
    refine ⟨false, Ev.bind h1 ?_, Ev.bind h2 ?_, ?_⟩
    · simp only [Bool.false_eq_true, if_false]; exact Ev.now _
    · simp only [Bool.false_eq_true, if_false]; exact off _ rfl
    · simp only [Bool.false_eq_true, false_iff] at hb ⊢
      exact fun h => hb h.1
  | true =>
    simp only [true_iff] at hb
    by_cases hn : (d.length : Int) = n
    · refine ⟨allB d (-60) 60, Ev.bind h1 ?_, Ev.bind h2 ?_, ?_⟩
      · simp only [if_true, if_pos hn]
        exact Ev.bind (allWithin_ev d (-60) 60 hd) (Ev.now _)
      · simp only [if_true]
        refine ev_succ ?_
        simp only [spec_DivisorOk.j0]
        simp only [if_neg (show ¬ ((d.length : Int) != n) = true by simp [hn])]
        exact all_loop d (-60) 60 hd (fun k i => spec_DivisorOk.l0 k d (d.length : Int) i) (fun k i => by simp only [spec_DivisorOk.l0])
      · exact ⟨fun h => ⟨hb, hn, h⟩, fun h => h.2.2⟩
    · refine ⟨false, Ev.bind h1 ?_, Ev.bind h2 ?_, ?_⟩
      · simp only [if_true, if_neg hn]; exact Ev.now _
      · simp only [if_true]; exact off _ (by simp [hn])
      · simp only [Bool.false_eq_true, false_iff]
        exact fun h => hn h.2.1
theorem getD_set (x : List Int) (i j : Nat) (c : Int) (hi : i < x.length) : (x.set i c).getD j 0 = if i = j then c else x.getD j 0 := by
  simp only [List.getD_eq_getElem?_getD, List.getElem?_set]
  by_cases e : i = j
  · subst e; simp [hi]
  · simp [e]
def cE (s : List Int) (u : Nat) (e : S67) : Int :=
  (if e.f0.toNat = u then s.getD e.f1.toNat 0 - s.getD e.f0.toNat 0 else 0) + (if e.f1.toNat = u then s.getD e.f0.toNat 0 - s.getD e.f1.toNat 0 else 0)
def net (s : List Int) (u : Nat) : List S67 → Int
  | [] => 0
  | e :: es => cE s u e + net s u es
def okE (n : Nat) (e : S67) : Prop := 0 ≤ e.f0 ∧ e.f0 < e.f1 ∧ e.f1 < n
def stepS (s : List Int) (x : List Int) (e : S67) : List Int :=
  let y := x.set e.f0.toNat (wrap64 (wrap64 (x.getD e.f0.toNat 0 - s.getD e.f0.toNat 0) + s.getD e.f1.toNat 0))
  y.set e.f1.toNat (wrap64 (wrap64 (y.getD e.f1.toNat 0 - s.getD e.f1.toNat 0) + s.getD e.f0.toNat 0))
def In64 (x : List Int) : Prop := ∀ u, wrap64 (x.getD u 0) = x.getD u 0
theorem in64_wrap {x : List Int} (h : In64 x) (u : Nat) (c : Int) : wrap64 (x.getD u 0 + 0) = x.getD u 0 := by rw [Int.add_zero]; exact h u
theorem stepS_get (n : Nat) (s x : List Int) (e : S67) (he : okE n e) (hx : x.length = n) (h : In64 x) (u : Nat) : (stepS s x e).getD u 0 = wrap64 (x.getD u 0 + cE s u e) := by
  obtain ⟨h0, h1, h2⟩ := he
  have hne : ¬ e.f0.toNat = e.f1.toNat := by omega
  simp only [stepS, cE]
  rw [getD_set _ e.f1.toNat u _ (by simp; omega), getD_set x e.f0.toNat e.f1.toNat _ (by omega), if_neg hne, getD_set x e.f0.toNat u _ (by omega)]
  by_cases e1 : e.f1.toNat = u
  · have e0 : ¬ e.f0.toNat = u := by omega
    rw [if_pos e1, if_neg e0, if_pos e1, e1]
    unfold wrap64; omega
  · rw [if_neg e1, if_neg e1]
    by_cases e0 : e.f0.toNat = u
    · rw [if_pos e0, if_pos e0, e0]
      unfold wrap64; omega
    · rw [if_neg e0, if_neg e0]
      exact (in64_wrap h u 0).symm
theorem stepS_len (s x : List Int) (e : S67) : (stepS s x e).length = x.length := by simp [stepS]
theorem foldS_get (n : Nat) (s : List Int) : ∀ (es : List S67) (x : List Int), (∀ e ∈ es, okE n e) → x.length = n → In64 x →
    (es.foldl (stepS s) x).length = n ∧ ∀ u, (es.foldl (stepS s) x).getD u 0 = wrap64 (x.getD u 0 + net s u es) := by
  intro es
  induction es with
  | nil => intro x _ hx h; exact ⟨hx, fun u => by simp only [List.foldl_nil, net]; exact (in64_wrap h u 0).symm⟩
  | cons e es ih =>
    intro x he hx h
    have hs := stepS_get n s x e (he e (by simp)) hx h
    have hi : In64 (stepS s x e) := fun u => by rw [hs u]; exact wrap_wrap _
    obtain ⟨h1, h2⟩ := ih (stepS s x e) (fun y hy => he y (by simp [hy])) (by rw [stepS_len]; exact hx) hi
    refine ⟨h1, fun u => ?_⟩
    simp only [List.foldl_cons, net]
    rw [h2 u, hs u, wrap_wrap_add]
    congr 1; omega
theorem spec_fire_ev (n : Nat) (es : List S67) (d s : List Int) (he : ∀ e ∈ es, okE n e) (hd : d.length = n) (hs : s.length = n) (hn : n ≤ 6) (hl : es.length < 4611686018427387904) (nn : Int) :
    Ev (fun k => spec_l04Fire.f k nn es d s) (es.foldl (stepS s) d) := by
  simp only [spec_l04Fire.f, Option.bind_some, List.nil_append, List.length_nil]
  simp only [if_pos (show 0 + d.length < 17592186044416 by omega)]
  refine ev_list0 es (fun k (x : List Int) i => spec_l04Fire.l0 k s x es (es.length : Int) i) (fun x r => r.foldl (stepS s) x) (fun x r => x.length = n) (fun x hx => ev1 fun k => ?_) (fun x e rest i hlt hdr hx => Or.inr ⟨stepS s x e, by rw [stepS_len]; exact hx, rfl, 0, fun k _ => ?_⟩) d hd
  · simp only [spec_l04Fire.l0]
    rw [if_neg (by omega)]; rfl
  · have hmem : e ∈ es := by
      have : e ∈ es.drop i := by rw [hdr]; simp
      exact List.mem_of_mem_drop this
    obtain ⟨h0, h1, h2⟩ := he e hmem
    simp only [spec_l04Fire.l0, rd_IE hdr, Option.bind_some]
    rw [if_pos (by omega), if_pos (by omega), if_pos (by omega), if_pos (by omega), if_pos (by omega), if_pos (by omega), if_pos (by omega), if_pos (by omega), if_pos (by omega), wrap_succ (by omega)]
    rfl
def stepF (v : Nat) (t : Int) (x : List Int) (e : S67) : List Int :=
  if e.f0.toNat = v then
    let y := x.set v (wrap64 (x.getD v 0 - t))
    y.set e.f1.toNat (wrap64 (y.getD e.f1.toNat 0 + t))
  else if e.f1.toNat = v then
    let y := x.set v (wrap64 (x.getD v 0 - t))
    y.set e.f0.toNat (wrap64 (y.getD e.f0.toNat 0 + t))
  else x
def fE (v : Nat) (t : Int) (u : Nat) (e : S67) : Int :=
  if e.f0.toNat = v then (if v = u then -t else 0) + (if e.f1.toNat = u then t else 0)
  else if e.f1.toNat = v then (if v = u then -t else 0) + (if e.f0.toNat = u then t else 0)
  else 0
def netF (v : Nat) (t : Int) (u : Nat) : List S67 → Int
  | [] => 0
  | e :: es => fE v t u e + netF v t u es
theorem stepF_len (v : Nat) (t : Int) (x : List Int) (e : S67) : (stepF v t x e).length = x.length := by
  simp only [stepF]
  split
  · simp
  · split <;> simp
theorem stepF_get (n v : Nat) (t : Int) (x : List Int) (e : S67) (he : okE n e) (hx : x.length = n) (h : In64 x) (u : Nat) : (stepF v t x e).getD u 0 = wrap64 (x.getD u 0 + fE v t u e) := by
  obtain ⟨h0, h1, h2⟩ := he
  have key : ∀ (p q : Nat), p < n → q < n → p ≠ q → ((x.set p (wrap64 (x.getD p 0 - t))).set q (wrap64 ((x.set p (wrap64 (x.getD p 0 - t))).getD q 0 + t))).getD u 0 = wrap64 (x.getD u 0 + ((if p = u then -t else 0) + (if q = u then t else 0))) := by
    intro p q hp hq hpq
    rw [getD_set _ q u _ (by simp; omega), getD_set x p q _ (by omega), if_neg hpq, getD_set x p u _ (by omega)]
    by_cases e1 : q = u
    · rw [if_pos e1, if_pos e1, if_neg (by omega), e1]
      congr 1; omega
    · rw [if_neg e1, if_neg e1]
      by_cases e0 : p = u
      · rw [if_pos e0, if_pos e0, e0]
        congr 1; omega
      · rw [if_neg e0, if_neg e0]
        exact (in64_wrap h u 0).symm
  simp only [stepF, fE]
  by_cases a : e.f0.toNat = v
  · rw [if_pos a, if_pos a]
    exact key v e.f1.toNat (by omega) (by omega) (by omega)
  · rw [if_neg a, if_neg a]
    by_cases b : e.f1.toNat = v
    · rw [if_pos b, if_pos b]
      exact key v e.f0.toNat (by omega) (by omega) (by omega)
    · rw [if_neg b, if_neg b]
      exact (in64_wrap h u 0).symm
theorem foldF_get (n v : Nat) (t : Int) : ∀ (es : List S67) (x : List Int), (∀ e ∈ es, okE n e) → x.length = n → In64 x →
    (es.foldl (stepF v t) x).length = n ∧ ∀ u, (es.foldl (stepF v t) x).getD u 0 = wrap64 (x.getD u 0 + netF v t u es) := by
  intro es
  induction es with
  | nil => intro x _ hx h; exact ⟨hx, fun u => by simp only [List.foldl_nil, netF]; exact (in64_wrap h u 0).symm⟩
  | cons e es ih =>
    intro x he hx h
    have hs := stepF_get n v t x e (he e (by simp)) hx h
    have hi : In64 (stepF v t x e) := fun u => by rw [hs u]; exact wrap_wrap _
    obtain ⟨h1, h2⟩ := ih (stepF v t x e) (fun y hy => he y (by simp [hy])) (by rw [stepF_len]; exact hx) hi
    refine ⟨h1, fun u => ?_⟩
    simp only [List.foldl_cons, netF]
    rw [h2 u, hs u, wrap_wrap_add]
    congr 1; omega
theorem impl_fire_ev (n : Nat) (es : List S67) (x : List Int) (v : Nat) (t : Int) (he : ∀ e ∈ es, okE n e) (hx : x.length = n) (hn : n ≤ 6) (hl : es.length < 4611686018427387904) (nn : Int) :
    Ev (fun k => impl_fire.f k nn es x (v : Int) t) (es.foldl (stepF v t) x) := by
  simp only [impl_fire.f]
  refine ev_list0 es (fun k (x : List Int) i => impl_fire.l0 k x (v : Int) t es (es.length : Int) i) (fun x r => r.foldl (stepF v t) x) (fun x r => x.length = n) (fun x hx => ev1 fun k => ?_) (fun x e rest i hlt hdr hx => Or.inr ⟨stepF v t x e, by rw [stepF_len]; exact hx, rfl, 0, fun k _ => ?_⟩) x hx
  · simp only [impl_fire.l0]
    rw [if_neg (by omega)]; rfl
  · have hmem : e ∈ es := by
      have : e ∈ es.drop i := by rw [hdr]; simp
      exact List.mem_of_mem_drop this
    obtain ⟨h0, h1, h2⟩ := he e hmem
    simp only [impl_fire.l0, rd_IE hdr, Option.bind_some]
    rw [if_pos (by omega), if_pos (by omega), if_pos (by omega), wrap_succ (by omega)]
    simp only [stepF]
    by_cases a : e.f0.toNat = v
    · rw [if_pos (by omega), if_pos (by omega), if_pos (by omega), if_pos (by omega), if_pos (by omega), if_pos a]
      rfl
    · rw [if_neg (by omega), if_neg a]
      by_cases b : e.f1.toNat = v
      · rw [if_pos (by omega), if_pos (by omega), if_pos (by omega), if_pos (by omega), if_pos (by omega), if_pos b]
        rfl
      · rw [if_neg (by omega), if_neg b]
def fireFrom (es : List S67) : Nat → List Int → List Int → List Int
  | _, [], x => x
  | v, t :: ts, x => fireFrom es (v + 1) ts (es.foldl (stepF v t) x)
def sumF (es : List S67) (u : Nat) : Nat → List Int → Int
  | _, [] => 0
  | v, t :: ts => netF v t u es + sumF es u (v + 1) ts
theorem fireFrom_get (n : Nat) (es : List S67) (he : ∀ e ∈ es, okE n e) : ∀ (ts : List Int) (v : Nat) (x : List Int), x.length = n → In64 x →
    (fireFrom es v ts x).length = n ∧ ∀ u, (fireFrom es v ts x).getD u 0 = wrap64 (x.getD u 0 + sumF es u v ts) := by
  intro ts
  induction ts with
  | nil => intro v x hx h; exact ⟨hx, fun u => by simp only [fireFrom, sumF]; exact (in64_wrap h u 0).symm⟩
  | cons t ts ih =>
    intro v x hx h
    obtain ⟨h1, h2⟩ := foldF_get n v t es x he hx h
    have hi : In64 (es.foldl (stepF v t) x) := fun u => by rw [h2 u]; exact wrap_wrap _
    obtain ⟨h3, h4⟩ := ih (v + 1) _ h1 hi
    refine ⟨h3, fun u => ?_⟩
    simp only [fireFrom, sumF]
    rw [h4 u, h2 u, wrap_wrap_add]
    congr 1; omega
def sumV (u : Nat) (e : S67) : Nat → List Int → Int
  | _, [] => 0
  | v, t :: ts => fE v t u e + sumV u e (v + 1) ts
theorem sumF_cons (u : Nat) (e : S67) (es : List S67) : ∀ (ts : List Int) (v : Nat), sumF (e :: es) u v ts = sumV u e v ts + sumF es u v ts := by
  intro ts
  induction ts with
  | nil => intro v; rfl
  | cons t ts ih => intro v; simp only [sumF, sumV, netF, ih]; omega
theorem sumV_eq (u : Nat) (e : S67) (hne : e.f0.toNat ≠ e.f1.toNat) : ∀ (ts : List Int) (v : Nat), sumV u e v ts =
    (if v ≤ e.f0.toNat ∧ e.f0.toNat < v + ts.length then (if e.f0.toNat = u then -(ts.getD (e.f0.toNat - v) 0) else 0) + (if e.f1.toNat = u then ts.getD (e.f0.toNat - v) 0 else 0) else 0) +
    (if v ≤ e.f1.toNat ∧ e.f1.toNat < v + ts.length then (if e.f1.toNat = u then -(ts.getD (e.f1.toNat - v) 0) else 0) + (if e.f0.toNat = u then ts.getD (e.f1.toNat - v) 0 else 0) else 0) := by
  intro ts
  induction ts with
  | nil => intro v; simp only [sumV, List.length_nil]; rw [if_neg (by omega), if_neg (by omega)]; rfl
  | cons t ts ih =>
    intro v
    simp only [sumV, fE, ih, List.length_cons]
    by_cases a : e.f0.toNat = v
    · rw [if_pos a, if_neg (show ¬ (v + 1 ≤ e.f0.toNat ∧ e.f0.toNat < v + 1 + ts.length) by omega), if_pos (show v ≤ e.f0.toNat ∧ e.f0.toNat < v + (ts.length + 1) by omega), show e.f0.toNat - v = 0 by omega]
      simp only [List.getD_cons_zero]
      by_cases b : v + 1 ≤ e.f1.toNat ∧ e.f1.toNat < v + 1 + ts.length
      · rw [if_pos b, if_pos (show v ≤ e.f1.toNat ∧ e.f1.toNat < v + (ts.length + 1) by omega), show e.f1.toNat - v = (e.f1.toNat - (v + 1)) + 1 by omega]
        simp only [List.getD_cons_succ, a]
        omega
      · rw [if_neg b, if_neg (show ¬ (v ≤ e.f1.toNat ∧ e.f1.toNat < v + (ts.length + 1)) by omega)]
        simp only [a]
        omega
    · rw [if_neg a]
      by_cases b : e.f1.toNat = v
      · rw [if_pos b, if_neg (show ¬ (v + 1 ≤ e.f1.toNat ∧ e.f1.toNat < v + 1 + ts.length) by omega), if_pos (show v ≤ e.f1.toNat ∧ e.f1.toNat < v + (ts.length + 1) by omega), show e.f1.toNat - v = 0 by omega]
        simp only [List.getD_cons_zero]
        by_cases c : v + 1 ≤ e.f0.toNat ∧ e.f0.toNat < v + 1 + ts.length
        · rw [if_pos c, if_pos (show v ≤ e.f0.toNat ∧ e.f0.toNat < v + (ts.length + 1) by omega), show e.f0.toNat - v = (e.f0.toNat - (v + 1)) + 1 by omega]
          simp only [List.getD_cons_succ, b]
          omega
        · rw [if_neg c, if_neg (show ¬ (v ≤ e.f0.toNat ∧ e.f0.toNat < v + (ts.length + 1)) by omega)]
          simp only [b]
          omega
      · rw [if_neg b]
        have p1 : (v + 1 ≤ e.f0.toNat ∧ e.f0.toNat < v + 1 + ts.length) ↔ (v ≤ e.f0.toNat ∧ e.f0.toNat < v + (ts.length + 1)) := by omega
        have p2 : (v + 1 ≤ e.f1.toNat ∧ e.f1.toNat < v + 1 + ts.length) ↔ (v ≤ e.f1.toNat ∧ e.f1.toNat < v + (ts.length + 1)) := by omega
        by_cases q1 : v ≤ e.f0.toNat ∧ e.f0.toNat < v + (ts.length + 1)
        · rw [if_pos (p1.2 q1), if_pos q1, show e.f0.toNat - v = (e.f0.toNat - (v + 1)) + 1 by omega]
          simp only [List.getD_cons_succ]
          by_cases q2 : v ≤ e.f1.toNat ∧ e.f1.toNat < v + (ts.length + 1)
          · rw [if_pos (p2.2 q2), if_pos q2, show e.f1.toNat - v = (e.f1.toNat - (v + 1)) + 1 by omega]
            simp only [List.getD_cons_succ]
            omega
          · rw [if_neg (fun h => q2 (p2.1 h)), if_neg q2]; omega
        · rw [if_neg (fun h => q1 (p1.1 h)), if_neg q1]
          by_cases q2 : v ≤ e.f1.toNat ∧ e.f1.toNat < v + (ts.length + 1)
          · rw [if_pos (p2.2 q2), if_pos q2, show e.f1.toNat - v = (e.f1.toNat - (v + 1)) + 1 by omega]
            simp only [List.getD_cons_succ]
            omega
          · rw [if_neg (fun h => q2 (p2.1 h)), if_neg q2]; omega
theorem sumF_net (n : Nat) (s : List Int) (hs : s.length = n) (u : Nat) : ∀ es : List S67, (∀ e ∈ es, okE n e) → sumF es u 0 s = net s u es := by
  intro es
  induction es with
  | nil =>
    intro _
    have : ∀ (ts : List Int) (v : Nat), sumF ([] : List S67) u v ts = 0 := by
      intro ts
      induction ts with
      | nil => intro v; rfl
      | cons t ts ih => intro v; simp only [sumF, netF, ih]; rfl
    exact this s 0
  | cons e es ih =>
    intro he
    obtain ⟨h0, h1, h2⟩ := he e (by simp)
    rw [sumF_cons, ih (fun y hy => he y (by simp [hy])), sumV_eq u e (by omega)]
    simp only [net, cE]
    rw [if_pos (show 0 ≤ e.f0.toNat ∧ e.f0.toNat < 0 + s.length by omega), if_pos (show 0 ≤ e.f1.toNat ∧ e.f1.toNat < 0 + s.length by omega), Nat.sub_zero, Nat.sub_zero]
    by_cases a : e.f0.toNat = u
    · by_cases b : e.f1.toNat = u
      · omega
      · simp only [if_pos a, if_neg b]; omega
    · by_cases b : e.f1.toNat = u
      · simp only [if_neg a, if_pos b]; omega
      · simp only [if_neg a, if_neg b]; omega
theorem list_eq {x y : List Int} (h : x.length = y.length) (hu : ∀ u, x.getD u 0 = y.getD u 0) : x = y := by
  refine List.ext_getElem h fun i h1 h2 => ?_
  have := hu i
  simp only [List.getD_eq_getElem?_getD, List.getElem?_eq_getElem h1, List.getElem?_eq_getElem h2, Option.getD_some] at this
  exact this
theorem fired_same (n : Nat) (es : List S67) (d s : List Int) (he : ∀ e ∈ es, okE n e) (hd : d.length = n) (hs : s.length = n) (h : In64 d) : fireFrom es 0 s d = es.foldl (stepS s) d := by
  obtain ⟨h1, h2⟩ := foldS_get n s es d he hd h
  obtain ⟨h3, h4⟩ := fireFrom_get n es he s 0 d hd h
  refine list_eq (by omega) fun u => ?_
  rw [h2 u, h4 u, sumF_net n s hs u es he]
theorem allB_get {l : List Int} {lo hi : Int} (h : allB l lo hi = true) (hlo : lo ≤ 0) (hhi : 0 ≤ hi) (u : Nat) : lo ≤ l.getD u 0 ∧ l.getD u 0 ≤ hi := by
  simp only [allB, List.all_eq_true, decide_eq_true_eq] at h
  rw [List.getD_eq_getElem?_getD]
  rcases Nat.lt_or_ge u l.length with hu | hu
  · rw [List.getElem?_eq_getElem hu]
    exact h _ (List.getElem_mem hu)
  · rw [List.getElem?_eq_none hu]
    exact ⟨hlo, hhi⟩
end Go.Proofs.Ytbcfccdoffbncaa.Pure
end
section
set_option linter.unusedVariables false
set_option linter.unusedSimpArgs false
namespace Go.Proofs.Ytbcfccdoffbncaa.Pure
open Go.RowKit Go.Proofs.Ytbcfccdoffbncaa.P Go.Proofs.YtbcfccdoffbncaaW.PrintWords Go.Proofs.YtbcfccdoffbncaaW.PrintLast Go.Proofs.YtbcfccdoffbncaaW.PrintMore Go.Proofs.Ytbcfccdoffbncaa.Base Go.Proofs.Ytbcfccdoffbncaa.Reduce Go.Proofs.Ytbcfccdoffbncaa.Loops Go.Proofs.Ytbcfccdoffbncaa.Bits
def mE (n : Nat) (es : List S67) : Nat → Nat → Int := fun v w => multI n es v w
theorem multI_nonneg (n : Int) (es : List S67) (v w : Int) : 0 ≤ multI n es v w := by
  unfold multI
  split
  · exact Int.natCast_nonneg _
  · exact Int.le_refl _
theorem multI_symm (n : Int) (es : List S67) (v w : Int) : multI n es v w = multI n es w v := by
  have e1 : mn v w = mn w v := by unfold mn; split <;> split <;> omega
  have e2 : mx v w = mx w v := by unfold mx; split <;> split <;> omega
  unfold multI multN
  rw [e1, e2]
  by_cases h : 0 ≤ v ∧ v < n ∧ 0 ≤ w ∧ w < n ∧ v ≠ w
  · rw [if_pos h, if_pos (by omega)]
  · rw [if_neg h, if_neg (by omega)]
theorem multI_self (n : Int) (es : List S67) (v : Int) : multI n es v v = 0 := by
  unfold multI
  rw [if_neg (by omega)]
theorem multI_cons (n : Nat) (es : List S67) (e : S67) (he : okE n e) (v w : Nat) (hv : v < n) (hw : w < n) :
    multI n (e :: es) v w = multI n es v w + (if (e.f0.toNat = v ∧ e.f1.toNat = w) ∨ (e.f1.toNat = v ∧ e.f0.toNat = w) then 1 else 0) := by
  obtain ⟨h0, h1, h2⟩ := he
  by_cases hvw : v = w
  · subst hvw
    rw [multI_self, multI_self, if_neg (by omega)]; rfl
  · have hr : 0 ≤ (v : Int) ∧ (v : Int) < n ∧ 0 ≤ (w : Int) ∧ (w : Int) < n ∧ (v : Int) ≠ w := by omega
    unfold multI multN
    rw [if_pos hr, if_pos hr, List.countP_cons]
    have hiff : (decide (e.f0 = mn v w) && decide (e.f1 = mx v w)) = true ↔ ((e.f0.toNat = v ∧ e.f1.toNat = w) ∨ (e.f1.toNat = v ∧ e.f0.toNat = w)) := by
      rw [Bool.and_eq_true, decide_eq_true_eq, decide_eq_true_eq]
      unfold mn mx
      split <;> split <;> omega
    by_cases c : (e.f0.toNat = v ∧ e.f1.toNat = w) ∨ (e.f1.toNat = v ∧ e.f0.toNat = w)
    · rw [if_pos c, if_pos (hiff.2 c)]; omega
    · rw [if_neg c, if_neg (fun h => c (hiff.1 h))]; omega
theorem sum_ind (n j : Nat) (F : Nat → Int) (hj : j < n) : sumN (fun w => (if w = j then 1 else 0) * F w) n = F j := by
  have h := sumN_upd (fun _ => (0 : Int)) n j (F j) hj
  rw [sumN_zero] at h
  rw [← sumN_congr (f := fun i => if i = j then F j else 0) (fun i _ => ?_), h]
  · omega
  · by_cases e : i = j
    · subst e; simp
    · simp [e]
theorem lap_cons (n : Nat) (es : List S67) (e : S67) (he : okE n e) (v : Nat) (hv : v < n) (F : Nat → Int) :
    sumN (fun w => mE n (e :: es) v w * F w) n = sumN (fun w => mE n es v w * F w) n + (if e.f0.toNat = v then F e.f1.toNat else 0) + (if e.f1.toNat = v then F e.f0.toNat else 0) := by
  have hc := multI_cons n es e he v
  obtain ⟨h0, h1, h2⟩ := he
  have split_ : ∀ j : Nat, j < n → (∀ w, w < n → (((e.f0.toNat = v ∧ e.f1.toNat = w) ∨ (e.f1.toNat = v ∧ e.f0.toNat = w)) ↔ w = j)) → sumN (fun w => mE n (e :: es) v w * F w) n = sumN (fun w => mE n es v w * F w) n + F j := by
    intro j hj hiff
    rw [← sum_ind n j F hj, ← sumN_add]
    refine sumN_congr fun w hw => ?_
    show multI n (e :: es) v w * F w = multI n es v w * F w + _
    rw [hc w hv hw]
    by_cases c : w = j
    · rw [if_pos ((hiff w hw).2 c), if_pos c, Int.add_mul]
    · rw [if_neg (fun h => c ((hiff w hw).1 h)), if_neg c, Int.add_mul]
  by_cases a : e.f0.toNat = v
  · rw [if_pos a, if_neg (by omega), split_ e.f1.toNat (by omega) (fun w hw => by omega)]; omega
  · by_cases b : e.f1.toNat = v
    · rw [if_neg a, if_pos b, split_ e.f0.toNat (by omega) (fun w hw => by omega)]; omega
    · rw [if_neg a, if_neg b]
      have : sumN (fun w => mE n (e :: es) v w * F w) n = sumN (fun w => mE n es v w * F w) n := sumN_congr fun w hw => by
        show multI n (e :: es) v w * F w = multI n es v w * F w
        rw [hc w hv hw, if_neg (by omega)]; congr 1; omega
      rw [this]; omega
theorem mE_nil (n : Nat) (v : Nat) (F : Nat → Int) : sumN (fun w => mE n ([] : List S67) v w * F w) n = 0 := by
  rw [← sumN_zero n]
  refine sumN_congr fun w _ => ?_
  show multI n [] v w * F w = 0
  unfold multI multN
  split <;> simp
theorem net_lap (n : Nat) (s : List Int) (v : Nat) (hv : v < n) : ∀ es : List S67, (∀ e ∈ es, okE n e) → net s v es = - lap n (mE n es) (fun w => s.getD w 0) v := by
  have main : ∀ es : List S67, (∀ e ∈ es, okE n e) → net s v es = sumN (fun w => mE n es v w * (s.getD w 0 - s.getD v 0)) n := by
    intro es
    induction es with
    | nil => intro _; exact (mE_nil n v _).symm
    | cons e es ih =>
      intro he
      have h1 := he e (by simp)
      rw [lap_cons n es e h1 v hv (fun w => s.getD w 0 - s.getD v 0), ← ih (fun y hy => he y (by simp [hy]))]
      simp only [net, cE]
      by_cases a : e.f0.toNat = v
      · rw [if_pos a, if_pos a]
        obtain ⟨h0, h1, h2⟩ := h1
        rw [if_neg (by omega), if_neg (by omega), a]; omega
      · rw [if_neg a, if_neg a]
        by_cases b : e.f1.toNat = v
        · rw [if_pos b, if_pos b, b]; omega
        · rw [if_neg b, if_neg b]; omega
  intro es he
  rw [main es he]
  unfold lap
  have : sumN (fun w => mE n es v w * (s.getD v 0 - s.getD w 0)) n = sumN (fun w => (-1) * (mE n es v w * (s.getD w 0 - s.getD v 0))) n := sumN_congr fun w _ => by
    rw [show s.getD v 0 - s.getD w 0 = -(s.getD w 0 - s.getD v 0) by omega, Int.mul_neg]; omega
  rw [this, sumN_mul]; omega
theorem val_le (n : Nat) (v : Nat) (hv : v < n) : ∀ es : List S67, (∀ e ∈ es, okE n e) → sumN (mE n es v) n ≤ es.length := by
  intro es
  induction es with
  | nil =>
    intro _
    have := mE_nil n v (fun _ => 1)
    simp only [Int.mul_one] at this
    rw [show sumN (mE n ([] : List S67) v) n = 0 from this]; simp
  | cons e es ih =>
    intro he
    have h1 := he e (by simp)
    have h := lap_cons n es e h1 v hv (fun _ => 1)
    have i := ih (fun y hy => he y (by simp [hy]))
    simp only [Int.mul_one] at h
    obtain ⟨h0, h1, h2⟩ := h1
    rw [show sumN (mE n (e :: es) v) n = _ from h]
    rw [List.length_cons]
    by_cases a : e.f0.toNat = v
    · rw [if_pos a, if_neg (by omega)]
      have : sumN (fun w => mE n es v w) n = sumN (mE n es v) n := rfl
      omega
    · rw [if_neg a]
      have : sumN (fun w => mE n es v w) n = sumN (mE n es v) n := rfl
      by_cases b : e.f1.toNat = v
      · rw [if_pos b]; omega
      · rw [if_neg b]; omega
theorem mE_pos (n : Nat) (es : List S67) (e : S67) (he : e ∈ es) (hb : okE n e) : 0 < mE n es e.f0.toNat e.f1.toNat := by
  obtain ⟨h0, h1, h2⟩ := hb
  show 0 < multI n es _ _
  unfold multI multN
  rw [if_pos (by omega)]
  have e1 : mn (e.f0.toNat : Int) (e.f1.toNat : Int) = e.f0 := by unfold mn; split <;> omega
  have e2 : mx (e.f0.toNat : Int) (e.f1.toNat : Int) = e.f1 := by unfold mx; split <;> omega
  rw [e1, e2]
  have : 0 < es.countP fun x => decide (x.f0 = e.f0) && decide (x.f1 = e.f1) := List.countP_pos_iff.2 ⟨e, he, by simp⟩
  omega
theorem gr_of (n : Nat) (es : List S67) (h : GraphP n es) : Gr n (mE n es) := by
  obtain ⟨f1, f2, f3, f4⟩ := edgesB_facts h.1
  refine ⟨by omega, by omega, fun v w => multI_symm _ _ _ _, fun v w => multI_nonneg _ _ _ _, fun v => multI_self _ _ _, fun v hv => ?_, fun P hP hcl v hv => ?_⟩
  · have := val_le n v hv es f4
    omega
  · have := h.2.2 (fun i => P i.toNat) hP (fun e he => by
      obtain ⟨h0, h1, h2⟩ := f4 e he
      have hp := mE_pos n es e he ⟨h0, h1, h2⟩
      have hp' : 0 < mE n es e.f1.toNat e.f0.toNat := by
        have : mE n es e.f1.toNat e.f0.toNat = mE n es e.f0.toNat e.f1.toNat := multI_symm _ _ _ _
        omega
      exact ⟨fun h => hcl _ _ (by omega) (by omega) hp h, fun h => hcl _ _ (by omega) (by omega) hp' h⟩) v (by omega) (by omega)
    simpa using this
end Go.Proofs.Ytbcfccdoffbncaa.Pure
end
section
set_option linter.unusedVariables false
set_option linter.unusedSimpArgs false
namespace Go.Proofs.Ytbcfccdoffbncaa.Pure
open Go.RowKit Go.Proofs.Ytbcfccdoffbncaa.P Go.Proofs.YtbcfccdoffbncaaW.PrintWords Go.Proofs.YtbcfccdoffbncaaW.PrintLast Go.Proofs.YtbcfccdoffbncaaW.PrintMore Go.Proofs.Ytbcfccdoffbncaa.Base Go.Proofs.Ytbcfccdoffbncaa.Loops
def valN (es : List S67) (v : Int) : Nat := es.countP fun e => decide (e.f0 = v) || decide (e.f1 = v)
def valI (n : Int) (es : List S67) (v : Int) : Int := if 0 ≤ v ∧ v < n then (valN es v : Int) else 0
theorem val_loop (es : List S67) (hl : es.length < 4611686018427387904) (v : Int) (g : Nat → Int → Int → Option Int)
    (hg : ∀ k c i, g (k + 1) c i = if i < (es.length : Int) then (if 0 ≤ i then (if i < (es.length : Int) then (if ((rd_T67 es i).f0) = v then (g k (wrap64 (c + 1)) (wrap64 (i + 1))) else (if ((rd_T67 es i).f1) = v then (g k (wrap64 (c + 1)) (wrap64 (i + 1))) else (g k c (wrap64 (i + 1))))) else (none)) else (none)) else (some c)) :
    Ev (fun k => g k 0 0) (valN es v : Int) := by
  have h := ev_list es (fun k (c : Int) i => g k c i) (fun c r => c + (r.countP fun e => decide (e.f0 = v) || decide (e.f1 = v) : Nat)) (fun c r => 0 ≤ c ∧ c + r.length ≤ es.length) (fun s _ => ev1 fun k => ?_) (fun s e rest i hlt hd hinv => Or.inr ?_) es 0 0 (by omega) rfl (by simp)
  · simpa [valN] using h
  · rw [hg, if_neg (by omega)]; simp
  · simp only [List.length_cons] at hinv
    by_cases hc : e.f0 = v ∨ e.f1 = v
    · refine ⟨s + 1, by omega, ?_, 0, fun k _ => ?_⟩
      · rw [List.countP_cons_of_pos (by simp [hc])]; omega
      · rw [hg, if_pos (by omega), if_pos (by omega), if_pos (by omega), rd_IE hd, wrap_succ (by omega), wrap_id (by omega) (by omega)]
        by_cases h1 : e.f0 = v
        · rw [if_pos h1]
        · rw [if_neg h1, if_pos (by omega)]
    · refine ⟨s, by omega, ?_, 0, fun k _ => ?_⟩
      · rw [List.countP_cons_of_neg (by simp; omega)]
      · rw [hg, if_pos (by omega), if_pos (by omega), if_pos (by omega), rd_IE hd, wrap_succ (by omega), if_neg (by omega), if_neg (by omega)]
theorem impl_val_ev (n : Int) (es : List S67) (hl : es.length < 4611686018427387904) (v : Int) : Ev (fun k => impl_Valence.f k n es v) (valI n es v) := by
  simp only [impl_Valence.f]
  have off : ∀ q : Bool, q = true → Ev (fun k => impl_Valence.j0 k v q n es) 0 := fun q hq => ev1 fun k => by
    simp only [impl_Valence.j0, hq, if_true]
  by_cases h1 : v < 0
  · simp only [if_pos h1]
    rw [valI, if_neg (by omega)]
    exact off _ rfl
  · simp only [if_neg h1]
    by_cases h2 : v ≥ n
    · rw [valI, if_neg (by omega)]
      exact off _ (by simp; omega)
    · rw [valI, if_pos (by omega)]
      obtain ⟨K, hK⟩ := val_loop es hl v (fun k c i => impl_Valence.l0 k v c es (es.length : Int) i) (fun k c i => by simp only [impl_Valence.l0])
      refine ⟨K + 1, fun k hk => ?_⟩
      obtain ⟨m, rfl⟩ : ∃ m, k = m + 1 := ⟨k - 1, by omega⟩
      have h2 := hK m (by omega)
      dsimp only at h2 ⊢
      simp only [impl_Valence.j0]
      rw [if_neg (by simp; omega), h2]
end Go.Proofs.Ytbcfccdoffbncaa.Pure
end
section
set_option linter.unusedVariables false
set_option linter.unusedSimpArgs false
namespace Go.Proofs.Ytbcfccdoffbncaa.Pure
open Go.RowKit Go.Proofs.Ytbcfccdoffbncaa.P Go.Proofs.YtbcfccdoffbncaaW.PrintWords Go.Proofs.YtbcfccdoffbncaaW.PrintLast Go.Proofs.YtbcfccdoffbncaaW.PrintMore Go.Proofs.Ytbcfccdoffbncaa.Base Go.Proofs.Ytbcfccdoffbncaa.Reduce Go.Proofs.Ytbcfccdoffbncaa.Loops Go.Proofs.Ytbcfccdoffbncaa.Bits
def XD (es : List S67) (D s : List Int) : List Int := es.foldl (stepS s) D
def addAt (s : List Int) (v : Nat) (t : Int) : List Int := s.set v (s.getD v 0 + t)
theorem cE_addAt (n : Nat) (s : List Int) (v : Nat) (t : Int) (hs : s.length = n) (hv : v < n) (u : Nat) (e : S67) (he : okE n e) : cE (addAt s v t) u e = cE s u e + fE v t u e := by
  obtain ⟨h0, h1, h2⟩ := he
  have g : ∀ j, (addAt s v t).getD j 0 = s.getD j 0 + (if v = j then t else 0) := by
    intro j
    unfold addAt
    rw [getD_set _ _ _ _ (by omega)]
    by_cases e : v = j
    · rw [if_pos e, if_pos e, e]
    · rw [if_neg e, if_neg e]; omega
  simp only [cE, fE, g]
  (repeat' split) <;> omega
theorem net_addAt (n : Nat) (s : List Int) (v : Nat) (t : Int) (hs : s.length = n) (hv : v < n) (u : Nat) : ∀ es : List S67, (∀ e ∈ es, okE n e) → net (addAt s v t) u es = net s u es + netF v t u es := by
  intro es
  induction es with
  | nil => intro _; rfl
  | cons e es ih =>
    intro he
    simp only [net, netF]
    rw [cE_addAt n s v t hs hv u e (he e (by simp)), ih (fun y hy => he y (by simp [hy]))]
    omega
theorem xd_len (n : Nat) (es : List S67) (D s : List Int) (he : ∀ e ∈ es, okE n e) (hD : D.length = n) (h : In64 D) : (XD es D s).length = n := (foldS_get n s es D he hD h).1
theorem xd_get (n : Nat) (es : List S67) (D s : List Int) (he : ∀ e ∈ es, okE n e) (hD : D.length = n) (h : In64 D) (u : Nat) : (XD es D s).getD u 0 = wrap64 (D.getD u 0 + net s u es) := (foldS_get n s es D he hD h).2 u
theorem xd_in64 (n : Nat) (es : List S67) (D s : List Int) (he : ∀ e ∈ es, okE n e) (hD : D.length = n) (h : In64 D) : In64 (XD es D s) := fun u => by
  rw [xd_get n es D s he hD h u]; exact wrap_wrap _
theorem xd_fire (n : Nat) (es : List S67) (D s : List Int) (he : ∀ e ∈ es, okE n e) (hD : D.length = n) (hs : s.length = n) (h : In64 D) (v : Nat) (hv : v < n) (t : Int) : es.foldl (stepF v t) (XD es D s) = XD es D (addAt s v t) := by
  have h1 := foldF_get n v t es (XD es D s) he (xd_len n es D s he hD h) (xd_in64 n es D s he hD h)
  refine list_eq (by rw [h1.1, xd_len n es D _ he hD h]) fun u => ?_
  rw [h1.2 u, xd_get n es D s he hD h u, xd_get n es D _ he hD h u, net_addAt n s v t hs hv u es he, wrap_wrap_add]
  congr 1; omega
theorem val_sum (n : Nat) (v : Nat) (hv : v < n) : ∀ es : List S67, (∀ e ∈ es, okE n e) → valI n es v = sumN (mE n es v) n := by
  have main : ∀ es : List S67, (∀ e ∈ es, okE n e) → (valN es v : Int) = sumN (mE n es v) n := by
    intro es
    induction es with
    | nil =>
      intro _
      have := mE_nil n v (fun _ => 1)
      simp only [Int.mul_one] at this
      rw [show sumN (mE n ([] : List S67) v) n = 0 from this]; rfl
    | cons e es ih =>
      intro he
      have h1 := he e (by simp)
      have h := lap_cons n es e h1 v hv (fun _ => 1)
      have i := ih (fun y hy => he y (by simp [hy]))
      simp only [Int.mul_one] at h
      rw [show sumN (mE n (e :: es) v) n = _ from h, show sumN (fun w => mE n es v w) n = sumN (mE n es v) n from rfl, ← i]
      obtain ⟨h0, h1, h2⟩ := h1
      unfold valN
      rw [List.countP_cons]
      have hp : (decide (e.f0 = (v : Int)) || decide (e.f1 = (v : Int))) = true ↔ (e.f0.toNat = v ∨ e.f1.toNat = v) := by
        rw [Bool.or_eq_true, decide_eq_true_eq, decide_eq_true_eq]; omega
      by_cases a : e.f0.toNat = v
      · rw [if_pos a, if_neg (show ¬ e.f1.toNat = v by omega), if_pos (hp.2 (Or.inl a))]; omega
      · by_cases b : e.f1.toNat = v
        · rw [if_neg a, if_pos b, if_pos (hp.2 (Or.inr b))]; omega
        · rw [if_neg a, if_neg b, if_neg (fun h => (hp.1 h).elim a b)]; omega
  intro es he
  unfold valI
  rw [if_pos (by omega)]
  exact main es he
theorem lap_bound (n : Nat) (es : List S67) (h : GraphP n es) (s : Nat → Int) (B : Int) (hB : 0 ≤ B) (hs : ∀ w, w < n → -B ≤ s w ∧ s w ≤ B) (v : Nat) (hv : v < n) : -(24 * B) ≤ lap n (mE n es) s v ∧ lap n (mE n es) s v ≤ 24 * B := by
  have G := gr_of n es h
  have h1 : lap n (mE n es) s v ≤ sumN (fun w => mE n es v w * (2 * B)) n := by
    unfold lap
    refine sumN_le fun w hw => Int.mul_le_mul_of_nonneg_left ?_ (G.nonneg v w)
    have := hs w hw; have := hs v hv; omega
  have h2 : sumN (fun w => mE n es v w * (-(2 * B))) n ≤ lap n (mE n es) s v := by
    unfold lap
    refine sumN_le fun w hw => Int.mul_le_mul_of_nonneg_left ?_ (G.nonneg v w)
    have := hs w hw; have := hs v hv; omega
  rw [sumN_mul'] at h1 h2
  have h3 := G.val v hv
  have h4 : 0 ≤ sumN (mE n es v) n := sumN_nonneg fun i _ => G.nonneg v i
  have e1 : sumN (fun i => mE n es v i) n = sumN (mE n es v) n := rfl
  rw [e1] at h1 h2
  have h5 : sumN (mE n es v) n * (2 * B) ≤ 12 * (2 * B) := Int.mul_le_mul_of_nonneg_right h3 (by omega)
  rw [Int.mul_neg] at h2
  omega
theorem xd_val (n : Nat) (es : List S67) (D s : List Int) (h : GraphP n es) (hD : D.length = n) (hs : s.length = n) (hD0 : ∀ u : Nat, -60 ≤ D.getD u 0 ∧ D.getD u 0 ≤ 60) (B : Int) (hB : 0 ≤ B) (hB2 : B ≤ 1000000000000) (hsB : ∀ w, -B ≤ s.getD w 0 ∧ s.getD w 0 ≤ B) (u : Nat) (hu : u < n) :
    (XD es D s).getD u 0 = D.getD u 0 - lap n (mE n es) (fun w => s.getD w 0) u := by
  have he := (edgesB_facts h.1).2.2.2
  have h64 : In64 D := fun u => wrap_id (by have := hD0 u; omega) (by have := hD0 u; omega)
  rw [xd_get n es D s he hD h64 u, net_lap n s u hu es he]
  have := lap_bound n es h (fun w => s.getD w 0) B hB (fun w _ => hsB w) u hu
  have := hD0 u
  rw [wrap_id (by omega) (by omega)]; omega
end Go.Proofs.Ytbcfccdoffbncaa.Pure
end
section
namespace Go.Proofs.Ytbcfccdoffbncaa.P
open Go.RowKit Go.Proofs.YtbcfccdoffbncaaW.PrintWords Go.Proofs.YtbcfccdoffbncaaW.PrintLast Go.Proofs.YtbcfccdoffbncaaW.PrintMore
attribute [local go_sem] max2_int min2_int max_two min_two max_three min_three max_four min_four
set_option linter.unusedVariables false
set_option linter.unusedSimpArgs false
mutual
def spec_l05Burn.l0 : Nat → List Int → List Int → List Bool → Int → List (S67) → Option (List Int)
 | 0, _, _, _, _, _ => none
 | k + 1, x1, x7, x8, x128000, x128001 => spec_l05Burn.l1 k x1 x7 x8 (-1) (wrap64 (x128000 - 1)) x128000 x128001
def spec_l05Burn.l1 : Nat → List Int → List Int → List Bool → Int → Int → Int → List (S67) → Option (List Int)
 | 0, _, _, _, _, _, _, _ => none
 | k + 1, x1, x7, x8, x9, x10, x128000, x128001 => if x10 ≥ 0 then (spec_l05Burn.l2 k x1 x7 x8 x9 x10 0 0 x128000 x128001) else (if x9 < 0 then (some x7) else (if 0 ≤ x9 then (if x9 < (x8.length : Int) then (if x7.length < 17592186044416 then (spec_l05Burn.l0 k x1 (x7 ++ [x9]) (x8.set (x9 : Int).toNat true) x128000 x128001) else (none)) else (none)) else (none)))
def spec_l05Burn.l2 : Nat → List Int → List Int → List Bool → Int → Int → Int → Int → Int → List (S67) → Option (List Int)
 | 0, _, _, _, _, _, _, _, _, _ => none
 | k + 1, x1, x7, x8, x9, x10, x11, x12, x128000, x128001 => if x12 < x128000 then (if 0 ≤ x12 then (if x12 < (x8.length : Int) then (if rdOf false x8 x12 = true then ((spec_Multiplicity.f k x128000 x128001 x10 x12).bind fun t136 => (spec_l05Burn.l2 k x1 x7 x8 x9 x10 (wrap64 (x11 + t136)) (wrap64 (x12 + 1)) x128000 x128001)) else (spec_l05Burn.l2 k x1 x7 x8 x9 x10 x11 (wrap64 (x12 + 1)) x128000 x128001)) else (none)) else (none)) else (if 0 ≤ x10 then (if x10 < (x8.length : Int) then (if rdOf false x8 x10 = true then (spec_l05Burn.l1 k x1 x7 x8 x9 (wrap64 (x10 - 1)) x128000 x128001) else (if x10 < (x1.length : Int) then (if (rd x1 x10) < x11 then (spec_l05Burn.l1 k x1 x7 x8 x10 (wrap64 (x10 - 1)) x128000 x128001) else (spec_l05Burn.l1 k x1 x7 x8 x9 (wrap64 (x10 - 1)) x128000 x128001)) else (none))) else (none)) else (none))
end
def spec_l05Burn.f (k : Nat) (a0_0 : Int) (l0_1 : List (S67)) (l1 : List Int) (a2 : Int) : Option (List Int) := if 0 ≤ a0_0 then (if (a0_0 : Int).toNat ≤ 281474976710656 then ((some (List.replicate (a0_0 : Int).toNat false : List Bool)).bind fun y131 => (if 0 ≤ a2 then (if a2 < (y131.length : Int) then (spec_l05Burn.l0 k l1 (([a2] : List Int)) (y131.set (a2 : Int).toNat true) a0_0 l0_1) else (none)) else (none))) else (none)) else (none)
end Go.Proofs.Ytbcfccdoffbncaa.P
end
section
set_option linter.unusedVariables false
set_option linter.unusedSimpArgs false
namespace Go.Proofs.Ytbcfccdoffbncaa.Pure
open Go.RowKit Go.Proofs.Ytbcfccdoffbncaa.P Go.Proofs.YtbcfccdoffbncaaW.PrintWords Go.Proofs.YtbcfccdoffbncaaW.PrintLast Go.Proofs.YtbcfccdoffbncaaW.PrintMore Go.Proofs.Ytbcfccdoffbncaa.Base Go.Proofs.Ytbcfccdoffbncaa.Loops Go.Proofs.Ytbcfccdoffbncaa.Bits
def sumQ (n : Int) (es : List S67) (v : Int) : List Int → Int
  | [] => 0
  | w :: q => multI n es v w + sumQ n es v q
theorem multI_b (n : Int) (es : List S67) (v w : Int) : 0 ≤ multI n es v w ∧ multI n es v w ≤ es.length := by
  unfold multI
  split
  · have : multN es v w ≤ es.length := List.countP_le_length
    omega
  · omega
theorem sumQ_b (n : Int) (es : List S67) (v : Int) : ∀ q : List Int, 0 ≤ sumQ n es v q ∧ sumQ n es v q ≤ es.length * q.length := by
  intro q
  induction q with
  | nil => simp [sumQ]
  | cons w q ih =>
    have := multI_b n es v w
    simp only [sumQ, List.length_cons]
    rw [Int.natCast_add, Int.mul_add]
    simp only [Int.natCast_one, Int.mul_one]
    omega
def sumB (n : Int) (es : List S67) (v : Int) (q : List Int) : Nat → Int
  | 0 => 0
  | i + 1 => sumB n es v q i + (if (i : Int) ∈ q then multI n es v i else 0)
theorem sumB_nil (n : Int) (es : List S67) (v : Int) : ∀ m, sumB n es v [] m = 0 := by
  intro m
  induction m with
  | zero => rfl
  | succ m ih => simp [sumB, ih]
theorem sumB_cons (n : Int) (es : List S67) (v : Int) (x : Int) (q : List Int) (hx : x ∉ q) (h0 : 0 ≤ x) : ∀ m : Nat, sumB n es v (x :: q) m = sumB n es v q m + (if x < m then multI n es v x else 0) := by
  intro m
  induction m with
  | zero => simp only [sumB]; rw [if_neg (by omega)]; rfl
  | succ m ih =>
    simp only [sumB, ih, List.mem_cons]
    by_cases e : (m : Int) = x
    · subst e
      rw [if_neg (Int.lt_irrefl (m : Int)), if_pos (Or.inl rfl : (m : Int) = m ∨ (m : Int) ∈ q), if_neg hx, if_pos (show (m : Int) < ((m + 1 : Nat) : Int) by omega)]; try omega
    · have g2 : x < ((m + 1 : Nat) : Int) ↔ x < (m : Int) := by omega
      by_cases c : (m : Int) ∈ q
      · rw [if_pos (Or.inr c : (m : Int) = x ∨ (m : Int) ∈ q), if_pos c]
        by_cases g : x < m
        · rw [if_pos g, if_pos (g2.2 g)]; try omega
        · rw [if_neg g, if_neg (fun h => g (g2.1 h))]; try omega
      · rw [if_neg (show ¬ ((m : Int) = x ∨ (m : Int) ∈ q) from fun h => h.elim e c), if_neg c]
        by_cases g : x < m
        · rw [if_pos g, if_pos (g2.2 g)]; try omega
        · rw [if_neg g, if_neg (fun h => g (g2.1 h))]; try omega
theorem sumB_eq (n : Int) (es : List S67) (v : Int) (m : Nat) : ∀ q : List Int, q.Nodup → (∀ w ∈ q, 0 ≤ w ∧ w < m) → sumB n es v q m = sumQ n es v q := by
  intro q
  induction q with
  | nil => intro _ _; exact sumB_nil n es v m
  | cons x q ih =>
    intro hd hr
    rw [List.nodup_cons] at hd
    have hx := hr x (by simp)
    rw [sumB_cons n es v x q hd.1 hx.1 m, ih hd.2 (fun w hw => hr w (by simp [hw])), if_pos hx.2]
    simp only [sumQ]; omega
def hotB (n : Int) (es : List S67) (d q : List Int) (v : Nat) : Bool := !decide ((v : Int) ∈ q) && decide (d.getD v 0 < sumQ n es v q)
def lowB (P : Nat → Bool) : Nat → Nat → Int
  | _, 0 => -1
  | i, c + 1 => if P i = true then (i : Int) else lowB P (i + 1) c
theorem lowB_spec (P : Nat → Bool) : ∀ (c i : Nat), (lowB P i c = -1 ∧ ∀ j, i ≤ j → j < i + c → P j = false) ∨ ∃ j : Nat, lowB P i c = j ∧ i ≤ j ∧ j < i + c ∧ P j = true := by
  intro c
  induction c with
  | zero => intro i; exact Or.inl ⟨rfl, fun j h1 h2 => by omega⟩
  | succ c ih =>
    intro i
    simp only [lowB]
    by_cases h : P i = true
    · rw [if_pos h]; exact Or.inr ⟨i, rfl, Nat.le_refl _, by omega, h⟩
    · rw [if_neg h]
      rcases ih (i + 1) with ⟨h1, h2⟩ | ⟨j, h1, h2, h3, h4⟩
      · refine Or.inl ⟨h1, fun j h3 h4 => ?_⟩
        by_cases e : j = i
        · subst e; simpa using h
        · exact h2 j (by omega) (by omega)
      · exact Or.inr ⟨j, h1, by omega, by omega, h4⟩
theorem index_ev (q : List Int) (x : Int) (hq : q.length < 4611686018427387904) : ∃ t : Int, Ev (fun k => slices_Index_int_int.f k q x) t ∧ (t ≥ 0 ↔ x ∈ q) := by
  simp only [slices_Index_int_int.f]
  have main : ∀ (rest : List Int) (i : Nat), i ≤ q.length → q.drop i = rest → ∃ t : Int, Ev (fun k => slices_Index_int_int.l0 k q x (q.length : Int) (i : Int)) t ∧ (t ≥ 0 ↔ x ∈ rest) := by
    intro rest
    induction rest with
    | nil =>
      intro i hi hd
      have := drop_nil hd
      refine ⟨-1, ev1 fun k => ?_, by simp⟩
      simp only [slices_Index_int_int.l0]
      rw [if_neg (by omega)]
    | cons a rest ih =>
      intro i hi hd
      have hlt := drop_lt hd
      by_cases e : x = a
      · refine ⟨i, ev1 fun k => ?_, by simp [e]⟩
        simp only [slices_Index_int_int.l0, rd_drop hd]
        rw [if_pos (by omega), if_pos (by omega), if_pos (by omega), if_pos e]
      · obtain ⟨t, h1, h2⟩ := ih (i + 1) (by omega) (drop_next hd)
        refine ⟨t, ev_succ ?_, by rw [h2]; simp [e]⟩
        simp only [slices_Index_int_int.l0, rd_drop hd, wrap_succ (show i < 4611686018427387904 by omega)]
        exact ev_ift (by omega) (ev_ift (by omega) (ev_ift (by omega) (ev_ifn e h1)))
  exact main q 0 (by omega) rfl
theorem contains_ev (q : List Int) (x : Int) (hq : q.length < 4611686018427387904) : Ev (fun k => slices_Contains_int_int.f k q x) (decide (x ∈ q)) := by
  obtain ⟨t, h1, h2⟩ := index_ev q x hq
  simp only [slices_Contains_int_int.f]
  refine Ev.bind h1 ?_
  rw [show decide (t ≥ 0) = decide (x ∈ q) by simp [h2]]
  exact Ev.now _
def BInv (n : Nat) (q : List Int) : Prop := q.Nodup ∧ ∀ v ∈ q, 0 ≤ v ∧ v < n
theorem binv_len {n : Nat} {q : List Int} (h : BInv n q) : q.length ≤ n := by
  have := List.Nodup.length_le_of_subset h.1 (l₂ := (List.range n).map fun i : Nat => (i : Int)) (fun v hv => by
    have hb := h.2 v hv
    exact List.mem_map.2 ⟨v.toNat, by simp; omega, by omega⟩)
  simpa using this
theorem binv_add {n : Nat} {q : List Int} (h : BInv n q) {v : Int} (hv : v ∉ q) (hb : 0 ≤ v ∧ v < n) : BInv n (q ++ [v]) := by
  refine ⟨?_, fun x hx => ?_⟩
  · rw [List.nodup_append]
    refine ⟨h.1, by simp, fun a ha b hb' => ?_⟩
    simp at hb'
    subst hb'
    intro e'
    subst e'
    exact hv ha
  · rcases List.mem_append.1 hx with hx | hx
    · exact h.2 x hx
    · simp at hx; subst hx; exact hb
theorem impl_next (n : Nat) (hn : n ≤ 6) (es : List S67) (hl : es.length ≤ 12) (d q : List Int) (hd : d.length = n) (hq : BInv n q) (r : List Int)
    (hstop : lowB (hotB n es d q) 0 n = -1 → r = q)
    (hgo : ∀ v : Nat, lowB (hotB n es d q) 0 n = v → Ev (fun k => impl_burn.l0 k d (q ++ [(v : Int)]) n es) r) :
    Ev (fun k => impl_burn.l0 k d q n es) r := by
  have hql := binv_len hq
  have stop : ∀ (x : Int) (i : Nat), x = lowB (hotB n es d q) 0 n → Ev (fun k => impl_burn.j2 k d q x (i : Int) false n es) r := by
    intro x i hx
    refine ev_succ ?_
    simp only [impl_burn.j2]
    refine ev_iff ?_
    rcases lowB_spec (hotB n es d q) n 0 with ⟨h1, _⟩ | ⟨j, h1, _, _, _⟩
    · rw [hx, h1, hstop h1]
      exact ev_ift (by omega) (Ev.now _)
    · rw [hx, h1]
      exact ev_ifn (by omega) (ev_ift (by omega) (hgo j h1))
  have main : ∀ (c i : Nat), i + c = n → lowB (hotB n es d q) i c = lowB (hotB n es d q) 0 n → Ev (fun k => impl_burn.l1 k d q (-1) (i : Int) n es) r := by
    intro c
    induction c with
    | zero =>
      intro i hi hlow
      refine ev_succ ?_
      simp only [impl_burn.l1]
      exact ev_ifn (by omega) (stop (-1) i hlow)
    | succ c ih =>
      intro i hi hlow
      refine ev_succ ?_
      simp only [impl_burn.l1]
      refine ev_ift (by omega) (ev_succ ?_)
      simp only [impl_burn.j2]
      refine ev_ift (by decide) ?_
      have hin : ∀ s, s = sumQ n es i q → Ev (fun k => impl_burn.l2 k d q (-1) (i : Int) s q (q.length : Int) (q.length : Int) n es) r := by
        intro s hs
        subst hs
        refine ev_succ ?_
        simp only [impl_burn.l2]
        refine ev_ifn (by omega) (Ev.bind (contains_ev q i (by omega)) ?_)
        simp only [lowB] at hlow
        by_cases hc : (i : Int) ∈ q
        · have hf : hotB n es d q i = false := by simp [hotB, hc]
          rw [hf] at hlow
          simp only [Bool.false_eq_true, if_false] at hlow
          simp only [wrap_succ (show i < 4611686018427387904 by omega)]
          exact ev_ift (by simp [hc]) (ih (i + 1) (by omega) hlow)
        · refine ev_ifn (by simp [hc]) (ev_ift (by omega) (ev_ift (by omega) ?_))
          by_cases hlt : d.getD i 0 < sumQ n es i q
          · have hf : hotB n es d q i = true := by simp only [hotB, decide_eq_true hlt, Bool.and_true, decide_eq_false hc, Bool.not_false]
            rw [if_pos hf] at hlow
            refine ev_ift hlt (ev_succ ?_)
            simp only [impl_burn.l1, wrap_succ (show i < 4611686018427387904 by omega)]
            by_cases hi2 : i + 1 < n
            · rw [show decide ((i : Int) < 0) = false by simp]
              exact ev_ift (by omega) (stop i (i + 1) hlow)
            · exact ev_ifn (by omega) (stop i (i + 1) hlow)
          · have hf : hotB n es d q i = false := by simp only [hotB, decide_eq_false hlt, Bool.and_false]
            rw [hf] at hlow
            simp only [Bool.false_eq_true, if_false] at hlow
            simp only [wrap_succ (show i < 4611686018427387904 by omega)]
            exact ev_ifn hlt (ih (i + 1) (by omega) hlow)
      refine ev_listE q (fun k (s : Int) j => impl_burn.l2 k d q (-1) (i : Int) s q (q.length : Int) j n es) (fun _ _ => r) (fun s rest => 0 ≤ s ∧ s + sumQ n es i rest = sumQ n es i q) (fun s hs => hin s (by simpa [sumQ] using hs.2)) (fun s w rest j hj hdr hs => ?_) 0 (by simp)
      refine Or.inr ⟨s + multI n es i w, ?_, rfl, fun r' hr' => ev_succ ?_⟩
      · have := multI_b n es i w
        simp only [sumQ] at hs
        omega
      · have hb := multI_b n es i w
        have hb2 := sumQ_b n es i q
        have hb3 := sumQ_b n es i rest
        have hb4 : (es.length : Int) * (q.length : Int) ≤ 12 * 6 := Int.mul_le_mul (by omega) (by omega) (by omega) (by omega)
        simp only [sumQ] at hs
        simp only [impl_burn.l2, rd_drop hdr, wrap_succ (show j < 4611686018427387904 by omega)]
        refine ev_ift (by omega) (ev_ift (by omega) (ev_ift (by omega) (Ev.bind (impl_mult_ev n es (by omega) i w) ?_)))
        rw [wrap_id (by omega) (by omega)]
        exact hr'
  refine ev_succ ?_
  simp only [impl_burn.l0]
  exact main n 0 (by omega) rfl
theorem spec_next (n : Nat) (hn : n ≤ 6) (es : List S67) (hl : es.length ≤ 12) (d q : List Int) (b : List Bool) (hd : d.length = n) (hq : BInv n q) (hb : b.length = n) (hbq : ∀ v : Nat, b.getD v false = decide ((v : Int) ∈ q)) (r : List Int)
    (hstop : lowB (hotB n es d q) 0 n = -1 → r = q)
    (hgo : ∀ v : Nat, lowB (hotB n es d q) 0 n = v → Ev (fun k => spec_l05Burn.l0 k d (q ++ [(v : Int)]) (b.set v true) n es) r) :
    Ev (fun k => spec_l05Burn.l0 k d q b n es) r := by
  have hql := binv_len hq
  have main : ∀ (i c : Nat), i + c = n → Ev (fun k => spec_l05Burn.l1 k d q b (lowB (hotB n es d q) i c) ((i : Int) - 1) n es) r := by
    intro i
    induction i with
    | zero =>
      intro c hc
      obtain rfl : c = n := by omega
      refine ev_succ ?_
      simp only [spec_l05Burn.l1]
      refine ev_ifn (by omega) ?_
      rcases lowB_spec (hotB c es d q) c 0 with ⟨h1, _⟩ | ⟨j, h1, _, h3, _⟩
      · rw [h1, hstop h1]
        exact ev_ift (by omega) (Ev.now _)
      · have hg := hgo j h1
        rw [h1, Int.toNat_natCast]
        exact ev_ifn (by omega) (ev_ift (by omega) (ev_ift (by omega) (ev_ift (by omega) hg)))
    | succ i ih =>
      intro c hc
      have hih := ih (c + 1) (by omega)
      refine ev_succ ?_
      simp only [spec_l05Burn.l1]
      rw [show ((i + 1 : Nat) : Int) - 1 = (i : Int) by omega]
      refine ev_ift (by omega) ?_
      have hin : ∀ s, s = sumQ n es i q → Ev (fun k => spec_l05Burn.l2 k d q b (lowB (hotB n es d q) (i + 1) c) (i : Int) s (n : Int) n es) r := by
        intro s hs
        subst hs
        refine ev_succ ?_
        simp only [spec_l05Burn.l2]
        have er : rdOf false b (i : Int) = decide ((i : Int) ∈ q) := by rw [← hbq i]; rfl
        rw [er, show wrap64 ((i : Int) - 1) = (i : Int) - 1 by unfold wrap64; omega]
        refine ev_ifn (by omega) (ev_ift (by omega) (ev_ift (by omega) ?_))
        simp only [lowB] at hih
        by_cases hc' : (i : Int) ∈ q
        · have hf : hotB n es d q i = false := by simp [hotB, hc']
          rw [hf] at hih
          simp only [Bool.false_eq_true, if_false] at hih
          exact ev_ift (by simp [hc']) hih
        · refine ev_ifn (by simp [hc']) (ev_ift (by omega) ?_)
          by_cases hlt : d.getD i 0 < sumQ n es i q
          · have hf : hotB n es d q i = true := by simp only [hotB, decide_eq_true hlt, Bool.and_true, decide_eq_false hc', Bool.not_false]
            rw [hf] at hih
            simp only [if_true] at hih
            exact ev_ift hlt hih
          · have hf : hotB n es d q i = false := by simp only [hotB, decide_eq_false hlt, Bool.and_false]
            rw [hf] at hih
            simp only [Bool.false_eq_true, if_false] at hih
            exact ev_ifn hlt hih
      have inner : ∀ (e j : Nat), j + e = n → Ev (fun k => spec_l05Burn.l2 k d q b (lowB (hotB n es d q) (i + 1) c) (i : Int) (sumB n es i q j) (j : Int) n es) r := by
        intro e
        induction e with
        | zero =>
          intro j hj
          obtain rfl : j = n := by omega
          exact hin _ (sumB_eq j es i j q hq.1 hq.2)
        | succ e ihe =>
          intro j hj
          have hj1 := ihe (j + 1) (by omega)
          refine ev_succ ?_
          simp only [spec_l05Burn.l2]
          have er : rdOf false b (j : Int) = decide ((j : Int) ∈ q) := by rw [← hbq j]; rfl
          rw [er, wrap_succ (by omega)]
          refine ev_ift (by omega) (ev_ift (by omega) (ev_ift (by omega) ?_))
          simp only [sumB] at hj1
          by_cases hc' : (j : Int) ∈ q
          · rw [if_pos hc'] at hj1
            have bnd : ∀ m : Nat, 0 ≤ sumB n es i q m ∧ sumB n es i q m ≤ 12 * m := by
              intro m
              induction m with
              | zero => simp [sumB]
              | succ m ihm =>
                have := multI_b n es i m
                simp only [sumB]
                split <;> omega
            have hb1 := bnd j
            have hb2 := multI_b n es i j
            refine ev_ift (by simp [hc']) (Ev.bind (spec_mult_ev n es (by omega) i j) ?_)
            rw [wrap_id (by omega) (by omega)]
            exact hj1
          · rw [if_neg hc', Int.add_zero] at hj1
            exact ev_ifn (by simp [hc']) hj1
      exact inner n 0 (by omega)
  refine ev_succ ?_
  simp only [spec_l05Burn.l0]
  rw [show wrap64 ((n : Int) - 1) = (n : Int) - 1 by unfold wrap64; omega]
  have := main n 0 (by omega)
  exact this
theorem burn_from (n : Nat) (hn : n ≤ 6) (es : List S67) (hl : es.length ≤ 12) (d : List Int) (hd : d.length = n) :
    ∀ (c : Nat) (q : List Int) (b : List Bool), BInv n q → c + q.length = n → b.length = n → (∀ v : Nat, b.getD v false = decide ((v : Int) ∈ q)) →
      ∃ r, Ev (fun k => impl_burn.l0 k d q n es) r ∧ Ev (fun k => spec_l05Burn.l0 k d q b n es) r ∧ BInv n r ∧ r.take q.length = q ∧ (∀ v : Nat, v < n → hotB n es d r v = false) ∧ ∀ j, q.length ≤ j → j < r.length → hotB n es d (r.take j) (r.getD j 0).toNat = true := by
  intro c
  induction c with
  | zero =>
    intro q b hq hlen hb hbq
    have all : ∀ v : Nat, v < n → (v : Int) ∈ q := by
      intro v hv
      by_cases h : (v : Int) ∈ q
      · exact h
      · have := binv_len (binv_add hq h ⟨by omega, by omega⟩)
        simp at this
        omega
    have cold : ∀ v : Nat, v < n → hotB n es d q v = false := fun v hv => by simp [hotB, all v hv]
    have hlow : lowB (hotB n es d q) 0 n = -1 := by
      rcases lowB_spec (hotB n es d q) n 0 with ⟨h1, _⟩ | ⟨j, _, _, h3, h4⟩
      · exact h1
      · rw [cold j (by omega)] at h4; cases h4
    exact ⟨q, impl_next n hn es hl d q hd hq q (fun _ => rfl) (fun v hv => by omega), spec_next n hn es hl d q b hd hq hb hbq q (fun _ => rfl) (fun v hv => by omega), hq, List.take_length, cold, fun j h1 h2 => by omega⟩
  | succ c ih =>
    intro q b hq hlen hb hbq
    rcases lowB_spec (hotB n es d q) n 0 with ⟨h1, h2⟩ | ⟨j, h1, _, h3, h4⟩
    · exact ⟨q, impl_next n hn es hl d q hd hq q (fun _ => rfl) (fun v hv => by omega), spec_next n hn es hl d q b hd hq hb hbq q (fun _ => rfl) (fun v hv => by omega), hq, List.take_length, fun v hv => h2 v (by omega) (by omega), fun j h1 h2 => by omega⟩
    · have hj : (j : Int) ∉ q := by
        intro h
        simp [hotB, h] at h4
      have hq' := binv_add hq hj ⟨by omega, by omega⟩
      obtain ⟨r, r1, r2, r3, r4, r5, r6⟩ := ih (q ++ [(j : Int)]) (b.set j true) hq' (by simp; omega) (by simpa using hb) (fun v => by
        rw [List.getD_eq_getElem?_getD, List.getElem?_set]
        by_cases e : j = v
        · subst e
          rw [if_pos rfl, if_pos (by omega)]; simp
        · rw [if_neg e, ← List.getD_eq_getElem?_getD, hbq v]
          have : ¬ (v : Int) = j := by omega
          simp [this])
      have hlt : q.length < r.length := by
        have := congrArg List.length r4
        simp at this
        omega
      have hpre : r.take q.length = q := by
        have h := congrArg (List.take q.length) r4
        rw [List.take_take, List.length_append, Nat.min_eq_left (by omega), List.take_left'] at h
        · exact h
        · rfl
      have hat : r.getD q.length 0 = (j : Int) := by
        have h := congrArg (fun x => x.getD q.length 0) r4
        simp only [List.getD_eq_getElem?_getD, List.getElem?_take, List.length_append, List.length_singleton] at h
        rw [if_pos (by omega)] at h
        rw [List.getD_eq_getElem?_getD, h]
        simp
      refine ⟨r, impl_next n hn es hl d q hd hq r (fun h => by omega) (fun v hv => ?_), spec_next n hn es hl d q b hd hq hb hbq r (fun h => by omega) (fun v hv => ?_), r3, hpre, r5, fun i hi1 hi2 => ?_⟩
      · obtain rfl : v = j := by omega
        exact r1
      · obtain rfl : v = j := by omega
        exact r2
      · by_cases e : i = q.length
        · subst e
          rw [hpre, hat, Int.toNat_natCast]; exact h4
        · exact r6 i (by simp; omega) hi2
theorem burn_both (n : Nat) (hn : n ≤ 6) (es : List S67) (hl : es.length ≤ 12) (d : List Int) (hd : d.length = n) (q : Nat) (hq : q < n) :
    ∃ r, Ev (fun k => impl_burn.f k n es d q) r ∧ Ev (fun k => spec_l05Burn.f k n es d q) r ∧ BInv n r ∧ r.take 1 = [(q : Int)] ∧ (∀ v : Nat, v < n → hotB n es d r v = false) ∧ ∀ j, 1 ≤ j → j < r.length → hotB n es d (r.take j) (r.getD j 0).toNat = true := by
  obtain ⟨r, h1, h2, h3, h4, h5, h6⟩ := burn_from n hn es hl d hd (n - 1) [(q : Int)] ((List.replicate n false).set q true) ⟨by simp, fun v hv => by simp at hv; omega⟩ (by simp; omega) (by simp) (fun v => by
    rw [List.getD_eq_getElem?_getD, List.getElem?_set]
    by_cases e : q = v
    · subst e
      rw [if_pos rfl, if_pos (by simpa using hq)]; simp
    · rw [if_neg e]
      have : ¬ (v : Int) = q := by omega
      simp only [List.mem_singleton, this, decide_false, List.getElem?_replicate]
      split <;> rfl)
  refine ⟨r, ?_, ?_, h3, h4, h5, h6⟩
  · simp only [impl_burn.f]; exact h1
  · simp only [spec_l05Burn.f, Option.bind_some]
    refine ev_ift (by omega) (ev_ift (by omega) (ev_ift (by omega) (ev_ift (by simp; omega) ?_)))
    rw [Int.toNat_natCast, Int.toNat_natCast]
    exact h2
theorem burn_mem {r : List Int} {q : Int} (h : r.take 1 = [q]) : q ∈ r := by
  have : q ∈ r.take 1 := by rw [h]; simp
  exact List.mem_of_mem_take this
end Go.Proofs.Ytbcfccdoffbncaa.Pure
end
section
set_option linter.unusedVariables false
set_option linter.unusedSimpArgs false
namespace Go.Proofs.Ytbcfccdoffbncaa.Pure
open Go.RowKit Go.Proofs.Ytbcfccdoffbncaa.P Go.Proofs.YtbcfccdoffbncaaW.PrintWords Go.Proofs.YtbcfccdoffbncaaW.PrintLast Go.Proofs.YtbcfccdoffbncaaW.PrintMore Go.Proofs.Ytbcfccdoffbncaa.Base Go.Proofs.Ytbcfccdoffbncaa.Reduce Go.Proofs.Ytbcfccdoffbncaa.Loops Go.Proofs.Ytbcfccdoffbncaa.Bits
theorem least_ (P : Nat → Prop) : (∃ j, P j) → ∃ j, P j ∧ ∀ i, i < j → ¬ P i := by
  intro ⟨j, hj⟩
  have main : ∀ j, P j → ∃ j, P j ∧ ∀ i, i < j → ¬ P i := by
    intro j
    induction j using Nat.strongRecOn with
    | _ j ih =>
      intro hj
      by_cases h : ∃ i, i < j ∧ P i
      · obtain ⟨i, h1, h2⟩ := h
        exact ih i h1 h2
      · exact ⟨j, hj, fun i hi hp => h ⟨i, hi, hp⟩⟩
  exact main j hj
def XF (n : Nat) (es : List S67) (D s : List Int) : Nat → Int := fun v => D.getD v 0 - lap n (mE n es) (fun w => s.getD w 0) v
structure Start (n : Nat) (es : List S67) (D : List Int) (q : Nat) : Prop where
  g : GraphP n es
  q : q < n
  len : D.length = n
  b : ∀ u : Nat, -60 ≤ D.getD u 0 ∧ D.getD u 0 ≤ 60
theorem addAt_get (n : Nat) (s : List Int) (v : Nat) (t : Int) (hs : s.length = n) (hv : v < n) (j : Nat) : (addAt s v t).getD j 0 = s.getD j 0 + (if j = v then t else 0) := by
  unfold addAt
  rw [getD_set _ _ _ _ (by omega)]
  by_cases e : v = j
  · rw [if_pos e, if_pos e.symm, e]
  · rw [if_neg e, if_neg (fun h => e h.symm)]; omega
theorem addAt_len (s : List Int) (v : Nat) (t : Int) : (addAt s v t).length = s.length := by simp [addAt]
def bumpTo (r s : List Int) : Nat → List Int
  | 0 => s
  | i + 1 => if (i : Int) ∈ r then bumpTo r s i else addAt (bumpTo r s i) i 1
theorem bump_len (r s : List Int) : ∀ i, (bumpTo r s i).length = s.length := by
  intro i
  induction i with
  | zero => rfl
  | succ i ih => simp only [bumpTo]; split <;> simp [addAt_len, ih]
theorem bump_get (n : Nat) (r s : List Int) (hs : s.length = n) : ∀ i, i ≤ n → ∀ j, (bumpTo r s i).getD j 0 = s.getD j 0 + (if j < i ∧ (j : Int) ∉ r then 1 else 0) := by
  intro i
  induction i with
  | zero => intro _ j; rw [if_neg (by omega)]; simp [bumpTo]
  | succ i ih =>
    intro hi j
    have h := ih (by omega) j
    simp only [bumpTo]
    by_cases c : (i : Int) ∈ r
    · rw [if_pos c, h]
      by_cases d : j < i ∧ (j : Int) ∉ r
      · rw [if_pos d, if_pos ⟨by omega, d.2⟩]
      · rw [if_neg d, if_neg (fun h => d ⟨by
          by_cases e : j = i
          · subst e; exact absurd c h.2
          · omega, h.2⟩)]
    · rw [if_neg c, addAt_get n _ i 1 (by rw [bump_len]; exact hs) (by omega), h]
      by_cases e : j = i
      · subst e
        rw [if_neg (by omega), if_pos rfl, if_pos ⟨by omega, c⟩]; omega
      · rw [if_neg e]
        by_cases d : j < i ∧ (j : Int) ∉ r
        · rw [if_pos d, if_pos ⟨by omega, d.2⟩]; omega
        · rw [if_neg d, if_neg (fun h => d ⟨by omega, h.2⟩)]; omega
theorem sumB_sumN (n : Int) (es : List S67) (v : Int) (q : List Int) : ∀ m : Nat, sumB n es v q m = sumN (fun w => if (w : Int) ∈ q then multI n es v w else 0) m := by
  intro m
  induction m with
  | zero => rfl
  | succ m ih => simp only [sumB, sumN, ih]
theorem binv_all {n : Nat} {r : List Int} (h : BInv n r) (hl : r.length = n) (v : Nat) (hv : v < n) : (v : Int) ∈ r := by
  by_cases c : (v : Int) ∈ r
  · exact c
  · have := binv_len (binv_add h c ⟨by omega, by omega⟩)
    simp at this
    omega
theorem binv_some {n : Nat} {r : List Int} (h : BInv n r) (hl : r.length ≠ n) : ∃ v : Nat, v < n ∧ (v : Int) ∉ r := by
  refine Classical.byContradiction fun hno => ?_
  have hall : ∀ v : Nat, v < n → (v : Int) ∈ r := fun v hv => Classical.byContradiction fun h => hno ⟨v, hv, h⟩
  have h1 := binv_len h
  have hd : ((List.range n).map fun i : Nat => (i : Int)).Nodup :=
     List.Pairwise.map _ (fun a b h e => h (by omega)) List.nodup_range
  have := List.Nodup.length_le_of_subset hd (l₂ := r) (fun x hx => by
    obtain ⟨i, hi, rfl⟩ := List.mem_map.1 hx
    exact hall i (List.mem_range.1 hi))
  simp at this
  omega
theorem red_of (n : Nat) (es : List S67) (x r : List Int) (q : Nat) (X : Nat → Int) (hX : ∀ v, v < n → x.getD v 0 = X v) (hnd : ∀ v, v < n → v ≠ q → 0 ≤ X v)
    (hr : BInv n r) (hl : r.length = n) (h1 : r.take 1 = [(q : Int)]) (hot : ∀ j, 1 ≤ j → j < r.length → hotB n es x (r.take j) (r.getD j 0).toNat = true) : Red n (mE n es) q X := by
  refine ⟨hnd, fun A hA hex => ?_⟩
  obtain ⟨u, hu⟩ := hex
  have hur := binv_all hr hl u (hA u hu).1
  obtain ⟨j0, hj0, hj1⟩ := List.mem_iff_getElem.1 hur
  obtain ⟨j, ⟨hj, hAj⟩, hmin⟩ := least_ (fun j => j < r.length ∧ A (r.getD j 0).toNat = true) ⟨j0, hj0, by
    rw [List.getD_eq_getElem?_getD, List.getElem?_eq_getElem hj0, Option.getD_some, hj1, Int.toNat_natCast]; exact hu⟩
  have hjr : r.getD j 0 ∈ r := by
    rw [List.getD_eq_getElem?_getD, List.getElem?_eq_getElem hj, Option.getD_some]; exact List.getElem_mem _
  have hb := hr.2 _ hjr
  have hj1 : 1 ≤ j := by
    rcases Nat.eq_zero_or_pos j with e | e
    · subst e
      have hq : r.getD 0 0 = (q : Int) := by
        cases r with
        | nil => simp at hj
        | cons a r => simp at h1 ⊢; exact h1
      rw [hq, Int.toNat_natCast] at hAj
      exact absurd rfl (hA q hAj).2
    · exact e
  have hh := hot j hj1 hj
  refine ⟨(r.getD j 0).toNat, hAj, ?_⟩
  simp only [hotB, Bool.and_eq_true, decide_eq_true_eq] at hh
  have hlt := hh.2
  rw [hX _ (by omega)] at hlt
  have hsub : ∀ w ∈ r.take j, 0 ≤ w ∧ w < (n : Int) := fun w hw => hr.2 w (List.mem_of_mem_take hw)
  rw [← sumB_eq n es _ n (r.take j) (List.Sublist.nodup (List.take_sublist j r) hr.1) hsub, sumB_sumN] at hlt
  refine Int.lt_of_lt_of_le hlt (sumN_le fun w hw => ?_)
  by_cases c : (w : Int) ∈ r.take j
  · rw [if_pos c]
    have hnA : ¬ A w = true := by
      intro hAw
      obtain ⟨i, hi, hiw⟩ := List.mem_iff_getElem.1 c
      have hij : i < j := by rw [List.length_take] at hi; omega
      refine hmin i hij ⟨by omega, ?_⟩
      rw [List.getElem_take] at hiw
      rw [List.getD_eq_getElem?_getD, List.getElem?_eq_getElem (by omega), Option.getD_some, hiw, Int.toNat_natCast]
      exact hAw
    rw [if_neg hnA]; exact Int.le_refl _
  · rw [if_neg c]
    by_cases d : A w = true
    · rw [if_pos d]; exact Int.le_refl _
    · rw [if_neg d]; exact multI_nonneg _ _ _ _
theorem bump_ok (n : Nat) (es : List S67) (D s x r : List Int) (q : Nat) (hs : s.length = n) (hX : ∀ v, v < n → x.getD v 0 = XF n es D s v) (hnd : ∀ v, v < n → v ≠ q → 0 ≤ XF n es D s v)
    (hr : BInv n r) (hq : (q : Int) ∈ r) (cold : ∀ v, v < n → hotB n es x r v = false) : ∀ v, v < n → v ≠ q → 0 ≤ XF n es D (bumpTo r s n) v := by
  intro v hv hvq
  have h1 : lap n (mE n es) (fun w => (bumpTo r s n).getD w 0) v = lap n (mE n es) (fun w => s.getD w 0 + (if w < n ∧ (w : Int) ∉ r then 1 else 0)) v :=
    lap_congr hv fun w _ => bump_get n r s hs n (Nat.le_refl _) w
  have h2 := lap_add n (mE n es) (fun w => s.getD w 0) (fun w => if w < n ∧ (w : Int) ∉ r then 1 else 0) v
  have h0 := hnd v hv hvq
  unfold XF at h0 ⊢
  rw [h1, h2]
  by_cases c : (v : Int) ∈ r
  · have : lap n (mE n es) (fun w => if w < n ∧ (w : Int) ∉ r then 1 else 0) v ≤ sumN (fun _ => 0) n := by
      unfold lap
      refine sumN_le fun w _ => ?_
      dsimp only
      rw [if_neg (show ¬ (v < n ∧ (v : Int) ∉ r) from fun h => h.2 c)]
      have hm := multI_nonneg n es v w
      by_cases d : w < n ∧ (w : Int) ∉ r
      · rw [if_pos d]
        show multI n es v w * (0 - 1) ≤ 0
        omega
      · rw [if_neg d]; simp
    rw [sumN_zero] at this
    omega
  · have hc := cold v hv
    have hx := hX v hv
    simp only [hotB, decide_eq_false c, Bool.not_false, Bool.true_and, decide_eq_false_iff_not] at hc
    have : lap n (mE n es) (fun w => if w < n ∧ (w : Int) ∉ r then 1 else 0) v = sumQ n es v r := by
      rw [← sumB_eq n es v n r hr.1 hr.2, sumB_sumN]
      unfold lap
      refine sumN_congr fun w hw => ?_
      dsimp only
      rw [if_pos ⟨hv, c⟩]
      by_cases d : (w : Int) ∈ r
      · rw [if_pos d, if_neg (show ¬ (w < n ∧ (w : Int) ∉ r) from fun h => h.2 d)]
        show multI n es v w * (1 - 0) = _
        omega
      · rw [if_neg d, if_pos (show w < n ∧ (w : Int) ∉ r from ⟨hw, d⟩)]; simp
    unfold XF at hx
    omega
def aB (C : Int) : Nat → Int
  | 0 => 0
  | i + 1 => C + 8 * aB C i
end Go.Proofs.Ytbcfccdoffbncaa.Pure
end
section
namespace Go.Proofs.Ytbcfccdoffbncaa.P
open Go.RowKit Go.Proofs.YtbcfccdoffbncaaW.PrintWords Go.Proofs.YtbcfccdoffbncaaW.PrintLast Go.Proofs.YtbcfccdoffbncaaW.PrintMore
attribute [local go_sem] max2_int min2_int max_two min_two max_three min_three max_four min_four
set_option linter.unusedVariables false
set_option linter.unusedSimpArgs false
def spec_l05Debt.l0 : Nat → Int → List Int → Int → Int → Option (Bool)
 | 0, _, _, _, _ => none
 | k + 1, x1, x7, x8, x9 => if x9 < x8 then (if 0 ≤ x9 then (if x9 < (x7.length : Int) then (if x9 = x1 then (spec_l05Debt.l0 k x1 x7 x8 (wrap64 (x9 + 1))) else (if (rd x7 x9) < 0 then (some true) else (spec_l05Debt.l0 k x1 x7 x8 (wrap64 (x9 + 1))))) else (none)) else (none)) else (some false)
def spec_l05Debt.f (k : Nat) (l0 : List Int) (a1 : Int) : Option (Bool) := spec_l05Debt.l0 k a1 l0 (l0.length : Int) 0
mutual
def spec_l05Reduce.l0 : Nat → List Int → Int → List Int → List Int → Int → List (S67) → Option (List Int × List Int)
 | 0, _, _, _, _, _, _ => none
 | k + 1, x1, x2, x8, x9, x145000, x145001 => (spec_l05Debt.f k x9 x2).bind fun t154 => (if t154 = true then (spec_l05Reduce.l1 k x1 x2 x8 x9 (x9.length : Int) 0 x145000 x145001) else (spec_l05Reduce.l2 k x1 x2 x8 x9 x145000 x145001))
def spec_l05Reduce.l1 : Nat → List Int → Int → List Int → List Int → Int → Int → Int → List (S67) → Option (List Int × List Int)
 | 0, _, _, _, _, _, _, _, _ => none
 | k + 1, x1, x2, x8, x9, x23, x24, x145000, x145001 => if x24 < x23 then (if x24 = x2 then (spec_l05Reduce.l1 k x1 x2 x8 x9 x23 (wrap64 (x24 + 1)) x145000 x145001) else (if 0 ≤ x24 then (if x24 < (x9.length : Int) then (if (rd x9 x24) < 0 then (if x24 < (x8.length : Int) then ((some (x8.set (x24 : Int).toNat (wrap64 ((rd x8 x24) - 1)) : List Int)).bind fun y157 => ((spec_l04Fire.f k x145000 x145001 x1 y157).bind fun t158 => (spec_l05Reduce.l1 k x1 x2 y157 t158 x23 (wrap64 (x24 + 1)) x145000 x145001))) else (none)) else (spec_l05Reduce.l1 k x1 x2 x8 x9 x23 (wrap64 (x24 + 1)) x145000 x145001)) else (none)) else (none))) else (spec_l05Reduce.l0 k x1 x2 x8 x9 x145000 x145001)
def spec_l05Reduce.l2 : Nat → List Int → Int → List Int → List Int → Int → List (S67) → Option (List Int × List Int)
 | 0, _, _, _, _, _, _ => none
 | k + 1, x1, x2, x8, x9, x145000, x145001 => (spec_l05Burn.f k x145000 x145001 x9 x2).bind fun t161 => (if (t161.length : Int) = x145000 then (some (x9, x8)) else (spec_l05Reduce.l3 k x1 x2 x8 t161 0 x145000 x145001))
def spec_l05Reduce.l3 : Nat → List Int → Int → List Int → List Int → Int → Int → List (S67) → Option (List Int × List Int)
 | 0, _, _, _, _, _, _, _ => none
 | k + 1, x1, x2, x8, x11, x12, x145000, x145001 => if x12 < x145000 then ((spec_l02Has.f k x11 x12).bind fun t167 => (if t167 = true then (spec_l05Reduce.l3 k x1 x2 x8 x11 (wrap64 (x12 + 1)) x145000 x145001) else (if 0 ≤ x12 then (if x12 < (x8.length : Int) then (spec_l05Reduce.l3 k x1 x2 (x8.set (x12 : Int).toNat (wrap64 ((rd x8 x12) + 1))) x11 (wrap64 (x12 + 1)) x145000 x145001) else (none)) else (none)))) else ((spec_l04Fire.f k x145000 x145001 x1 x8).bind fun t164 => (spec_l05Reduce.l2 k x1 x2 x8 t164 x145000 x145001))
end
def spec_l05Reduce.f (k : Nat) (a0_0 : Int) (l0_1 : List (S67)) (l1 : List Int) (a2 : Int) : Option (List Int × List Int) := if 0 ≤ a0_0 then (if (a0_0 : Int).toNat ≤ 35184372088832 then ((some (([] : List Int) : List Int)).bind fun y148 => (if y148.length + l1.length < 17592186044416 then (spec_l05Reduce.l0 k l1 a2 (List.replicate (a0_0 : Int).toNat 0) (y148 ++ l1) a0_0 l0_1) else (none))) else (none)) else (none)
end Go.Proofs.Ytbcfccdoffbncaa.P
end
section
set_option linter.unusedVariables false
set_option linter.unusedSimpArgs false
namespace Go.Proofs.Ytbcfccdoffbncaa.Pure
open Go.RowKit Go.Proofs.Ytbcfccdoffbncaa.P Go.Proofs.YtbcfccdoffbncaaW.PrintWords Go.Proofs.YtbcfccdoffbncaaW.PrintLast Go.Proofs.YtbcfccdoffbncaaW.PrintMore Go.Proofs.Ytbcfccdoffbncaa.Base Go.Proofs.Ytbcfccdoffbncaa.Loops
def debtF (q : Int) : Nat → List Int → Option Nat
  | _, [] => none
  | i, x :: r => if (i : Int) = q then debtF q (i + 1) r else if x < 0 then some i else debtF q (i + 1) r
def debtI (q : Int) (d : List Int) : Int := match debtF q 0 d with
  | some v => v
  | none => -1
theorem debtF_none (q : Int) : ∀ (l : List Int) (i : Nat), debtF q i l = none → ∀ j, j < l.length → ((i + j : Nat) : Int) ≠ q → 0 ≤ l.getD j 0 := by
  intro l
  induction l with
  | nil => intro i _ j hj; simp at hj
  | cons x r ih =>
    intro i h j hj hne
    simp only [debtF] at h
    cases j with
    | zero =>
      rw [if_neg (by simpa using hne)] at h
      by_cases hx : x < 0
      · rw [if_pos hx] at h; cases h
      · simp; omega
    | succ j =>
      have h' : debtF q (i + 1) r = none := by
        by_cases e : (i : Int) = q
        · rw [if_pos e] at h; exact h
        · rw [if_neg e] at h
          by_cases hx : x < 0
          · rw [if_pos hx] at h; cases h
          · rw [if_neg hx] at h; exact h
      have := ih (i + 1) h' j (by simpa using hj) (by rw [show i + 1 + j = i + (j + 1) by omega]; exact hne)
      simpa using this
theorem debtF_some (q : Int) : ∀ (l : List Int) (i v : Nat), debtF q i l = some v → i ≤ v ∧ v < i + l.length ∧ (v : Int) ≠ q ∧ l.getD (v - i) 0 < 0 := by
  intro l
  induction l with
  | nil => intro i v h; cases h
  | cons x r ih =>
    intro i v h
    have next : debtF q (i + 1) r = some v → i ≤ v ∧ v < i + (x :: r).length ∧ (v : Int) ≠ q ∧ (x :: r).getD (v - i) 0 < 0 := by
      intro h'
      obtain ⟨h1, h2, h3, h4⟩ := ih (i + 1) v h'
      refine ⟨by omega, by simp; omega, h3, ?_⟩
      rw [show v - i = (v - (i + 1)) + 1 by omega]
      simpa using h4
    simp only [debtF] at h
    by_cases e : (i : Int) = q
    · rw [if_pos e] at h; exact next h
    · rw [if_neg e] at h
      by_cases hx : x < 0
      · rw [if_pos hx] at h
        injection h with h
        subst h
        exact ⟨Nat.le_refl _, by simp, e, by simpa using hx⟩
      · rw [if_neg hx] at h; exact next h
theorem inDebt_ev (d : List Int) (q : Int) (hd : d.length < 4611686018427387904) : Ev (fun k => impl_inDebt.f k d q) (debtI q d) := by
  simp only [impl_inDebt.f]
  have main : ∀ (rest : List Int) (i : Nat), i ≤ d.length → d.drop i = rest → Ev (fun k => impl_inDebt.l0 k q d (d.length : Int) (i : Int)) (match debtF q i rest with
      | some v => (v : Int)
      | none => -1) := by
    intro rest
    induction rest with
    | nil =>
      intro i hi hdr
      have := drop_nil hdr
      refine ev1 fun k => ?_
      simp only [impl_inDebt.l0, debtF]
      rw [if_neg (by omega)]
    | cons x r ih =>
      intro i hi hdr
      have hlt := drop_lt hdr
      have h := ih (i + 1) (by omega) (drop_next hdr)
      refine ev_succ ?_
      simp only [impl_inDebt.l0, rd_drop hdr, debtF, wrap_succ (show i < 4611686018427387904 by omega)]
      refine ev_ift (by omega) (ev_ift (by omega) (ev_ift (by omega) ?_))
      by_cases e : (i : Int) = q
      · rw [if_pos e]; exact ev_ift e h
      · rw [if_neg e]
        refine ev_ifn e ?_
        by_cases hx : x < 0
        · rw [if_pos hx]; exact ev_ift hx (Ev.now _)
        · rw [if_neg hx]; exact ev_ifn hx h
  exact main d 0 (by omega) rfl
theorem specDebt_ev (d : List Int) (q : Int) (hd : d.length < 4611686018427387904) : Ev (fun k => spec_l05Debt.f k d q) (debtF q 0 d).isSome := by
  simp only [spec_l05Debt.f]
  have main : ∀ (rest : List Int) (i : Nat), i ≤ d.length → d.drop i = rest → Ev (fun k => spec_l05Debt.l0 k q d (d.length : Int) (i : Int)) (debtF q i rest).isSome := by
    intro rest
    induction rest with
    | nil =>
      intro i hi hdr
      have := drop_nil hdr
      refine ev1 fun k => ?_
      simp only [spec_l05Debt.l0, debtF]
      rw [if_neg (by omega)]; rfl
    | cons x r ih =>
      intro i hi hdr
      have hlt := drop_lt hdr
      have h := ih (i + 1) (by omega) (drop_next hdr)
      refine ev_succ ?_
      simp only [spec_l05Debt.l0, rd_drop hdr, debtF, wrap_succ (show i < 4611686018427387904 by omega)]
      refine ev_ift (by omega) (ev_ift (by omega) (ev_ift (by omega) ?_))
      by_cases e : (i : Int) = q
      · rw [if_pos e]; exact ev_ift e h
      · rw [if_neg e]
        refine ev_ifn e ?_
        by_cases hx : x < 0
        · rw [if_pos hx]; exact ev_ift hx (Ev.now _)
        · rw [if_neg hx]; exact ev_ifn hx h
  exact main d 0 (by omega) rfl
end Go.Proofs.Ytbcfccdoffbncaa.Pure
end
section
set_option linter.unusedVariables false
set_option linter.unusedSimpArgs false
namespace Go.Proofs.Ytbcfccdoffbncaa.Pure
open Go.RowKit Go.Proofs.Ytbcfccdoffbncaa.P Go.Proofs.YtbcfccdoffbncaaW.PrintWords Go.Proofs.YtbcfccdoffbncaaW.PrintLast Go.Proofs.YtbcfccdoffbncaaW.PrintMore Go.Proofs.Ytbcfccdoffbncaa.Base Go.Proofs.Ytbcfccdoffbncaa.Reduce Go.Proofs.Ytbcfccdoffbncaa.Loops Go.Proofs.Ytbcfccdoffbncaa.Bits
theorem rd_n (l : List Int) (v : Nat) : rd l (v : Int) = l.getD v 0 := by unfold rd; rw [Int.toNat_natCast]
theorem getD_all {n : Nat} {s : List Int} {B : Int} (hs : s.length = n) (hB : 0 ≤ B) (h : ∀ w, w < n → -B ≤ s.getD w 0 ∧ s.getD w 0 ≤ B) (w : Nat) : -B ≤ s.getD w 0 ∧ s.getD w 0 ≤ B := by
  by_cases c : w < n
  · exact h w c
  · have : s.getD w 0 = 0 := by rw [List.getD_eq_getElem?_getD, List.getElem?_eq_none (by omega)]; rfl
    rw [this]; omega
structure Inv1 (n q : Nat) (σ : Nat → Int) (s : List Int) : Prop where
  len : s.length = n
  z : s.getD q 0 = 0
  b : ∀ w, w < n → -(σ w) ≤ s.getD w 0 ∧ s.getD w 0 ≤ 0
structure Resc (n : Nat) (es : List S67) (q : Nat) (σ : Nat → Int) : Prop where
  z : σ q = 0
  b : ∀ v, 0 ≤ σ v ∧ σ v ≤ 1357260
  l : ∀ v, v < n → v ≠ q → 60 ≤ lap n (mE n es) σ v
theorem start64 {n q : Nat} {es : List S67} {D : List Int} (S : Start n es D q) : In64 D := fun u => wrap_id (by have := S.b u; omega) (by have := S.b u; omega)
theorem xd_xf {n q : Nat} {es : List S67} {D s : List Int} (S : Start n es D q) (hs : s.length = n) (hb : ∀ w, w < n → -1000000000000 ≤ s.getD w 0 ∧ s.getD w 0 ≤ 1000000000000) (u : Nat) (hu : u < n) : (XD es D s).getD u 0 = XF n es D s u :=
  xd_val n es D s S.g S.len hs S.b 1000000000000 (by omega) (by omega) (fun w => getD_all hs (by omega) hb w) u hu
theorem inv1_b {n q : Nat} {es : List S67} {σ : Nat → Int} {s : List Int} (R : Resc n es q σ) (h : Inv1 n q σ s) (w : Nat) (hw : w < n) : -1000000000000 ≤ s.getD w 0 ∧ s.getD w 0 ≤ 1000000000000 := by
  have := h.b w hw; have := R.b w; omega
theorem xf_bound {n q : Nat} {es : List S67} {D s : List Int} (S : Start n es D q) (B : Int) (hB : 0 ≤ B) (hb : ∀ w, w < n → -B ≤ s.getD w 0 ∧ s.getD w 0 ≤ B) (u : Nat) (hu : u < n) : -60 - 24 * B ≤ XF n es D s u ∧ XF n es D s u ≤ 60 + 24 * B := by
  have := lap_bound n es S.g (fun w => s.getD w 0) B hB hb u hu
  have := S.b u
  unfold XF
  omega
theorem inv1_borrow {n q : Nat} {es : List S67} {D s : List Int} {σ : Nat → Int} (S : Start n es D q) (R : Resc n es q σ) (h : Inv1 n q σ s) (v : Nat) (hv : v < n) (hvq : v ≠ q) (t : Int) (ht : 1 ≤ t)
    (hd : XF n es D s v + sumN (mE n es v) n * (t - 1) < 0) : Inv1 n q σ (addAt s v (-t)) ∧ sumN (fun w => σ w + (addAt s v (-t)).getD w 0) n = sumN (fun w => σ w + s.getD w 0) n - t := by
  have G := gr_of n es S.g
  have hl := lap_neg n (mE n es) (fun w => s.getD w 0) v
  have hle := borrow_le G (q := q) (v := v) (D := fun w => D.getD w 0) (b := fun w => - s.getD w 0) (σ := σ) hv hvq (S.b v).1 (R.l v hv hvq) (fun w hw => by have := h.b w hw; omega) t (by
    unfold XF at hd
    rw [hl]
    omega)
  (try dsimp only at hle)
  have hg := addAt_get n s v (-t) h.len hv
  refine ⟨⟨by rw [addAt_len]; exact h.len, ?_, fun w hw => ?_⟩, ?_⟩
  · rw [hg q, if_neg (fun e => hvq e.symm), h.z]; rfl
  · rw [hg w]
    have := h.b w hw
    by_cases e : w = v
    · rw [if_pos e]; subst e; omega
    · rw [if_neg e]; omega
  · have hu := sumN_upd (fun w => σ w + s.getD w 0) n v (σ v + s.getD v 0 - t) hv
    have : sumN (fun w => σ w + (addAt s v (-t)).getD w 0) n = sumN (fun i => if i = v then σ v + s.getD v 0 - t else (fun w => σ w + s.getD w 0) i) n := sumN_congr fun w _ => by
      rw [hg w]
      by_cases e : w = v
      · rw [if_pos e, if_pos e, e]; omega
      · rw [if_neg e, if_neg e]
        show σ w + (s.getD w 0 + 0) = σ w + s.getD w 0
        omega
    rw [this, hu]; omega
theorem inv1_sum {n q : Nat} {σ : Nat → Int} {s : List Int} (h : Inv1 n q σ s) : 0 ≤ sumN (fun w => σ w + s.getD w 0) n := sumN_nonneg fun w hw => by have := h.b w hw; omega
theorem phase1I {n q : Nat} {es : List S67} {D : List Int} {σ : Nat → Int} (S : Start n es D q) (R : Resc n es q σ) (hl : es.length ≤ 12) (hn : n ≤ 6) :
    ∀ (c : Nat) (s : List Int), Inv1 n q σ s → sumN (fun w => σ w + s.getD w 0) n ≤ c → ∃ s1, Inv1 n q σ s1 ∧ (∀ v, v < n → v ≠ q → 0 ≤ XF n es D s1 v) ∧
      ∀ r, Ev (fun k => impl_reduce.l1 k (q : Int) (XD es D s1) s1 n es) r → Ev (fun k => impl_reduce.l0 k (q : Int) (XD es D s) s (debtI q (XD es D s)) n es) r := by
  have he := (edgesB_facts S.g.1).2.2.2
  have G := gr_of n es S.g
  intro c
  induction c with
  | zero =>
    intro s h hc
    have hz := inv1_sum h
    have hlen := xd_len n es D s he S.len (start64 S)
    cases hf : debtF q 0 (XD es D s) with
    | none =>
      refine ⟨s, h, fun v hv hvq => ?_, fun r hr => ev_succ ?_⟩
      · rw [← xd_xf S h.len (fun w hw => inv1_b R h w hw) v hv]
        exact debtF_none q _ 0 hf v (by omega) (by omega)
      · have hi : debtI q (XD es D s) = -1 := by unfold debtI; rw [hf]
        simp only [impl_reduce.l0, hi]
        exact ev_ifn (by decide) hr
    | some v =>
      exfalso
      obtain ⟨_, h2, h3, h4⟩ := debtF_some q _ 0 v hf
      rw [Nat.sub_zero, xd_xf S h.len (fun w hw => inv1_b R h w hw) v (by omega)] at h4
      have hb := inv1_borrow S R h v (by omega) (by omega) 1 (by omega) (by rw [show (1 : Int) - 1 = 0 by omega, Int.mul_zero]; omega)
      have := inv1_sum hb.1
      omega
  | succ c ih =>
    intro s h hc
    have hlen := xd_len n es D s he S.len (start64 S)
    cases hf : debtF q 0 (XD es D s) with
    | none =>
      refine ⟨s, h, fun v hv hvq => ?_, fun r hr => ev_succ ?_⟩
      · rw [← xd_xf S h.len (fun w hw => inv1_b R h w hw) v hv]
        exact debtF_none q _ 0 hf v (by omega) (by omega)
      · have hi : debtI q (XD es D s) = -1 := by unfold debtI; rw [hf]
        simp only [impl_reduce.l0, hi]
        exact ev_ifn (by decide) hr
    | some v =>
      obtain ⟨_, h2, h3, h4⟩ := debtF_some q _ 0 v hf
      rw [Nat.sub_zero] at h4
      have hv : v < n := by omega
      have hvq : v ≠ q := by omega
      have hxv := xd_xf S h.len (fun w hw => inv1_b R h w hw) v hv
      have hxb := xf_bound (s := s) S 1357260 (by omega) (fun w hw => by have := h.b w hw; have := R.b w; omega) v hv
      have hN := val_sum n v hv es he
      have hN0 := val_pos G S.q hv hvq
      have hN12 := G.val v hv
      generalize hNe : sumN (mE n es v) n = N at *
      generalize hXe : XF n es D s v = X at *
      have ew1 : wrap64 (wrap64 (N - 1) - X) = N - 1 - X := by rw [wrap_id (i := N - 1) (by omega) (by omega)]; exact wrap_id (by omega) (by omega)
      have htd : Int.tdiv (N - 1 - X) N = (N - 1 - X) / N := Int.tdiv_eq_ediv_of_nonneg (by omega)
      generalize hte : (N - 1 - X) / N = t at *
      have ht1 : N * t ≤ N - 1 - X := by rw [← hte]; exact Int.mul_ediv_self_le (by omega)
      have ht2 : N - 1 - X < N * t + N := by
        have := Int.lt_mul_ediv_self_add (x := N - 1 - X) (k := N) (by omega)
        rw [hte] at this; exact this
      have ht3 : 1 ≤ t := by
        refine Classical.byContradiction fun hno => ?_
        have : N * t ≤ N * 0 := Int.mul_le_mul_of_nonneg_left (by omega) (by omega)
        omega
      have ht4 : t ≤ N * t := by
        have := Int.mul_le_mul_of_nonneg_right (show 1 ≤ N by omega) (show 0 ≤ t by omega)
        omega
      have hb := inv1_borrow S R h v hv hvq t ht3 (by rw [hXe, hNe, Int.mul_sub]; omega)
      obtain ⟨s1, i1, i2, i3⟩ := ih (addAt s v (-t)) hb.1 (by rw [hb.2]; omega)
      refine ⟨s1, i1, i2, fun r hr => ev_succ ?_⟩
      have hi : debtI q (XD es D s) = v := by unfold debtI; rw [hf]
      have hsv := h.b v hv
      have hsb := R.b v
      have ew2 : wrap64 (Int.tdiv (N - 1 - X) N) = t := by rw [htd]; exact wrap_id (by omega) (by omega)
      have ew3 : wrap64 (-t) = -t := wrap_id (by omega) (by omega)
      have ew4 : wrap64 (s.getD v 0 - t) = s.getD v 0 + -t := by rw [wrap_id (by omega) (by omega)]; omega
      simp only [impl_reduce.l0, hi]
      refine ev_ift (by omega) (Ev.bind (impl_val_ev n es (by omega) v) ?_)
      simp only [hN, rd_n, hxv, ew1, ew2, ew3, ew4]
      refine ev_ift (by omega) (ev_ift (by omega) (ev_ifn (by omega) (Ev.bind (impl_fire_ev n es (XD es D s) v (-t) he hlen hn (by omega) n) ?_)))
      rw [xd_fire n es D s he S.len h.len (start64 S) v hv (-t)]
      refine ev_ift (by have := h.len; omega) (Ev.bind (inDebt_ev _ q (by rw [xd_len n es D _ he S.len (start64 S)]; omega)) ?_)
      have hset : s.set ((v : Int)).toNat (s.getD v 0 + -t) = addAt s v (-t) := by rw [Int.toNat_natCast]; rfl
      rw [hset]
      exact i3 r hr
theorem passS {n q : Nat} {es : List S67} {D : List Int} {σ : Nat → Int} (S : Start n es D q) (R : Resc n es q σ) (hl : es.length ≤ 12) (hn : n ≤ 6) :
    ∀ (d i : Nat) (s : List Int), i + d = n → Inv1 n q σ s → ∃ s', Inv1 n q σ s' ∧ sumN (fun w => σ w + s'.getD w 0) n ≤ sumN (fun w => σ w + s.getD w 0) n ∧
      (sumN (fun w => σ w + s'.getD w 0) n < sumN (fun w => σ w + s.getD w 0) n ∨ ∀ v, i ≤ v → v < n → v ≠ q → 0 ≤ XF n es D s v) ∧
      ∀ r, Ev (fun k => spec_l05Reduce.l0 k D (q : Int) s' (XD es D s') n es) r → Ev (fun k => spec_l05Reduce.l1 k D (q : Int) s (XD es D s) (n : Int) (i : Int) n es) r := by
  have he := (edgesB_facts S.g.1).2.2.2
  intro d
  induction d with
  | zero =>
    intro i s hi h
    refine ⟨s, h, Int.le_refl _, Or.inr fun v h1 h2 => by omega, fun r hr => ev_succ ?_⟩
    simp only [spec_l05Reduce.l1]
    exact ev_ifn (by omega) hr
  | succ d ih =>
    intro i s hi h
    have hlen := xd_len n es D s he S.len (start64 S)
    have hsl := h.len
    by_cases hiq : i = q
    · obtain ⟨s', i1, i2, i3, i4⟩ := ih (i + 1) s (by omega) h
      refine ⟨s', i1, i2, i3.imp id fun hv v h1 h2 h3 => hv v (by omega) h2 h3, fun r hr => ev_succ ?_⟩
      simp only [spec_l05Reduce.l1, wrap_succ (show i < 4611686018427387904 by omega)]
      exact ev_ift (by omega) (ev_ift (by omega) (i4 r hr))
    · have hx := xd_xf S h.len (fun w hw => inv1_b R h w hw) i (by omega)
      by_cases hc : XF n es D s i < 0
      · have hb := inv1_borrow S R h i (by omega) hiq 1 (by omega) (by rw [show (1 : Int) - 1 = 0 by omega, Int.mul_zero]; omega)
        obtain ⟨s', i1, i2, i3, i4⟩ := ih (i + 1) (addAt s i (-1)) (by omega) hb.1
        refine ⟨s', i1, by rw [hb.2] at i2; omega, Or.inl (by rw [hb.2] at i2; omega), fun r hr => ev_succ ?_⟩
        have hsv := h.b i (by omega)
        have hsb := R.b i
        have ew : wrap64 (s.getD i 0 - 1) = s.getD i 0 + -1 := by rw [wrap_id (by omega) (by omega)]; omega
        have hset : s.set i (s.getD i 0 + -1) = addAt s i (-1) := rfl
        simp only [spec_l05Reduce.l1, rd_n, hx, ew, Int.toNat_natCast, hset, Option.bind_some, wrap_succ (show i < 4611686018427387904 by omega)]
        refine ev_ift (by omega) (ev_ifn (by omega) (ev_ift (by omega) (ev_ift (by omega) (ev_ift hc (ev_ift (by omega) (Ev.bind (spec_fire_ev n es D (addAt s i (-1)) he S.len (by rw [addAt_len]; exact h.len) hn (by omega) n) ?_))))))
        exact i4 r hr
      · obtain ⟨s', i1, i2, i3, i4⟩ := ih (i + 1) s (by omega) h
        refine ⟨s', i1, i2, i3.imp id fun hv v h1 h2 h3 => ?_, fun r hr => ev_succ ?_⟩
        · by_cases e : v = i
          · subst e; omega
          · exact hv v (by omega) h2 h3
        · simp only [spec_l05Reduce.l1, rd_n, hx, wrap_succ (show i < 4611686018427387904 by omega)]
          exact ev_ift (by omega) (ev_ifn (by omega) (ev_ift (by omega) (ev_ift (by omega) (ev_ifn hc (i4 r hr)))))
theorem phase1S {n q : Nat} {es : List S67} {D : List Int} {σ : Nat → Int} (S : Start n es D q) (R : Resc n es q σ) (hl : es.length ≤ 12) (hn : n ≤ 6) :
    ∀ (c : Nat) (s : List Int), Inv1 n q σ s → sumN (fun w => σ w + s.getD w 0) n ≤ c → ∃ s1, Inv1 n q σ s1 ∧ (∀ v, v < n → v ≠ q → 0 ≤ XF n es D s1 v) ∧
      ∀ r, Ev (fun k => spec_l05Reduce.l2 k D (q : Int) s1 (XD es D s1) n es) r → Ev (fun k => spec_l05Reduce.l0 k D (q : Int) s (XD es D s) n es) r := by
  have he := (edgesB_facts S.g.1).2.2.2
  have done_ : ∀ s, Inv1 n q σ s → debtF q 0 (XD es D s) = none → ∃ s1, Inv1 n q σ s1 ∧ (∀ v, v < n → v ≠ q → 0 ≤ XF n es D s1 v) ∧
      ∀ r, Ev (fun k => spec_l05Reduce.l2 k D (q : Int) s1 (XD es D s1) n es) r → Ev (fun k => spec_l05Reduce.l0 k D (q : Int) s (XD es D s) n es) r := by
    intro s h hf
    have hlen := xd_len n es D s he S.len (start64 S)
    have hd := specDebt_ev (XD es D s) q (by omega)
    rw [hf] at hd
    refine ⟨s, h, fun v hv hvq => ?_, fun r hr => ev_succ ?_⟩
    · rw [← xd_xf S h.len (fun w hw => inv1_b R h w hw) v hv]
      exact debtF_none q _ 0 hf v (by omega) (by omega)
    · simp only [spec_l05Reduce.l0]
      exact Ev.bind hd (ev_iff hr)
  have next_ : ∀ s v, Inv1 n q σ s → debtF q 0 (XD es D s) = some v → ∃ s', Inv1 n q σ s' ∧ sumN (fun w => σ w + s'.getD w 0) n < sumN (fun w => σ w + s.getD w 0) n ∧
      ∀ r, Ev (fun k => spec_l05Reduce.l0 k D (q : Int) s' (XD es D s') n es) r → Ev (fun k => spec_l05Reduce.l0 k D (q : Int) s (XD es D s) n es) r := by
    intro s v h hf
    have hlen := xd_len n es D s he S.len (start64 S)
    have hd := specDebt_ev (XD es D s) q (by omega)
    rw [hf] at hd
    obtain ⟨_, h2, h3, h4⟩ := debtF_some q _ 0 v hf
    rw [Nat.sub_zero, xd_xf S h.len (fun w hw => inv1_b R h w hw) v (by omega)] at h4
    obtain ⟨s', i1, _, i3, i4⟩ := passS S R hl hn n 0 s (by omega) h
    refine ⟨s', i1, i3.elim id fun hv => ?_, fun r hr => ev_succ ?_⟩
    · have := hv v (by omega) (by omega) (by omega)
      omega
    · simp only [spec_l05Reduce.l0]
      refine Ev.bind hd (ev_ift rfl ?_)
      rw [hlen]
      exact i4 r hr
  intro c
  induction c with
  | zero =>
    intro s h hc
    cases hf : debtF q 0 (XD es D s) with
    | none => exact done_ s h hf
    | some v =>
      exfalso
      obtain ⟨s', i1, i2, _⟩ := next_ s v h hf
      have := inv1_sum i1
      omega
  | succ c ih =>
    intro s h hc
    cases hf : debtF q 0 (XD es D s) with
    | none => exact done_ s h hf
    | some v =>
      obtain ⟨s', i1, i2, i3⟩ := next_ s v h hf
      obtain ⟨s1, j1, j2, j3⟩ := ih s' i1 (by omega)
      exact ⟨s1, j1, j2, fun r hr => i3 r (j3 r hr)⟩
theorem fireI {n q : Nat} {es : List S67} {D : List Int} (S : Start n es D q) (hl : es.length ≤ 12) (hn : n ≤ 6) (r s : List Int) (hr : r.length ≤ n) (hs : s.length = n) (hb : ∀ w, w < n → -500000000000 ≤ s.getD w 0 ∧ s.getD w 0 ≤ 500000000000) (res : List Int × List Int)
    (h : Ev (fun k => impl_reduce.l1 k (q : Int) (XD es D (bumpTo r s n)) (bumpTo r s n) n es) res) :
    ∀ (d i : Nat), i + d = n → Ev (fun k => impl_reduce.l2 k (q : Int) (XD es D (bumpTo r s i)) (bumpTo r s i) r (n : Int) (i : Int) n es) res := by
  have he := (edgesB_facts S.g.1).2.2.2
  intro d
  induction d with
  | zero =>
    intro i hi
    obtain rfl : i = n := by omega
    refine ev_succ ?_
    simp only [impl_reduce.l2]
    exact ev_ifn (by omega) h
  | succ d ih =>
    intro i hi
    have hnx := ih (i + 1) (by omega)
    have hbl : (bumpTo r s i).length = n := by rw [bump_len]; exact hs
    have hbg := bump_get n r s hs i (by omega) i
    rw [if_neg (by omega)] at hbg
    have hbi := hb i (by omega)
    have ew : wrap64 ((bumpTo r s i).getD i 0 + 1) = (bumpTo r s i).getD i 0 + 1 := wrap_id (by omega) (by omega)
    simp only [bumpTo] at hnx
    refine ev_succ ?_
    simp only [impl_reduce.l2, wrap_succ (show i < 4611686018427387904 by omega)]
    refine ev_ift (by omega) (Ev.bind (contains_ev r i (by omega)) ?_)
    by_cases c : (i : Int) ∈ r
    · rw [if_pos c] at hnx
      exact ev_ift (by simp [c]) hnx
    · rw [if_neg c] at hnx
      refine ev_ifn (by simp [c]) (Ev.bind (impl_fire_ev n es (XD es D (bumpTo r s i)) i 1 he (xd_len n es D _ he S.len (start64 S)) hn (by omega) n) ?_)
      rw [xd_fire n es D _ he S.len hbl (start64 S) i (by omega) 1]
      simp only [rd_n, ew, Int.toNat_natCast]
      exact ev_ift (by omega) (ev_ift (by omega) hnx)
theorem fireS {n q : Nat} {es : List S67} {D : List Int} (S : Start n es D q) (hl : es.length ≤ 12) (hn : n ≤ 6) (r s : List Int) (hr : r.length ≤ n) (hs : s.length = n) (hb : ∀ w, w < n → -500000000000 ≤ s.getD w 0 ∧ s.getD w 0 ≤ 500000000000) (res : List Int × List Int)
    (h : Ev (fun k => spec_l05Reduce.l2 k D (q : Int) (bumpTo r s n) (XD es D (bumpTo r s n)) n es) res) :
    ∀ (d i : Nat), i + d = n → Ev (fun k => spec_l05Reduce.l3 k D (q : Int) (bumpTo r s i) r (i : Int) n es) res := by
  have he := (edgesB_facts S.g.1).2.2.2
  intro d
  induction d with
  | zero =>
    intro i hi
    obtain rfl : i = n := by omega
    refine ev_succ ?_
    simp only [spec_l05Reduce.l3]
    exact ev_ifn (by omega) (Ev.bind (spec_fire_ev i es D (bumpTo r s i) he S.len (by rw [bump_len]; exact hs) hn (by omega) i) h)
  | succ d ih =>
    intro i hi
    have hnx := ih (i + 1) (by omega)
    have hbl : (bumpTo r s i).length = n := by rw [bump_len]; exact hs
    have hbg := bump_get n r s hs i (by omega) i
    rw [if_neg (by omega)] at hbg
    have hbi := hb i (by omega)
    have ew : wrap64 ((bumpTo r s i).getD i 0 + 1) = (bumpTo r s i).getD i 0 + 1 := wrap_id (by omega) (by omega)
    simp only [bumpTo] at hnx
    refine ev_succ ?_
    simp only [spec_l05Reduce.l3, wrap_succ (show i < 4611686018427387904 by omega)]
    refine ev_ift (by omega) (Ev.bind (has_ev r i (by omega)) ?_)
    by_cases c : (i : Int) ∈ r
    · rw [if_pos c] at hnx
      exact ev_ift (by simp [c]) hnx
    · rw [if_neg c] at hnx
      simp only [rd_n, ew, Int.toNat_natCast]
      exact ev_ifn (by simp [c]) (ev_ift (by omega) (ev_ift (by omega) hnx))
theorem start_sum {n q : Nat} {es : List S67} {D s1 : List Int} {σ : Nat → Int} (S : Start n es D q) (R : Resc n es q σ) (hn : n ≤ 6) (h1 : Inv1 n q σ s1) : sumN (XF n es D s1) n - XF n es D s1 q ≤ 16287540 := by
  have G := gr_of n es S.g
  have e1 : sumN (XF n es D s1) n = sumN (fun v => D.getD v 0) n := by
    have := sumN_sub (fun v => D.getD v 0) (fun v => lap n (mE n es) (fun w => s1.getD w 0) v) n
    rw [lap_sum n (mE n es) G.sym] at this
    rw [show sumN (XF n es D s1) n = _ from this]; omega
  have e2 : sumN (fun v => D.getD v 0) n ≤ sumN (fun _ => 60) n := sumN_le fun v _ => (S.b v).2
  rw [sumN_const] at e2
  have e3 : lap n (mE n es) (fun w => s1.getD w 0) q ≤ sumN (fun w => mE n es q w * 1357260) n := by
    unfold lap
    refine sumN_le fun w hw => Int.mul_le_mul_of_nonneg_left ?_ (G.nonneg q w)
    show s1.getD q 0 - s1.getD w 0 ≤ 1357260
    have := h1.b w hw
    have := R.b w
    have := h1.z
    omega
  rw [sumN_mul'] at e3
  have e4 := G.val q S.q
  have e5 : sumN (fun i => mE n es q i) n = sumN (mE n es q) n := rfl
  have e6 := (S.b q).1
  rw [e5] at e3
  show sumN (XF n es D s1) n - (D.getD q 0 - lap n (mE n es) (fun w => s1.getD w 0) q) ≤ 16287540
  omega
theorem phase2 {n q : Nat} {es : List S67} {D s1 : List Int} {σ : Nat → Int} (S : Start n es D q) (R : Resc n es q σ) (hl : es.length ≤ 12) (hn : n ≤ 6) (h1 : Inv1 n q σ s1) (hnd1 : ∀ v, v < n → v ≠ q → 0 ≤ XF n es D s1 v) :
    ∀ (c : Nat) (s : List Int), s.length = n → s.getD q 0 = 0 → (∀ w, w < n → s1.getD w 0 ≤ s.getD w 0 ∧ s.getD w 0 - s1.getD w 0 ≤ 368440442340) → (∀ v, v < n → v ≠ q → 0 ≤ XF n es D s v) →
      sumN (fun w => 368440442340 - (s.getD w 0 - s1.getD w 0)) n ≤ c →
      ∃ s2, s2.length = n ∧ s2.getD q 0 = 0 ∧ (∀ w, w < n → -500000000000 ≤ s2.getD w 0 ∧ s2.getD w 0 ≤ 500000000000) ∧ Red n (mE n es) q (XF n es D s2) ∧
        Ev (fun k => impl_reduce.l1 k (q : Int) (XD es D s) s n es) (XD es D s2, s2) ∧ Ev (fun k => spec_l05Reduce.l2 k D (q : Int) s (XD es D s) n es) (XD es D s2, s2) := by
  have he := (edgesB_facts S.g.1).2.2.2
  have G := gr_of n es S.g
  have bnd : ∀ s : List Int, (∀ w, w < n → s1.getD w 0 ≤ s.getD w 0 ∧ s.getD w 0 - s1.getD w 0 ≤ 368440442340) → ∀ w, w < n → -500000000000 ≤ s.getD w 0 ∧ s.getD w 0 ≤ 500000000000 := by
    intro s hs w hw
    have := hs w hw
    have := h1.b w hw
    have := R.b w
    omega
  intro c
  have step : ∀ s : List Int, s.length = n → s.getD q 0 = 0 → (∀ w, w < n → s1.getD w 0 ≤ s.getD w 0 ∧ s.getD w 0 - s1.getD w 0 ≤ 368440442340) → (∀ v, v < n → v ≠ q → 0 ≤ XF n es D s v) →
      (∃ s2, s2.length = n ∧ s2.getD q 0 = 0 ∧ (∀ w, w < n → -500000000000 ≤ s2.getD w 0 ∧ s2.getD w 0 ≤ 500000000000) ∧ Red n (mE n es) q (XF n es D s2) ∧
        Ev (fun k => impl_reduce.l1 k (q : Int) (XD es D s) s n es) (XD es D s2, s2) ∧ Ev (fun k => spec_l05Reduce.l2 k D (q : Int) s (XD es D s) n es) (XD es D s2, s2)) ∨
      ∃ s' : List Int, s'.length = n ∧ s'.getD q 0 = 0 ∧ (∀ w, w < n → s1.getD w 0 ≤ s'.getD w 0 ∧ s'.getD w 0 - s1.getD w 0 ≤ 368440442340) ∧ (∀ v, v < n → v ≠ q → 0 ≤ XF n es D s' v) ∧
        sumN (fun w => 368440442340 - (s'.getD w 0 - s1.getD w 0)) n < sumN (fun w => 368440442340 - (s.getD w 0 - s1.getD w 0)) n ∧
        ∀ res, (Ev (fun k => impl_reduce.l1 k (q : Int) (XD es D s') s' n es) res → Ev (fun k => impl_reduce.l1 k (q : Int) (XD es D s) s n es) res) ∧
          (Ev (fun k => spec_l05Reduce.l2 k D (q : Int) s' (XD es D s') n es) res → Ev (fun k => spec_l05Reduce.l2 k D (q : Int) s (XD es D s) n es) res) := by
    intro s hs hq0 hf hnd
    have hbs := bnd s hf
    have hX : ∀ v, v < n → (XD es D s).getD v 0 = XF n es D s v := fun v hv => xd_xf S hs (fun w hw => by have := hbs w hw; omega) v hv
    obtain ⟨r, b1, b2, b3, b4, b5, b6⟩ := burn_both n hn es hl (XD es D s) (xd_len n es D s he S.len (start64 S)) q S.q
    have hrl := binv_len b3
    by_cases hr : r.length = n
    · refine Or.inl ⟨s, hs, hq0, hbs, red_of n es (XD es D s) r q _ hX hnd b3 hr b4 b6, ev_succ ?_, ev_succ ?_⟩
      · simp only [impl_reduce.l1]
        exact Ev.bind b1 (ev_ift (by omega) (Ev.now _))
      · simp only [spec_l05Reduce.l2]
        exact Ev.bind b2 (ev_ift (by omega) (Ev.now _))
    · have hqr := burn_mem b4
      have hbg := bump_get n r s hs n (Nat.le_refl _)
      have hok := bump_ok n es D s (XD es D s) r q hs hX hnd b3 hqr b5
      have hle : ∀ w, w < n → s1.getD w 0 ≤ (bumpTo r s n).getD w 0 := by
        intro w hw
        have := hf w hw
        rw [hbg w]
        split <;> omega
      have hz : (bumpTo r s n).getD q 0 = 0 := by
        rw [hbg q, if_neg (fun h => h.2 hqr), hq0]; rfl
      have hfb := fire_bound G S.q (D := XF n es D s1) (f := fun w => (bumpTo r s n).getD w 0 - s1.getD w 0) (M := 16287540) hnd1 (start_sum S R hn h1) (by
        show (bumpTo r s n).getD q 0 - s1.getD q 0 = 0
        rw [hz, h1.z]; rfl) (fun v hv => by have := hle v hv; (try dsimp only); omega) (fun v hv hvq => by
        have h := hok v hv hvq
        have hs' := lap_sub n (mE n es) (fun w => (bumpTo r s n).getD w 0) (fun w => s1.getD w 0) v
        unfold XF at h ⊢
        rw [hs']
        omega)
      obtain ⟨v, hv, hvr⟩ := binv_some b3 hr
      refine Or.inr ⟨bumpTo r s n, by rw [bump_len]; exact hs, hz, fun w hw => ⟨hle w hw, ?_⟩, hok, ?_, fun res => ⟨fun h => ev_succ ?_, fun h => ev_succ ?_⟩⟩
      · have := hfb w hw
        (try dsimp only at this)
        omega
      · have hu := sumN_upd (fun w => 368440442340 - (s.getD w 0 - s1.getD w 0)) n v (368440442340 - (s.getD v 0 - s1.getD v 0) - 1) hv
        have hle2 : sumN (fun w => 368440442340 - ((bumpTo r s n).getD w 0 - s1.getD w 0)) n ≤ sumN (fun i => if i = v then 368440442340 - (s.getD v 0 - s1.getD v 0) - 1 else (fun w => 368440442340 - (s.getD w 0 - s1.getD w 0)) i) n := by
          refine sumN_le fun w hw => ?_
          dsimp only
          rw [hbg w]
          by_cases e : w = v
          · subst e
            rw [if_pos ⟨hw, hvr⟩, if_pos rfl]; omega
          · rw [if_neg e]
            split <;> omega
        rw [hu] at hle2
        omega
      · simp only [impl_reduce.l1]
        refine Ev.bind b1 (ev_ifn (by omega) ?_)
        rw [hs]
        exact fireI S hl hn r s hrl hs hbs res h n 0 (by omega)
      · simp only [spec_l05Reduce.l2]
        refine Ev.bind b2 (ev_ifn (by omega) ?_)
        exact fireS S hl hn r s hrl hs hbs res h n 0 (by omega)
  induction c with
  | zero =>
    intro s hs hq0 hf hnd hc
    rcases step s hs hq0 hf hnd with h | ⟨s', a1, a2, a3, a4, a5, a6⟩
    · exact h
    · exfalso
      have : 0 ≤ sumN (fun w => 368440442340 - (s'.getD w 0 - s1.getD w 0)) n := sumN_nonneg fun w hw => by have := a3 w hw; omega
      omega
  | succ c ih =>
    intro s hs hq0 hf hnd hc
    rcases step s hs hq0 hf hnd with h | ⟨s', a1, a2, a3, a4, a5, a6⟩
    · exact h
    · obtain ⟨s2, c1, c2, c3, c4, c5, c6⟩ := ih s' a1 a2 a3 a4 (by omega)
      exact ⟨s2, c1, c2, c3, c4, (a6 _).1 c5, (a6 _).2 c6⟩
end Go.Proofs.Ytbcfccdoffbncaa.Pure
end
section
set_option linter.unusedVariables false
set_option linter.unusedSimpArgs false
namespace Go.Proofs.Ytbcfccdoffbncaa.Pure
open Go.RowKit Go.Proofs.Ytbcfccdoffbncaa.P Go.Proofs.YtbcfccdoffbncaaW.PrintWords Go.Proofs.YtbcfccdoffbncaaW.PrintLast Go.Proofs.YtbcfccdoffbncaaW.PrintMore Go.Proofs.Ytbcfccdoffbncaa.Base Go.Proofs.Ytbcfccdoffbncaa.Loops
theorem getD_set0 (x : List Int) (i j : Nat) (c : Int) (hi : i < x.length) : (x.set i c).getD j 0 = if i = j then c else x.getD j 0 := by
  simp only [List.getD_eq_getElem?_getD, List.getElem?_set]
  by_cases e : i = j
  · subst e; simp [hi]
  · simp [e]
theorem list_eq0 {x y : List Int} (h : x.length = y.length) (hu : ∀ u, u < x.length → x.getD u 0 = y.getD u 0) : x = y := by
  refine List.ext_getElem h fun i h1 h2 => ?_
  have := hu i h1
  simp only [List.getD_eq_getElem?_getD, List.getElem?_eq_getElem h1, List.getElem?_eq_getElem h2, Option.getD_some] at this
  exact this
theorem inplace_ev (l R : List Int) (hR : R.length = l.length) (g : Nat → List Int → Int → Option (List Int)) (hend : ∀ x : List Int, x.length = l.length → Ev (fun k => g k x (l.length : Int)) x)
    (hstep : ∀ (x : List Int) (i : Nat), i < l.length → x.length = l.length → x.getD i 0 = l.getD i 0 → ∀ r, Ev (fun k => g k (x.set i (R.getD i 0)) ((i + 1 : Nat) : Int)) r → Ev (fun k => g k x (i : Int)) r) :
    Ev (fun k => g k l 0) R := by
  have main : ∀ (d i : Nat) (x : List Int), i + d = l.length → x.length = l.length → (∀ j, j < i → x.getD j 0 = R.getD j 0) → (∀ j, i ≤ j → x.getD j 0 = l.getD j 0) → Ev (fun k => g k x (i : Int)) R := by
    intro d
    induction d with
    | zero =>
      intro i x hi hx h1 _
      obtain rfl : i = l.length := by omega
      have e : x = R := list_eq0 (by omega) (fun u hu => h1 u (by omega))
      subst e
      exact hend x hx
    | succ d ih =>
      intro i x hi hx h1 h2
      refine hstep x i (by omega) hx (h2 i (Nat.le_refl _)) _ (ih (i + 1) _ (by omega) (by simpa using hx) (fun j hj => ?_) (fun j hj => ?_))
      · rw [getD_set0 _ _ _ _ (by omega)]
        by_cases e : i = j
        · subst e; rw [if_pos rfl]
        · rw [if_neg e]; exact h1 j (by omega)
      · rw [getD_set0 _ _ _ _ (by omega), if_neg (by omega)]
        exact h2 j (by omega)
  exact main l.length 0 l (by omega) rfl (fun j hj => by omega) (fun j _ => rfl)
theorem getD_range (F : Nat → Int) (m i : Nat) (h : i < m) : ((List.range m).map F).getD i 0 = F i := by
  simp [List.getD_eq_getElem?_getD, h]
theorem copyI_eq (l : List Int) (h : l.length < 17592186044416) : impl_copyInts.f l = some l := by
  unfold impl_copyInts.f
  rw [if_pos (by simpa using h)]; rfl
end Go.Proofs.Ytbcfccdoffbncaa.Pure
end
section
set_option linter.unusedVariables false
set_option linter.unusedSimpArgs false
namespace Go.Proofs.Ytbcfccdoffbncaa.Pure
open Go.RowKit Go.Proofs.Ytbcfccdoffbncaa.P Go.Proofs.YtbcfccdoffbncaaW.PrintWords Go.Proofs.YtbcfccdoffbncaaW.PrintLast Go.Proofs.YtbcfccdoffbncaaW.PrintMore Go.Proofs.Ytbcfccdoffbncaa.Base Go.Proofs.Ytbcfccdoffbncaa.Reduce Go.Proofs.Ytbcfccdoffbncaa.Loops Go.Proofs.Ytbcfccdoffbncaa.Bits
theorem reduce_both {n q : Nat} {es : List S67} {D : List Int} (S : Start n es D q) :
    ∃ s : List Int, s.length = n ∧ s.getD q 0 = 0 ∧ (∀ w, w < n → -500000000000 ≤ s.getD w 0 ∧ s.getD w 0 ≤ 500000000000) ∧ Red n (mE n es) q (XF n es D s) ∧ (∀ v, v < n → (XD es D s).getD v 0 = XF n es D s v) ∧ (XD es D s).length = n ∧
      Ev (fun k => impl_reduce.f k n es D q) (XD es D s, s) ∧ Ev (fun k => spec_l05Reduce.f k n es D q) (XD es D s, s) := by
  obtain ⟨f1, f2, f3, he⟩ := edgesB_facts S.g.1
  have hn : n ≤ 6 := by omega
  have G := gr_of n es S.g
  obtain ⟨σ, r1, r2, r3⟩ := rescue G S.q
  have R : Resc n es q σ := ⟨r1, r2, r3⟩
  have h0 : Inv1 n q σ (List.replicate n 0) := by
    have hz : ∀ w, (List.replicate n (0 : Int)).getD w 0 = 0 := by
      intro w
      rw [List.getD_eq_getElem?_getD, List.getElem?_replicate]
      split <;> rfl
    exact ⟨by simp, hz q, fun w _ => by rw [hz w]; have := R.b w; omega⟩
  have hx0 : XD es D (List.replicate n 0) = D := by
    refine list_eq0 (by rw [xd_len n es D _ he S.len (start64 S), S.len]) fun u hu => ?_
    rw [xd_len n es D _ he S.len (start64 S)] at hu
    rw [xd_xf S h0.len (fun w hw => inv1_b R h0 w hw) u hu]
    unfold XF
    have : lap n (mE n es) (fun w => (List.replicate n (0 : Int)).getD w 0) u = lap n (mE n es) (fun _ => 0) u := lap_congr hu fun w _ => by
      show (List.replicate n (0 : Int)).getD w 0 = 0
      rw [List.getD_eq_getElem?_getD, List.getElem?_replicate]
      split <;> rfl
    rw [this]
    have h2 : lap n (mE n es) (fun _ => 0) u = 0 := by
      unfold lap
      rw [sumN_congr (g := fun _ => 0) (fun w _ => by simp), sumN_zero]
    rw [h2]; omega
  obtain ⟨a, a1, a2, a3⟩ := phase1I S R f3 hn (sumN (fun w => σ w + (List.replicate n (0 : Int)).getD w 0) n).toNat _ h0 (by have := inv1_sum h0; omega)
  obtain ⟨b, b1, b2, b3⟩ := phase1S S R f3 hn (sumN (fun w => σ w + (List.replicate n (0 : Int)).getD w 0) n).toNat _ h0 (by have := inv1_sum h0; omega)
  have two : ∀ s1, Inv1 n q σ s1 → (∀ v, v < n → v ≠ q → 0 ≤ XF n es D s1 v) → ∃ s2 : List Int, s2.length = n ∧ s2.getD q 0 = 0 ∧ (∀ w, w < n → -500000000000 ≤ s2.getD w 0 ∧ s2.getD w 0 ≤ 500000000000) ∧ Red n (mE n es) q (XF n es D s2) ∧
        Ev (fun k => impl_reduce.l1 k (q : Int) (XD es D s1) s1 n es) (XD es D s2, s2) ∧ Ev (fun k => spec_l05Reduce.l2 k D (q : Int) s1 (XD es D s1) n es) (XD es D s2, s2) := fun s1 h1 h2 =>
    phase2 S R f3 hn h1 h2 (sumN (fun w => 368440442340 - (s1.getD w 0 - s1.getD w 0)) n).toNat s1 h1.len h1.z (fun w _ => by omega) h2 (by
      have : 0 ≤ sumN (fun w => 368440442340 - (s1.getD w 0 - s1.getD w 0)) n := sumN_nonneg fun w _ => by omega
      omega)
  obtain ⟨s, s1, s2, s3, s4, s5, _⟩ := two a a1 a2
  obtain ⟨t, t1, t2, t3, t4, _, t5⟩ := two b b1 b2
  have hst : s = t := list_eq0 (by omega) fun u hu => by
    have := red_unique (m := mE n es) (D := fun v => D.getD v 0) (f := fun w => s.getD w 0) (g := fun w => t.getD w 0) G.nonneg S.q s4 t4 (by show s.getD q 0 = t.getD q 0; omega) u (by omega)
    exact this
  subst hst
  have hdl := S.len
  refine ⟨s, s1, s2, s3, s4, fun v hv => xd_xf S s1 (fun w hw => by have := s3 w hw; omega) v hv, xd_len n es D s he S.len (start64 S), ?_, ?_⟩
  · simp only [impl_reduce.f, copyI_eq D (by omega), Option.bind_some]
    refine ev_ift (by omega) (ev_ift (by omega) (Ev.bind (inDebt_ev D q (by omega)) ?_))
    rw [Int.toNat_natCast]
    have := a3 _ s5
    rw [hx0] at this
    exact this
  · simp only [spec_l05Reduce.f, Option.bind_some, List.length_nil, List.nil_append]
    refine ev_ift (by omega) (ev_ift (by omega) (ev_ift (by omega) ?_))
    rw [Int.toNat_natCast]
    have := b3 _ t5
    rw [hx0] at this
    exact this
theorem drawn_gr {m : Nat} {es : List S67} (g : GraphP m es) (h8 : es.length ≤ 8) : Gr m (mE m es) ∧ ∀ v, v < m → sumN (mE m es v) m ≤ 8 := by
  refine ⟨gr_of m es g, fun v hv => ?_⟩
  obtain ⟨f1, f2, f3, f4⟩ := edgesB_facts g.1
  have := val_le m v hv es (fun e he => f4 e he)
  omega
theorem red_same {m q : Nat} {es : List S67} {D E s t u : List Int} (S : Start m es D q) (hE : ∀ v, v < m → E.getD v 0 = XF m es D u v)
    (hs : s.getD q 0 = 0) (ht : t.getD q 0 = 0) (hr : Red m (mE m es) q (XF m es D s)) (hr' : Red m (mE m es) q (XF m es E t)) : ∀ v, v < m → XF m es E t v = XF m es D s v := by
  have G := gr_of m es S.g
  have e : ∀ v, v < m → XF m es E t v = D.getD v 0 - lap m (mE m es) (fun w => u.getD w 0 + t.getD w 0 - (u.getD q 0)) v := fun v hv => by
    have h1 := lap_sub m (mE m es) (fun w => u.getD w 0 + t.getD w 0) (fun _ => u.getD q 0) v
    have h2 := lap_add m (mE m es) (fun w => u.getD w 0) (fun w => t.getD w 0) v
    have h3 : lap m (mE m es) (fun _ => u.getD q 0) v = 0 := by
      unfold lap
      rw [sumN_congr (g := fun _ => 0) (fun w _ => by simp), sumN_zero]
    (try dsimp only at h1 h2)
    unfold XF
    rw [hE v hv]
    unfold XF
    omega
  have hr2 : Red m (mE m es) q (fun v => D.getD v 0 - lap m (mE m es) (fun w => u.getD w 0 + t.getD w 0 - (u.getD q 0)) v) := by
    refine ⟨fun v h1 h2 => by (try dsimp only); rw [← e v h1]; exact hr'.1 v h1 h2, fun A h1 h2 => ?_⟩
    obtain ⟨v, h3, h4⟩ := hr'.2 A h1 h2
    exact ⟨v, h3, by (try dsimp only); rw [← e v (h1 v h3).1]; exact h4⟩
  have hu := red_unique (m := mE m es) (D := fun v => D.getD v 0) (f := fun w => s.getD w 0) (g := fun w => u.getD w 0 + t.getD w 0 - (u.getD q 0)) G.nonneg S.q hr hr2 (by (try dsimp only); omega)
  intro v hv
  rw [e v hv]
  unfold XF
  rw [lap_congr hv hu]
end Go.Proofs.Ytbcfccdoffbncaa.Pure
end
section
namespace Go.Proofs.Ytbcfccdoffbncaa.P
open Go.RowKit Go.Proofs.YtbcfccdoffbncaaW.PrintWords Go.Proofs.YtbcfccdoffbncaaW.PrintLast Go.Proofs.YtbcfccdoffbncaaW.PrintMore
attribute [local go_sem] max2_int min2_int max_two min_two max_three min_three max_four min_four
set_option linter.unusedVariables false
set_option linter.unusedSimpArgs false
def spec_l05Ok.f (k : Nat) (a0_0 : Int) (l0_1 : List (S67)) (l1 : List Int) (a2 : Int) : Option (Bool) := (spec_DivisorOk.f k a0_0 l0_1 l1).bind fun t207 => (if t207 = true then ((spec_l01In.f a2 0 (wrap64 (a0_0 - 1))).bind fun t208 => (some t208)) else (some false))
end Go.Proofs.Ytbcfccdoffbncaa.P
end
section
set_option linter.unusedVariables false
set_option linter.unusedSimpArgs false
namespace Go.Proofs.Ytbcfccdoffbncaa.Pure
open Go.RowKit Go.Proofs.Ytbcfccdoffbncaa.P Go.Proofs.YtbcfccdoffbncaaW.PrintWords Go.Proofs.YtbcfccdoffbncaaW.PrintLast Go.Proofs.YtbcfccdoffbncaaW.PrintMore Go.Proofs.Ytbcfccdoffbncaa.Base Go.Proofs.Ytbcfccdoffbncaa.Bits Go.Proofs.Ytbcfccdoffbncaa.Loops
theorem copy_eq (l : List Int) (h : l.length < 17592186044416) : impl_copyInts.f l = some l := by
  unfold impl_copyInts.f
  rw [if_pos (by simpa using h)]; rfl
theorem impl_fired_ev (n : Nat) (es : List S67) (d s : List Int) (he : ∀ e ∈ es, okE n e) (hd : d.length = n) (hs : s.length = n) (hn : n ≤ 6) (hl : es.length < 4611686018427387904) (nn : Int) :
    Ev (fun k => impl_fired.f k nn es d s) (fireFrom es 0 s d) := by
  simp only [impl_fired.f, copy_eq d (by omega), Option.bind_some]
  have main : ∀ (rest : List Int) (i : Nat) (x : List Int), i ≤ s.length → s.drop i = rest → x.length = n → Ev (fun k => impl_fired.l0 k x s (s.length : Int) (i : Int) nn es) (fireFrom es i rest x) := by
    intro rest
    induction rest with
    | nil =>
      intro i x hi hdr hx
      have := drop_nil hdr
      refine ev1 fun k => ?_
      simp only [impl_fired.l0]
      rw [if_neg (by omega)]; rfl
    | cons t rest ih =>
      intro i x hi hdr hx
      have hlt := drop_lt hdr
      obtain ⟨K, hK⟩ := ih (i + 1) (es.foldl (stepF i t) x) (by omega) (drop_next hdr) (by
        have : ∀ (es : List S67) (x : List Int), (es.foldl (stepF i t) x).length = x.length := by
          intro es
          induction es with
          | nil => intro x; rfl
          | cons e es ih => intro x; rw [List.foldl_cons, ih, stepF_len]
        rw [this]; exact hx)
      obtain ⟨K', hK'⟩ := impl_fire_ev n es x i t he hx hn hl nn
      refine ⟨K + K' + 1, fun k hk => ?_⟩
      obtain ⟨m, rfl⟩ : ∃ m, k = m + 1 := ⟨k - 1, by omega⟩
      have h1 := hK m (by omega)
      have h2 := hK' m (by omega)
      dsimp only at h1 h2 ⊢
      simp only [impl_fired.l0, rd_drop hdr]
      rw [if_pos (by omega), if_pos (by omega), if_pos (by omega), h2, Option.bind_some, wrap_succ (by omega), h1]
      rfl
  exact main s 0 d (by omega) rfl hd
def ltE (y x : S67) : Prop := y.f0 < x.f0 ∨ (y.f0 = x.f0 ∧ y.f1 < x.f1)
instance (y x : S67) : Decidable (ltE y x) := by unfold ltE; infer_instance
def insE (e : S67) : List S67 → List S67
  | [] => [e]
  | x :: r => if ltE e x then e :: x :: r else x :: insE e r
theorem insE_mem (e x : S67) (es : List S67) : x ∈ insE e es ↔ x = e ∨ x ∈ es := by
  induction es with
  | nil => simp [insE]
  | cons y r ih =>
    simp only [insE]
    split
    · simp
    · simp only [List.mem_cons, ih]
      constructor
      · rintro (h | h | h)
        · exact Or.inr (Or.inl h)
        · exact Or.inl h
        · exact Or.inr (Or.inr h)
      · rintro (h | h | h)
        · exact Or.inr (Or.inl h)
        · exact Or.inl h
        · exact Or.inr (Or.inr h)
theorem insE_len (e : S67) (es : List S67) : (insE e es).length = es.length + 1 := by
  induction es with
  | nil => rfl
  | cons y r ih =>
    simp only [insE]
    split
    · simp
    · simp [ih]
theorem sorted_cons (x : S67) (r : List S67) : SortedE (x :: r) ↔ (∀ y, r.head? = some y → ¬ ltE y x) ∧ SortedE r := by
  constructor
  · intro h
    refine ⟨fun y hy => ?_, fun i hi => ?_⟩
    · cases r with
      | nil => cases hy
      | cons z t =>
        have := h 0 (by simp)
        simp only [List.head?_cons, Option.some.injEq] at hy
        subst hy
        exact this
    · exact h (i + 1) (by simp only [List.length_cons]; omega)
  · rintro ⟨h1, h2⟩ i hi
    cases i with
    | zero =>
      cases r with
      | nil => simp at hi
      | cons z t => exact h1 z rfl
    | succ i => exact h2 i (by simp only [List.length_cons] at hi; omega)
theorem insE_head (e : S67) (es : List S67) (y : S67) (h : (insE e es).head? = some y) : y = e ∨ es.head? = some y := by
  cases es with
  | nil => simp [insE] at h; exact Or.inl h.symm
  | cons x r =>
    simp only [insE] at h
    split at h
    · simp at h; exact Or.inl h.symm
    · simp at h; exact Or.inr (by simp [h])
theorem ltE_asymm {x y : S67} (h : ltE x y) : ¬ ltE y x := by unfold ltE at *; omega
theorem insE_sorted (e : S67) (es : List S67) (h : SortedE es) : SortedE (insE e es) := by
  induction es with
  | nil => intro i hi; simp [insE] at hi
  | cons x r ih =>
    have h' := (sorted_cons x r).1 h
    simp only [insE]
    split
    · rename_i c
      exact (sorted_cons e (x :: r)).2 ⟨fun y hy => by simp at hy; subst hy; exact ltE_asymm c, h⟩
    · rename_i c
      refine (sorted_cons x (insE e r)).2 ⟨fun y hy => ?_, ih h'.2⟩
      rcases insE_head e r y hy with rfl | hy
      · exact c
      · exact h'.1 y hy
theorem insE_graph {n : Int} {es : List S67} {e : S67} (h : GraphP n es) (hl : es.length ≠ 12) (he : 0 ≤ e.f0 ∧ e.f0 < e.f1 ∧ e.f1 < n) : GraphP n (insE e es) := by
  obtain ⟨f1, f2, f3, f4⟩ := edgesB_facts h.1
  refine ⟨?_, insE_sorted e es h.2.1, fun P h0 hP v hv hv' => h.2.2 P h0 (fun x hx => hP x ((insE_mem e x es).2 (Or.inr hx))) v hv hv'⟩
  simp only [edgesB, Bool.and_eq_true, decide_eq_true_eq, List.all_eq_true, insE_len]
  refine ⟨⟨⟨f1, f2⟩, by omega⟩, fun x hx => ?_⟩
  rcases (insE_mem e x es).1 hx with rfl | hx
  · exact ⟨⟨he.1, he.2.1⟩, he.2.2⟩
  · have := f4 x hx
    exact ⟨⟨this.1, this.2.1⟩, this.2.2⟩
theorem specIns_ev (n : Int) (es : List S67) (hl : es.length ≤ 100) (e0 e1 : Int) : Ev (fun k => spec_AddEdge.l0 k false es (es.length : Int) 0 e0 e1 n []) (n, insE ⟨e0, e1⟩ es, true) := by
  have done : ∀ (rest : List S67) (i : Nat) (acc : List S67), es.drop i = rest → i ≤ es.length → acc.length ≤ i + 1 → Ev (fun k => spec_AddEdge.l0 k true es (es.length : Int) (i : Int) e0 e1 n acc) (n, acc ++ rest, true) := by
    intro rest
    induction rest with
    | nil =>
      intro i acc hd hi ha
      have := drop_nil hd
      refine ev_succ ?_
      simp only [spec_AddEdge.l0, if_true, List.append_nil]
      exact ev_ifn (by omega) (Ev.now _)
    | cons x rest ih =>
      intro i acc hd hi ha
      have hlt := drop_lt hd
      have hx : rd_T67 es (i : Int) = x := by unfold rd_T67; rw [Int.toNat_natCast]; exact get_drop hd _
      have h1 := ih (i + 1) (acc ++ [x]) (drop_next hd) (by omega) (by simp; omega)
      rw [List.append_assoc, List.singleton_append] at h1
      refine ev_succ ?_
      simp only [spec_AddEdge.l0, if_true, hx]
      refine ev_ift (by omega) (ev_ift (by omega) (ev_ift (by omega) ?_))
      refine ev_succ ?_
      simp only [spec_AddEdge.j2, wrap_succ (show i < 4611686018427387904 by omega)]
      exact ev_iff (ev_ift (by omega) h1)
  have main : ∀ (rest : List S67) (i : Nat) (acc : List S67), es.drop i = rest → i ≤ es.length → acc.length ≤ i → Ev (fun k => spec_AddEdge.l0 k false es (es.length : Int) (i : Int) e0 e1 n acc) (n, acc ++ insE ⟨e0, e1⟩ rest, true) := by
    intro rest
    induction rest with
    | nil =>
      intro i acc hd hi ha
      have := drop_nil hd
      refine ev_succ ?_
      simp only [spec_AddEdge.l0, insE]
      exact ev_ifn (by omega) (ev_iff (ev_ift (by omega) (Ev.now _)))
    | cons x rest ih =>
      intro i acc hd hi ha
      have hlt := drop_lt hd
      have hx : rd_T67 es (i : Int) = x := by unfold rd_T67; rw [Int.toNat_natCast]; exact get_drop hd _
      refine ev_succ ?_
      simp only [spec_AddEdge.l0, hx]
      refine ev_ift (by omega) (ev_ift (by omega) (ev_ift (by omega) (ev_iff ?_)))
      have no : ¬ ltE ⟨e0, e1⟩ x → Ev (fun k => spec_AddEdge.j2 k false es (es.length : Int) (i : Int) false e0 e1 n acc x.f0 x.f1) (n, acc ++ insE ⟨e0, e1⟩ (x :: rest), true) := fun hc => by
        have h1 := ih (i + 1) (acc ++ [x]) (drop_next hd) (by omega) (by simp; omega)
        rw [List.append_assoc, List.singleton_append] at h1
        simp only [insE, if_neg hc]
        refine ev_succ ?_
        simp only [spec_AddEdge.j2, wrap_succ (show i < 4611686018427387904 by omega)]
        exact ev_iff (ev_ift (by omega) h1)
      have yes : ltE ⟨e0, e1⟩ x → Ev (fun k => spec_AddEdge.j2 k false es (es.length : Int) (i : Int) true e0 e1 n acc x.f0 x.f1) (n, acc ++ insE ⟨e0, e1⟩ (x :: rest), true) := fun hc => by
        have h1 := done rest (i + 1) (acc ++ [⟨e0, e1⟩] ++ [x]) (drop_next hd) (by omega) (by simp; omega)
        simp only [List.append_assoc, List.singleton_append] at h1
        simp only [insE, if_pos hc]
        refine ev_succ ?_
        simp only [spec_AddEdge.j2, wrap_succ (show i < 4611686018427387904 by omega), Option.bind_some, List.append_assoc, List.singleton_append]
        exact ev_ift trivial (ev_ift (by omega) (ev_ift (by simp; omega) h1))
      by_cases c1 : x.f0 > e0
      · exact ev_ift c1 (yes (Or.inl c1))
      · refine ev_ifn c1 ?_
        by_cases c2 : x.f0 = e0
        · refine ev_ift c2 ?_
          by_cases c3 : x.f1 > e1
          · rw [decide_eq_true c3]; exact yes (Or.inr ⟨c2.symm, c3⟩)
          · rw [decide_eq_false c3]; exact no (by rintro (h | h); exact c1 h; exact c3 h.2)
        · exact ev_ifn c2 (no (by rintro (h | h); exact c1 h; exact c2 h.1.symm))
  exact main es 0 [] (by simp) (by omega) (by simp)
theorem specAdd_ev (n : Int) (es : List S67) (a b : Int) (hl : es.length < 4611686018427387904) :
    (GraphP n es ∧ (0 ≤ a ∧ a < n) ∧ (0 ≤ b ∧ b < n) ∧ a ≠ b ∧ es.length ≠ 12 ∧ Ev (fun k => spec_AddEdge.f k n es a b) (n, insE ⟨mn a b, mx a b⟩ es, true) ∧ GraphP n (insE ⟨mn a b, mx a b⟩ es)) ∨
    (¬ (GraphP n es ∧ (0 ≤ a ∧ a < n) ∧ (0 ≤ b ∧ b < n) ∧ a ≠ b ∧ es.length ≠ 12) ∧ Ev (fun k => spec_AddEdge.f k n es a b) (0, [], false)) := by
  have hex : ∃ c : Bool, Ev (fun k => spec_GraphOk.f k n es) c ∧ (c = true ↔ GraphP n es) := by
    exact spec_graphOk_iff n es hl
  obtain ⟨g, h1, hg⟩ := hex
  have off : ∀ q : Bool, q = true → Ev (fun k => spec_AddEdge.j0 k a b q n es) (0, [], false) := fun q hq => ev_succ (by
    simp only [spec_AddEdge.j0]
    exact ev_ift hq (Ev.now _))
  simp only [spec_AddEdge.f, in_eq, Option.bind_some]
  cases g with
  | false => exact Or.inr ⟨(fun h => by have := hg.2 h.1; cases this), Ev.bind h1 (ev_iff (off _ rfl))⟩
  | true =>
    have hG := hg.1 rfl
    obtain ⟨f1, f2, f3, f4⟩ := edgesB_facts hG.1
    have ew : wrap64 (n - 1) = n - 1 := by unfold wrap64; omega
    rw [ew]
    by_cases ha : 0 ≤ a ∧ a ≤ n - 1
    · by_cases hb : 0 ≤ b ∧ b ≤ n - 1
      · rw [decide_eq_true ha, decide_eq_true hb]
        by_cases hab : a = b
        · exact Or.inr ⟨fun h => h.2.2.2.1 hab, Ev.bind h1 (ev_ift rfl (ev_ift rfl (ev_ift rfl (ev_ift hab (off _ rfl)))))⟩
        · by_cases h12 : es.length = 12
          · exact Or.inr ⟨fun h => h.2.2.2.2 h12, Ev.bind h1 (ev_ift rfl (ev_ift rfl (ev_ift rfl (ev_ifn hab (off _ (by simp [h12]))))))⟩
          · refine Or.inl ⟨hG, by omega, by omega, hab, h12, Ev.bind h1 (ev_ift rfl (ev_ift rfl (ev_ift rfl (ev_ifn hab (ev_succ ?_))))), insE_graph hG h12 ?_⟩
            · simp only [spec_AddEdge.j0]
              exact ev_ifn (by simp; omega) (specIns_ev n es (by omega) _ _)
            · show 0 ≤ mn a b ∧ mn a b < mx a b ∧ mx a b < n
              unfold mn mx
              omega
      · rw [decide_eq_true ha, decide_eq_false hb]
        exact Or.inr ⟨fun h => hb (by omega), Ev.bind h1 (ev_ift rfl (ev_ift rfl (ev_iff (off _ rfl))))⟩
    · rw [decide_eq_false ha]
      exact Or.inr ⟨fun h => ha (by omega), Ev.bind h1 (ev_ift rfl (ev_iff (off _ rfl)))⟩
end Go.Proofs.Ytbcfccdoffbncaa.Pure
end
section
set_option linter.unusedVariables false
set_option linter.unusedSimpArgs false
namespace Go.Proofs.Ytbcfccdoffbncaa.Pure
open Go.RowKit Go.Proofs.Ytbcfccdoffbncaa.P Go.Proofs.YtbcfccdoffbncaaW.PrintWords Go.Proofs.YtbcfccdoffbncaaW.PrintLast Go.Proofs.YtbcfccdoffbncaaW.PrintMore Go.Proofs.Ytbcfccdoffbncaa.Base Go.Proofs.Ytbcfccdoffbncaa.Loops
theorem and255 (y : Int) : 0 ≤ Go.bits .and .i64 y 255 ∧ Go.bits .and .i64 y 255 ≤ 255 := by
  unfold Go.bits
  dsimp only
  have h : (BitVec.ofInt IntKind.i64.bits y &&& BitVec.ofInt IntKind.i64.bits 255).toNat ≤ 255 := by
    rw [BitVec.toNat_and]
    exact Nat.le_trans Nat.and_le_right (by decide +kernel)
  rw [IntKind.wrap_i64]
  omega
theorem byte_ex (s : List Int) (hs : s.length < 4611686018427387904) (i h : Int) (hi : 0 ≤ i) : ∃ x i' h', spec_l01Byte.f s i h = some (x, i', h') ∧ 0 ≤ x ∧ x ≤ 255 ∧ 0 ≤ i' := by
  unfold spec_l01Byte.f
  by_cases c : i < (s.length : Int)
  · rw [if_pos c, if_pos hi]
    refine ⟨_, _, _, rfl, (and255 _).1, (and255 _).2, ?_⟩
    unfold wrap64; omega
  · rw [if_neg c]
    exact ⟨_, _, _, rfl, (and255 _).1, (and255 _).2, hi⟩
theorem below_ex (s : List Int) (hs : s.length < 4611686018427387904) (i h : Int) (hi : 0 ≤ i) (n : Int) (hn : 0 < n) (hn2 : n ≤ 256) : ∃ x i' h', spec_l01Below.f s i h n = some (x, i', h') ∧ 0 ≤ x ∧ x < n ∧ 0 ≤ i' := by
  obtain ⟨x, i', h', e, x0, _, hi'⟩ := byte_ex s hs i h hi
  unfold spec_l01Below.f
  rw [if_neg (by omega), if_pos hn2, e]
  simp only [Option.bind_some]
  rw [if_neg (by omega)]
  exact ⟨_, _, _, rfl, Int.tmod_nonneg _ x0, Int.tmod_lt_of_pos _ hn, hi'⟩
theorem new_ex (code : List Int) (hc : code.length < 4611686018427387904) : ∃ h, Ev (fun k => spec_l01New.f k code) (code, 0, h) := by
  have main : ∀ (d i : Nat) (h : Int), i + d = code.length → ∃ h', Ev (fun k => spec_l01New.l0 k code h (i : Int)) (code, 0, h') := by
    intro d
    induction d with
    | zero =>
      intro i h hi
      refine ⟨h, ev_succ ?_⟩
      simp only [spec_l01New.l0]
      exact ev_ifn (by omega) (Ev.now _)
    | succ d ih =>
      intro i h hi
      obtain ⟨h', hh⟩ := ih (i + 1) (Go.bits .and .i64 (wrap64 ((wrap64 ((wrap64 (h * 97)) + (wrap64 (rd code i)))) + 7)) 1073741823) (by omega)
      by_cases c : i < 4000
      · refine ⟨h', ev_succ ?_⟩
        simp only [spec_l01New.l0, wrap_succ (show i < 4611686018427387904 by omega)]
        exact ev_ift (by omega) (ev_ift (by omega) (ev_ift (by omega) hh))
      · refine ⟨h, ev_succ ?_⟩
        simp only [spec_l01New.l0]
        exact ev_ift (by omega) (ev_ifn (by omega) (Ev.now _))
  unfold spec_l01New.f
  exact main code.length 0 _ (by omega)
end Go.Proofs.Ytbcfccdoffbncaa.Pure
end
section
set_option linter.unusedVariables false
set_option linter.unusedSimpArgs false
namespace Go.Proofs.Ytbcfccdoffbncaa.Pure
open Go.RowKit Go.Proofs.Ytbcfccdoffbncaa.P Go.Proofs.YtbcfccdoffbncaaW.PrintWords Go.Proofs.YtbcfccdoffbncaaW.PrintLast Go.Proofs.YtbcfccdoffbncaaW.PrintMore Go.Proofs.Ytbcfccdoffbncaa.Base Go.Proofs.Ytbcfccdoffbncaa.Bits Go.Proofs.Ytbcfccdoffbncaa.Loops
def treeT (av : List Nat) : List S67 := (List.range av.length).map fun i : Nat => ⟨(av.getD i 0 : Int), ((i + 1 : Nat) : Int)⟩
def treeOk (av : List Nat) : Prop := ∀ i, i < av.length → av.getD i 0 ≤ i
def repE (n : Nat) (T : List S67) (a b : Nat) : List S67 := List.replicate (multI n T a b).toNat ⟨(a : Int), (b : Int)⟩
def rowE (n : Nat) (T : List S67) (a b d : Nat) : List S67 := (List.range' b d).flatMap fun b => repE n T a b
def allE (n : Nat) (T : List S67) (a d : Nat) : List S67 := (List.range' a d).flatMap fun a => rowE n T a (a + 1) (n - (a + 1))
theorem treeT_snoc (av : List Nat) (a : Nat) : treeT (av ++ [a]) = treeT av ++ [⟨(a : Int), ((av.length + 1 : Nat) : Int)⟩] := by
  unfold treeT
  rw [List.length_append, List.length_singleton, List.range_succ, List.map_append]
  congr 1
  · refine List.map_congr_left fun i hi => ?_
    have := List.mem_range.1 hi
    rw [List.getD_eq_getElem?_getD, List.getD_eq_getElem?_getD, List.getElem?_append_left this]
  · simp
def goodG (n : Nat) (es : List S67) : Bool := edgesB n es && ((List.range es.length).all fun i => decide (i + 1 < es.length → ¬ ltE (es.getD (i + 1) z67) (es.getD i z67))) && ((List.range n).all fun v => decide (v = 0) || es.any fun e => decide (e.f1 = (v : Int)) && decide (0 ≤ e.f0) && decide (e.f0 < e.f1))
theorem goodG_graph {n : Nat} {es : List S67} (h : goodG n es = true) : GraphP n es := by
  simp only [goodG, Bool.and_eq_true, List.all_eq_true, List.mem_range, decide_eq_true_eq, Bool.or_eq_true, List.any_eq_true] at h
  obtain ⟨⟨h1, h2⟩, h3⟩ := h
  refine ⟨h1, fun i hi => h2 i (by omega) hi, fun P h0 hP v hv0 hv => ?_⟩
  have main : ∀ (u : Nat), u < n → P u := by
    intro u
    induction u using Nat.strongRecOn with
    | _ u ih =>
      intro hu
      rcases h3 u hu with rfl | ⟨e, he, ⟨e1, e2⟩, e3⟩
      · exact h0
      · rw [← e1]
        refine (hP e he).1 ?_
        have := ih e.f0.toNat (by omega) (by omega)
        rwa [Int.toNat_of_nonneg e2] at this
  have := main v.toNat (by omega)
  rwa [Int.toNat_of_nonneg hv0] at this
def goodT (av : List Nat) : Bool := goodG (av.length + 1) (allE (av.length + 1) (treeT av) 0 (av.length + 1)) && decide ((allE (av.length + 1) (treeT av) 0 (av.length + 1)).length ≤ 4)
theorem good_all (av : List Nat) (h : treeOk av) (h1 : 1 ≤ av.length) (h4 : av.length ≤ 4) : goodT av = true := by
  have g1 : ∀ a : Fin 1, goodT [a.val] = true := by decide +kernel
  have g2 : ∀ a : Fin 1, ∀ b : Fin 2, goodT [a.val, b.val] = true := by decide +kernel
  have g3 : ∀ a : Fin 1, ∀ b : Fin 2, ∀ c : Fin 3, goodT [a.val, b.val, c.val] = true := by decide +kernel
  have g4 : ∀ a : Fin 1, ∀ b : Fin 2, ∀ c : Fin 3, ∀ d : Fin 4, goodT [a.val, b.val, c.val, d.val] = true := by decide +kernel
  match av, h1, h4 with
  | [a], _, _ => exact g1 ⟨a, by have := h 0 (by simp); simp at this; omega⟩
  | [a, b], _, _ => exact g2 ⟨a, by have := h 0 (by simp); simp at this; omega⟩ ⟨b, by have := h 1 (by simp); simp at this; omega⟩
  | [a, b, c], _, _ => exact g3 ⟨a, by have := h 0 (by simp); simp at this; omega⟩ ⟨b, by have := h 1 (by simp); simp at this; omega⟩ ⟨c, by have := h 2 (by simp); simp at this; omega⟩
  | [a, b, c, d], _, _ => exact g4 ⟨a, by have := h 0 (by simp); simp at this; omega⟩ ⟨b, by have := h 1 (by simp); simp at this; omega⟩ ⟨c, by have := h 2 (by simp); simp at this; omega⟩ ⟨d, by have := h 3 (by simp); simp at this; omega⟩
  | _ :: _ :: _ :: _ :: _ :: _, _, h4 => exact absurd h4 (by simp)
theorem good_graph (av : List Nat) (h : treeOk av) (h1 : 1 ≤ av.length) (h4 : av.length ≤ 4) : GraphP ((av.length + 1 : Nat) : Int) (allE (av.length + 1) (treeT av) 0 (av.length + 1)) ∧ (allE (av.length + 1) (treeT av) 0 (av.length + 1)).length ≤ 4 := by
  have g := good_all av h h1 h4
  simp only [goodT, Bool.and_eq_true, decide_eq_true_eq] at g
  exact ⟨goodG_graph g.1, g.2⟩
structure DrawnG (n : Int) (es : List S67) : Prop where
  g : GraphP n es
  lo : 2 ≤ n
  hi : n ≤ 5
  len : es.length ≤ 8
theorem drawMore (s : List Int) (hs : s.length < 4611686018427387904) (n : Nat) (h2 : 2 ≤ n) (h5 : n ≤ 5) : ∀ (c : Nat) (i h : Int) (es : List S67), 0 ≤ i → GraphP n es → es.length + c ≤ 8 →
    ∃ es' i' h', Ev (fun k => spec_l02Draw.l4 k (n : Int) (c : Int) s i h (n : Int) es) ((n : Int), es', i', h') ∧ DrawnG n es' ∧ 0 ≤ i' := by
  intro c
  induction c with
  | zero =>
    intro i h es hi hg hl
    refine ⟨es, i, h, ev_succ ?_, ⟨hg, by omega, by omega, by omega⟩, hi⟩
    simp only [spec_l02Draw.l4]
    exact ev_ifn (by omega) (Ev.now _)
  | succ c ih =>
    intro i h es hi hg hl
    obtain ⟨x, i1, h1, e1, x0, x1, hi1⟩ := below_ex s hs i h hi n (by omega) (by omega)
    obtain ⟨y, i2, h2', e2, y0, y1, hi2⟩ := below_ex s hs i1 h1 hi1 (wrap64 ((n : Int) - 1)) (by unfold wrap64; omega) (by unfold wrap64; omega)
    have ew : wrap64 (((c + 1 : Nat) : Int) - 1) = (c : Int) := by unfold wrap64; omega
    rcases specAdd_ev n es x (Int.tmod (wrap64 ((wrap64 (x + 1)) + y)) n) (by omega) with ⟨_, _, _, _, h12, he, hg'⟩ | ⟨_, he⟩
    · obtain ⟨es', i', h', r1, r2, r3⟩ := ih i2 h2' _ hi2 hg' (by rw [insE_len]; omega)
      refine ⟨es', i', h', ev_succ ?_, r2, r3⟩
      simp only [spec_l02Draw.l4, e1, e2, Option.bind_some, ew]
      refine ev_ift (by omega) (ev_ifn (by omega) ?_)
      refine Ev.bind he ?_
      exact ev_ift rfl r1
    · obtain ⟨es', i', h', r1, r2, r3⟩ := ih i2 h2' es hi2 hg (by omega)
      refine ⟨es', i', h', ev_succ ?_, r2, r3⟩
      simp only [spec_l02Draw.l4, e1, e2, Option.bind_some, ew]
      refine ev_ift (by omega) (ev_ifn (by omega) ?_)
      refine Ev.bind he ?_
      exact ev_iff r1
section
variable (n : Nat) (s : List Int) (i h : Int) (T : List S67) (hT : T.length ≤ 4)
theorem draw3 (a b : Nat) (acc : List S67) (r : Int × List S67 × Int × Int) : ∀ (c : Nat) (acc : List S67), acc.length + c ≤ 1000 → Ev (fun k => spec_l02Draw.l2 k (n : Int) (a : Int) (wrap64 ((b : Int) + 1)) s i h (n : Int) T (n : Int) (acc ++ List.replicate c ⟨(a : Int), (b : Int)⟩)) r →
    Ev (fun k => spec_l02Draw.l3 k (n : Int) (a : Int) (b : Int) (c : Int) s i h (n : Int) T (n : Int) acc) r := by
  intro c
  induction c with
  | zero =>
    intro acc ha hr
    rw [List.replicate_zero, List.append_nil] at hr
    refine ev_succ ?_
    simp only [spec_l02Draw.l3]
    exact ev_ifn (by omega) hr
  | succ c ih =>
    intro acc ha hr
    have h1 := ih (acc ++ [⟨(a : Int), (b : Int)⟩]) (by simp; omega) (by rw [List.replicate_succ] at hr; simpa using hr)
    have ew : wrap64 (((c + 1 : Nat) : Int) - 1) = (c : Int) := by unfold wrap64; omega
    refine ev_succ ?_
    simp only [spec_l02Draw.l3, ew]
    exact ev_ift (by omega) (ev_ift (by omega) h1)
end
theorem multI_le (n : Int) (T : List S67) (a b : Int) : 0 ≤ multI n T a b ∧ multI n T a b ≤ T.length := by
  unfold multI
  split
  · unfold multN
    have := List.countP_le_length (p := fun e : S67 => decide (e.f0 = mn a b) && decide (e.f1 = mx a b)) (l := T)
    omega
  · omega
theorem rowE_succ (n : Nat) (T : List S67) (a b d : Nat) : rowE n T a b (d + 1) = repE n T a b ++ rowE n T a (b + 1) d := by
  unfold rowE
  rw [List.range'_succ, List.flatMap_cons]
theorem allE_succ (n : Nat) (T : List S67) (a d : Nat) : allE n T a (d + 1) = rowE n T a (a + 1) (n - (a + 1)) ++ allE n T (a + 1) d := by
  unfold allE
  rw [List.range'_succ, List.flatMap_cons]
theorem repE_len (n : Nat) (T : List S67) (hT : T.length ≤ 4) (a b : Nat) : (repE n T a b).length ≤ 4 := by
  have := multI_le n T a b
  unfold repE
  rw [List.length_replicate]
  omega
theorem rowE_len (n : Nat) (T : List S67) (hT : T.length ≤ 4) (a : Nat) : ∀ d b, (rowE n T a b d).length ≤ 4 * d := by
  intro d
  induction d with
  | zero => intro b; simp [rowE]
  | succ d ih =>
    intro b
    rw [rowE_succ, List.length_append]
    have := ih (b + 1)
    have := repE_len n T hT a b
    omega
theorem draw2 (n : Nat) (s : List Int) (i h : Int) (T : List S67) (hT : T.length ≤ 4) (hn : n ≤ 5) (a : Nat) (r : Int × List S67 × Int × Int) : ∀ (d b : Nat) (acc : List S67), b + d = n → acc.length + 4 * d ≤ 900 →
    Ev (fun k => spec_l02Draw.l1 k (n : Int) (wrap64 ((a : Int) + 1)) s i h (n : Int) T (n : Int) (acc ++ rowE n T a b d)) r → Ev (fun k => spec_l02Draw.l2 k (n : Int) (a : Int) (b : Int) s i h (n : Int) T (n : Int) acc) r := by
  intro d
  induction d with
  | zero =>
    intro b acc hb hl hr
    have e : rowE n T a b 0 = [] := rfl
    rw [e, List.append_nil] at hr
    refine ev_succ ?_
    simp only [spec_l02Draw.l2]
    exact ev_ifn (by omega) hr
  | succ d ih =>
    intro b acc hb hl hr
    have hm := multI_le n T a b
    have hc : ((multI n T a b).toNat : Int) = multI n T a b := Int.toNat_of_nonneg hm.1
    have me := spec_mult_ev n T (by omega) a b
    rw [← hc] at me
    rw [rowE_succ, ← List.append_assoc] at hr
    have h1 := ih (b + 1) (acc ++ repE n T a b) (by omega) (by have := repE_len n T hT a b; rw [List.length_append]; omega) hr
    rw [← wrap_succ (show b < 4611686018427387904 by omega)] at h1
    have h3 := draw3 n s i h T a b [] r (multI n T a b).toNat acc (by omega) h1
    refine ev_succ ?_
    simp only [spec_l02Draw.l2]
    exact ev_ift (by omega) (Ev.bind me h3)
theorem draw1 (n : Nat) (s : List Int) (hs : s.length < 4611686018427387904) (i h : Int) (hi : 0 ≤ i) (T : List S67) (hT : T.length ≤ 4) (h2 : 2 ≤ n) (hn : n ≤ 5) : ∀ (d a : Nat) (acc : List S67), a + d = n → acc.length + 20 * d ≤ 500 →
    GraphP n (acc ++ allE n T a d) → (acc ++ allE n T a d).length ≤ 4 → ∃ es' i' h', Ev (fun k => spec_l02Draw.l1 k (n : Int) (a : Int) s i h (n : Int) T (n : Int) acc) ((n : Int), es', i', h') ∧ DrawnG n es' ∧ 0 ≤ i' := by
  intro d
  induction d with
  | zero =>
    intro a acc ha hl hg h4
    have e : allE n T a 0 = [] := rfl
    rw [e, List.append_nil] at hg h4
    obtain ⟨x, i1, h1, e1, x0, x1, hi1⟩ := below_ex s hs i h hi 5 (by omega) (by omega)
    obtain ⟨es', i', h', r1, r2, r3⟩ := drawMore s hs n h2 hn x.toNat i1 h1 acc hi1 hg (by omega)
    rw [Int.toNat_of_nonneg x0] at r1
    refine ⟨es', i', h', ev_succ ?_, r2, r3⟩
    simp only [spec_l02Draw.l1, e1, Option.bind_some]
    exact ev_ifn (by omega) r1
  | succ d ih =>
    intro a acc ha hl hg h4
    rw [allE_succ, ← List.append_assoc] at hg h4
    have hrl := rowE_len n T hT a (n - (a + 1)) (a + 1)
    obtain ⟨es', i', h', r1, r2, r3⟩ := ih (a + 1) (acc ++ rowE n T a (a + 1) (n - (a + 1))) (by omega) (by rw [List.length_append]; omega) hg h4
    refine ⟨es', i', h', ev_succ ?_, r2, r3⟩
    rw [← wrap_succ (show a < 4611686018427387904 by omega)] at r1
    have hd := draw2 n s i h T hT hn a _ (n - (a + 1)) (a + 1) acc (by omega) (by omega) r1
    simp only [spec_l02Draw.l1, wrap_succ (show a < 4611686018427387904 by omega)]
    exact ev_ift (by omega) hd
theorem treeT_len (av : List Nat) : (treeT av).length = av.length := by simp [treeT]
theorem draw0 (n : Nat) (s : List Int) (hs : s.length < 4611686018427387904) (h2 : 2 ≤ n) (hn : n ≤ 5) : ∀ (d : Nat) (av : List Nat) (i h : Int), 0 ≤ i → av.length + 1 + d = n → treeOk av →
    ∃ es' i' h', Ev (fun k => spec_l02Draw.l0 k (n : Int) ((av.length + 1 : Nat) : Int) s i h ((av.length + 1 : Nat) : Int) (treeT av)) ((n : Int), es', i', h') ∧ DrawnG n es' ∧ 0 ≤ i' := by
  intro d
  induction d with
  | zero =>
    intro av i h hi ha ht
    obtain rfl : av.length + 1 = n := by omega
    obtain ⟨g1, g2⟩ := good_graph av ht (by omega) (by omega)
    obtain ⟨es', i', h', r1, r2, r3⟩ := draw1 (av.length + 1) s hs i h hi (treeT av) (by rw [treeT_len]; omega) h2 hn (av.length + 1) 0 [] (by omega) (by simp; omega) g1 g2
    refine ⟨es', i', h', ev_succ ?_, r2, r3⟩
    simp only [spec_l02Draw.l0]
    exact ev_ifn (by omega) r1
  | succ d ih =>
    intro av i h hi ha ht
    obtain ⟨x, i1, h1, e1, x0, x1, hi1⟩ := below_ex s hs i h hi ((av.length + 1 : Nat) : Int) (by omega) (by omega)
    obtain ⟨es', i', h', r1, r2, r3⟩ := ih (av ++ [x.toNat]) i1 h1 hi1 (by simp; omega) (fun j hj => by
      rw [List.length_append, List.length_singleton] at hj
      by_cases c : j < av.length
      · rw [List.getD_eq_getElem?_getD, List.getElem?_append_left c, ← List.getD_eq_getElem?_getD]
        exact ht j c
      · obtain rfl : j = av.length := by omega
        simp
        omega)
    refine ⟨es', i', h', ev_succ ?_, r2, r3⟩
    rw [treeT_snoc, Int.toNat_of_nonneg x0, List.length_append, List.length_singleton, ← wrap_succ (show av.length + 1 < 4611686018427387904 by omega)] at r1
    simp only [spec_l02Draw.l0, e1, Option.bind_some]
    have hl := treeT_len av
    exact ev_ift (by omega) (ev_ift (by omega) r1)
theorem makeGraph_ex (code : List Int) (hc : code.length < 4611686018427387904) : ∃ n es, Ev (fun k => spec_MakeGraph.f k code) (n, es) ∧ DrawnG n es := by
  obtain ⟨h, hn⟩ := new_ex code hc
  obtain ⟨t, i1, h1, e1, t0, t1, hi1⟩ := below_ex code hc 0 h (by omega) (wrap64 (5 - 1)) (by unfold wrap64; omega) (by unfold wrap64; omega)
  have ew : wrap64 (5 - 1) = 4 := by unfold wrap64; omega
  rw [ew] at e1 t1
  obtain ⟨es', i', h', r1, r2, r3⟩ := draw0 (2 + t.toNat) code hc (by omega) (by omega) (1 + t.toNat) [] i1 h1 hi1 (by simp; omega) (fun j hj => by simp at hj)
  have et : wrap64 (2 + t) = ((2 + t.toNat : Nat) : Int) := by unfold wrap64; omega
  refine ⟨_, es', ?_, r2⟩
  simp only [spec_MakeGraph.f, spec_l02Graph.f, spec_l02Draw.f]
  refine Ev.bind hn ?_
  have d1 : Ev (fun k => (spec_l01Below.f code 0 h (wrap64 (5 - 1))).bind fun bt => spec_l02Draw.l0 k (wrap64 (2 + bt.1)) 1 code bt.2.1 bt.2.2 1 []) (((2 + t.toNat : Nat) : Int), es', i', h') := by
    simp only [ew, e1, Option.bind_some, et]
    exact r1
  exact Ev.bind (Ev.bind d1 (Ev.now _)) (Ev.now _)
end Go.Proofs.Ytbcfccdoffbncaa.Pure
end
section
set_option linter.unusedVariables false
set_option linter.unusedSimpArgs false
namespace Go.Proofs.Ytbcfccdoffbncaa.Pure
open Go.RowKit Go.Proofs.Ytbcfccdoffbncaa.P Go.Proofs.YtbcfccdoffbncaaW.PrintWords Go.Proofs.YtbcfccdoffbncaaW.PrintLast Go.Proofs.YtbcfccdoffbncaaW.PrintMore Go.Proofs.Ytbcfccdoffbncaa.Base Go.Proofs.Ytbcfccdoffbncaa.Reduce Go.Proofs.Ytbcfccdoffbncaa.Loops Go.Proofs.Ytbcfccdoffbncaa.Bits
theorem start_div {m q : Nat} {es : List S67} {D : List Int} (S : Start m es D q) : DivP m es D := by
  refine ⟨S.g, by have := S.len; omega, ?_⟩
  simp only [allB, List.all_eq_true, decide_eq_true_eq]
  intro x hx
  obtain ⟨i, hi, rfl⟩ := List.getElem_of_mem hx
  have := S.b i
  rw [List.getD_eq_getElem?_getD, List.getElem?_eq_getElem hi] at this
  exact this
theorem start_ok {m q : Nat} {es : List S67} {D : List Int} (S : Start m es D q) : Ev (fun k => impl_GraphOk.f k m es) true ∧ Ev (fun k => impl_DivisorOk.f k m es D) true ∧ Ev (fun k => impl_isVertex.f k m es q) true := by
  have f := edgesB_facts S.g.1
  have hl := S.len
  obtain ⟨g, h1, _, hg⟩ := graphOk_both m es (by omega)
  obtain ⟨b, h2, _, hb⟩ := divOk_both m es D (by omega) (by omega)
  have hgt := hg.2 S.g
  have hbt := hb.2 (start_div S)
  subst hgt hbt
  refine ⟨h1, h2, ?_⟩
  simp only [impl_isVertex.f, within_eq, Option.bind_some]
  have ew : wrap64 ((m : Int) - 1) = (m : Int) - 1 := by unfold wrap64; omega
  have hq := S.q
  rw [ew, decide_eq_true (show (0 : Int) ≤ (q : Int) ∧ (q : Int) ≤ (m : Int) - 1 by omega)]
  exact Ev.bind h1 (ev_ift rfl (Ev.now _))
theorem fireV {m q : Nat} {es : List S67} {D s : List Int} (S : Start m es D q) (hs : s.length = m) (hb : ∀ u : Nat, u < m → -100000 ≤ s.getD u 0 ∧ s.getD u 0 ≤ 100000) :
    Ev (fun k => impl_FireScript.f k m es D s) (XD es D s, true) ∧ Ev (fun k => impl_ScriptOk.f k m es s) true := by
  obtain ⟨h1, h2, h3⟩ := start_ok S
  obtain ⟨f1, f2, f3, f4⟩ := edgesB_facts S.g.1
  have hl := S.len
  have ha : allB s (-100000) 100000 = true := by
    simp only [allB, List.all_eq_true, decide_eq_true_eq]
    intro x hx
    obtain ⟨i, hi, rfl⟩ := List.getElem_of_mem hx
    have := hb i (by omega)
    rw [List.getD_eq_getElem?_getD, List.getElem?_eq_getElem hi] at this
    exact this
  have aw := allWithin_ev s (-100000) 100000 (by omega)
  rw [ha] at aw
  have sk : Ev (fun k => impl_ScriptOk.f k m es s) true := by
    simp only [impl_ScriptOk.f]
    exact Ev.bind h1 (ev_ift rfl (ev_ift (by omega) (Ev.bind aw (Ev.now _))))
  have hf := impl_fired_ev m es D s f4 hl hs (by omega) (by omega) m
  rw [fired_same m es D s f4 hl hs (start64 S)] at hf
  refine ⟨?_, sk⟩
  simp only [impl_FireScript.f]
  exact Ev.bind h2 (ev_ift rfl (Ev.bind sk (ev_ift rfl (Ev.bind hf (Ev.now _)))))
theorem lap_small {m : Nat} {es : List S67} (g : GraphP m es) (h8 : es.length ≤ 8) {s : Nat → Int} {B : Int} (hB : 0 ≤ B) (hs : ∀ u, u < m → -B ≤ s u ∧ s u ≤ B) (v : Nat) (hv : v < m) : -(16 * B) ≤ lap m (mE m es) s v ∧ lap m (mE m es) s v ≤ 16 * B := by
  obtain ⟨G, hval⟩ := drawn_gr g h8
  have a := hval v hv
  have h1 : lap m (mE m es) s v ≤ sumN (fun w => mE m es v w * (2 * B)) m := by
    unfold lap
    refine sumN_le fun w hw => Int.mul_le_mul_of_nonneg_left ?_ (G.nonneg v w)
    have := hs v hv
    have := hs w hw
    omega
  have h2 : sumN (fun w => mE m es v w * (-(2 * B))) m ≤ lap m (mE m es) s v := by
    unfold lap
    refine sumN_le fun w hw => Int.mul_le_mul_of_nonneg_left ?_ (G.nonneg v w)
    have := hs v hv
    have := hs w hw
    omega
  rw [sumN_mul'] at h1 h2
  have h3 : sumN (mE m es v) m * (2 * B) ≤ 8 * (2 * B) := Int.mul_le_mul_of_nonneg_right a (by omega)
  rw [Int.mul_neg] at h2
  omega
theorem start_fired {m q : Nat} {es : List S67} {D u : List Int} (S : Start m es D q) (h8 : es.length ≤ 8) (hD : ∀ v : Nat, -2 ≤ D.getD v 0 ∧ D.getD v 0 ≤ 6) (hu : u.length = m) (hb : ∀ v : Nat, -3 ≤ u.getD v 0 ∧ u.getD v 0 ≤ 3) :
    Start m es (XD es D u) q ∧ (XD es D u).length = m ∧ ∀ v, v < m → (XD es D u).getD v 0 = XF m es D u v := by
  have he := (edgesB_facts S.g.1).2.2.2
  have hlen := xd_len m es D u he S.len (start64 S)
  have hx : ∀ v, v < m → (XD es D u).getD v 0 = XF m es D u v := fun v hv => xd_xf S hu (fun w _ => by have := hb w; omega) v hv
  refine ⟨⟨S.g, S.q, hlen, fun v => getD_all hlen (by omega) (fun w hw => ?_) v⟩, hlen, hx⟩
  rw [hx w hw]
  have a := lap_small S.g h8 (B := 3) (by omega) (fun u _ => hb u) w hw
  have b := hD w
  unfold XF
  omega
end Go.Proofs.Ytbcfccdoffbncaa.Pure
end
section
set_option linter.unusedVariables false
set_option linter.unusedSimpArgs false
namespace Go.Proofs.Ytbcfccdoffbncaa.Pure
open Go.RowKit Go.Proofs.Ytbcfccdoffbncaa.P Go.Proofs.YtbcfccdoffbncaaW.PrintWords Go.Proofs.YtbcfccdoffbncaaW.PrintLast Go.Proofs.YtbcfccdoffbncaaW.PrintMore Go.Proofs.Ytbcfccdoffbncaa.Base Go.Proofs.Ytbcfccdoffbncaa.Loops
theorem sameL_ev (a : List Int) (ha : a.length < 4611686018427387904) : Ev (fun k => laws_same.f k a a) true := by
  have main : ∀ (d i : Nat), i + d = a.length → Ev (fun k => laws_same.l0 k a a (a.length : Int) (i : Int)) true := by
    intro d
    induction d with
    | zero =>
      intro i hi
      refine ev_succ ?_
      simp only [laws_same.l0]
      exact ev_ifn (by omega) (Ev.now _)
    | succ d ih =>
      intro i hi
      have h1 := ih (i + 1) (by omega)
      refine ev_succ ?_
      simp only [laws_same.l0, wrap_succ (show i < 4611686018427387904 by omega)]
      exact ev_ift (by omega) (ev_ift (by omega) (ev_ift (by omega) (ev_ift (by omega) (ev_ift trivial h1))))
  simp only [laws_same.f]
  exact ev_ift trivial (main a.length 0 (by omega))
theorem l21New_ex (code : List Int) (hc : code.length < 4611686018427387904) (n : Nat) (hn : n < 1000) : ∃ i h, Ev (fun k => spec_l21New.f k code (n : Int)) (code, i, h) ∧ 0 ≤ i := by
  obtain ⟨h, hh⟩ := new_ex code hc
  have main : ∀ (d j : Nat) (i h : Int), 0 ≤ i → j + d = n → ∃ i' h', Ev (fun k => spec_l21New.l0 k (n : Int) (j : Int) code i h) (code, i', h') ∧ 0 ≤ i' := by
    intro d
    induction d with
    | zero =>
      intro j i h hi hj
      refine ⟨i, h, ev_succ ?_, hi⟩
      simp only [spec_l21New.l0]
      exact ev_ifn (by omega) (Ev.now _)
    | succ d ih =>
      intro j i h hi hj
      obtain ⟨x, i1, h1, e1, _, _, hi1⟩ := byte_ex code hc i h hi
      obtain ⟨i', h', r1, r2⟩ := ih (j + 1) i1 h1 hi1 (by omega)
      refine ⟨i', h', ev_succ ?_, r2⟩
      simp only [spec_l21New.l0, e1, Option.bind_some, wrap_succ (show j < 4611686018427387904 by omega)]
      exact ev_ift (by omega) r1
  obtain ⟨i', h', r1, r2⟩ := main n 0 0 h (by omega) (by omega)
  exact ⟨i', h', by simp only [spec_l21New.f]; exact Ev.bind hh r1, r2⟩
theorem snoc_b {x : List Int} {a : Int} {lo hi : Int} (h : ∀ v ∈ x, lo ≤ v ∧ v ≤ hi) (ha : lo ≤ a ∧ a ≤ hi) : ∀ v ∈ x ++ [a], lo ≤ v ∧ v ≤ hi := by
  intro v hv
  rcases List.mem_append.1 hv with h' | h'
  · exact h v h'
  · rw [List.mem_singleton.1 h']; exact ha
theorem getD_b {x : List Int} {lo hi : Int} (h : ∀ v ∈ x, lo ≤ v ∧ v ≤ hi) (h0 : lo ≤ 0) (h1 : 0 ≤ hi) (u : Nat) : lo ≤ x.getD u 0 ∧ x.getD u 0 ≤ hi := by
  rw [List.getD_eq_getElem?_getD]
  rcases Nat.lt_or_ge u x.length with hu | hu
  · rw [List.getElem?_eq_getElem hu]; exact h _ (List.getElem_mem hu)
  · rw [List.getElem?_eq_none hu]; exact ⟨h0, h1⟩
theorem makeDivisor_ex (code : List Int) (hc : code.length < 4611686018427387904) (n : Nat) (hn : n < 1000) (m : Nat) (hm : m ≤ 6) (es : List S67) :
    ∃ d : List Int, Ev (fun k => spec_MakeDivisor.f k code (n : Int) (m : Int) es) d ∧ d.length = m ∧ ∀ u : Nat, -2 ≤ d.getD u 0 ∧ d.getD u 0 ≤ 6 := by
  obtain ⟨i, h, e0, hi⟩ := l21New_ex code hc n hn
  have main : ∀ (d j : Nat) (i h : Int) (x : List Int), 0 ≤ i → j + d = m → x.length = j → (∀ v ∈ x, -2 ≤ v ∧ v ≤ 6) → ∃ r i' h', Ev (fun k => spec_l04Draw.l0 k x (j : Int) code i h (m : Int) es) (r, i', h') ∧ r.length = m ∧ ∀ v ∈ r, -2 ≤ v ∧ v ≤ 6 := by
    intro d
    induction d with
    | zero =>
      intro j i h x hi hj hx hb
      refine ⟨x, i, h, ev_succ ?_, by omega, hb⟩
      simp only [spec_l04Draw.l0]
      exact ev_ifn (by omega) (Ev.now _)
    | succ d ih =>
      intro j i h x hi hj hx hb
      obtain ⟨a, i1, h1, e1, a0, a1, hi1⟩ := below_ex code hc i h hi 7 (by omega) (by omega)
      obtain ⟨b, i2, h2, e2, b0, b1, hi2⟩ := below_ex code hc i1 h1 hi1 7 (by omega) (by omega)
      have hp : spec_l01Pick.f code i1 h1 [0, 1, 2, (-1), 3, (-2), a] = some (rd [0, 1, 2, (-1), 3, (-2), a] b, i2, h2) := by
        unfold spec_l01Pick.f
        rw [show (([0, 1, 2, (-1), 3, (-2), a] : List Int).length : Int) = 7 from rfl, e2]
        simp only [Option.bind_some]
        rw [if_pos b0, if_pos b1]
      have hv : -2 ≤ rd [0, 1, 2, (-1), 3, (-2), a] b ∧ rd [0, 1, 2, (-1), 3, (-2), a] b ≤ 6 := by
        have : b = 0 ∨ b = 1 ∨ b = 2 ∨ b = 3 ∨ b = 4 ∨ b = 5 ∨ b = 6 := by omega
        rcases this with rfl | rfl | rfl | rfl | rfl | rfl | rfl
        · show -2 ≤ (0 : Int) ∧ (0 : Int) ≤ 6; omega
        · show -2 ≤ (1 : Int) ∧ (1 : Int) ≤ 6; omega
        · show -2 ≤ (2 : Int) ∧ (2 : Int) ≤ 6; omega
        · show -2 ≤ (-1 : Int) ∧ (-1 : Int) ≤ 6; omega
        · show -2 ≤ (3 : Int) ∧ (3 : Int) ≤ 6; omega
        · show -2 ≤ (-2 : Int) ∧ (-2 : Int) ≤ 6; omega
        · show -2 ≤ a ∧ a ≤ 6; omega
      obtain ⟨r, i', h', r1, r2, r3⟩ := ih (j + 1) i2 h2 (x ++ [rd [0, 1, 2, (-1), 3, (-2), a] b]) hi2 (by omega) (by simp [hx]) (snoc_b hb hv)
      refine ⟨r, i', h', ev_succ ?_, r2, r3⟩
      simp only [spec_l04Draw.l0, e1, hp, Option.bind_some, wrap_succ (show j < 4611686018427387904 by omega)]
      exact ev_ift (by omega) (ev_ift (by omega) r1)
  obtain ⟨r, i', h', r1, r2, r3⟩ := main m 0 i h [] hi (by omega) rfl (fun v hv => by cases hv)
  refine ⟨r, ?_, r2, fun u => getD_b r3 (by omega) (by omega) u⟩
  simp only [spec_MakeDivisor.f, spec_l04Draw.f]
  refine Ev.bind e0 ?_
  exact Ev.bind r1 (Ev.now _)
theorem makeScript_ex (code : List Int) (hc : code.length < 4611686018427387904) (n : Nat) (hn : n < 1000) (m : Nat) (hm : m ≤ 6) (es : List S67) :
    ∃ d : List Int, Ev (fun k => spec_MakeScript.f k code (n : Int) (m : Int) es) d ∧ d.length = m ∧ ∀ u : Nat, -3 ≤ d.getD u 0 ∧ d.getD u 0 ≤ 3 := by
  obtain ⟨i, h, e0, hi⟩ := l21New_ex code hc n hn
  have main : ∀ (d j : Nat) (i h : Int) (x : List Int), 0 ≤ i → j + d = m → x.length = j → (∀ v ∈ x, -3 ≤ v ∧ v ≤ 3) → ∃ r, Ev (fun k => spec_MakeScript.l0 k x (j : Int) (m : Int) es code i h) r ∧ r.length = m ∧ ∀ v ∈ r, -3 ≤ v ∧ v ≤ 3 := by
    intro d
    induction d with
    | zero =>
      intro j i h x hi hj hx hb
      refine ⟨x, ev_succ ?_, by omega, hb⟩
      simp only [spec_MakeScript.l0]
      exact ev_ifn (by omega) (Ev.now _)
    | succ d ih =>
      intro j i h x hi hj hx hb
      obtain ⟨a, i1, h1, e1, a0, a1, hi1⟩ := below_ex code hc i h hi 7 (by omega) (by omega)
      obtain ⟨r, r1, r2, r3⟩ := ih (j + 1) i1 h1 (x ++ [wrap64 (a - 3)]) hi1 (by omega) (by simp [hx]) (snoc_b hb (by unfold wrap64; omega))
      refine ⟨r, ev_succ ?_, r2, r3⟩
      simp only [spec_MakeScript.l0, e1, Option.bind_some, wrap_succ (show j < 4611686018427387904 by omega)]
      exact ev_ift (by omega) (ev_ift (by omega) r1)
  obtain ⟨r, r1, r2, r3⟩ := main m 0 i h [] hi (by omega) rfl (fun v hv => by cases hv)
  refine ⟨r, ?_, r2, fun u => getD_b r3 (by omega) (by omega) u⟩
  simp only [spec_MakeScript.f]
  refine Ev.bind e0 ?_
  exact r1
end Go.Proofs.Ytbcfccdoffbncaa.Pure
end
section
namespace Go.Proofs.Ytbcfccdoffbncaa.P
open Go.RowKit Go.Proofs.YtbcfccdoffbncaaW.PrintWords Go.Proofs.YtbcfccdoffbncaaW.PrintLast Go.Proofs.YtbcfccdoffbncaaW.PrintMore
attribute [local go_sem] max2_int min2_int max_two min_two max_three min_three max_four min_four
set_option linter.unusedVariables false
set_option linter.unusedSimpArgs false
def spec_DegreeOf.l0 : Nat → Int → List Int → Int → Int → Option (Int)
 | 0, _, _, _, _ => none
 | k + 1, x3, x6, x7, x8 => if x8 < x7 then (if 0 ≤ x8 then (if x8 < (x6.length : Int) then (spec_DegreeOf.l0 k (wrap64 (x3 + (rd x6 x8))) x6 x7 (wrap64 (x8 + 1))) else (none)) else (none)) else (some x3)
def spec_DegreeOf.f (k : Nat) (l0 : List Int) : Option (Int) := spec_DegreeOf.l0 k 0 l0 (l0.length : Int) 0
def spec_SameDivisor.l0 : Nat → List Int → List Int → Int → Int → Option (Bool)
 | 0, _, _, _, _ => none
 | k + 1, x1, x12, x13, x14 => if x14 < x13 then (if 0 ≤ x14 then (if x14 < (x12.length : Int) then (if x14 < (x1.length : Int) then (if (rd x12 x14) = (rd x1 x14) then (spec_SameDivisor.l0 k x1 x12 x13 (wrap64 (x14 + 1))) else (some false)) else (none)) else (none)) else (none)) else (some true)
def spec_SameDivisor.f (k : Nat) (l0 : List Int) (l1 : List Int) : Option (Bool) := if (l0.length : Int) = (l1.length : Int) then (spec_SameDivisor.l0 k l1 l0 (l0.length : Int) 0) else (some false)
def spec_AreEquivalent.j0 : Nat → List Int → List Int → Bool → Int → List (S67) → Option (Bool)
 | 0, _, _, _, _, _ => none
 | k + 1, x1, x2, x27, x453000, x453001 => if x27 = true then (some false) else ((spec_l05Reduce.f k x453000 x453001 x1 0).bind fun bt457 => ((spec_l05Reduce.f k x453000 x453001 x2 0).bind fun bt463 => ((spec_SameDivisor.f k bt457.1 bt463.1).bind fun t469 => (some t469))))
def spec_AreEquivalent.f (k : Nat) (a0_0 : Int) (l0_1 : List (S67)) (l1 : List Int) (l2 : List Int) : Option (Bool) := (spec_DivisorOk.f k a0_0 l0_1 l1).bind fun t453 => (if t453 = true then ((spec_DivisorOk.f k a0_0 l0_1 l2).bind fun t454 => (if t454 = true then ((spec_DegreeOf.f k l1).bind fun t455 => ((spec_DegreeOf.f k l2).bind fun t456 => (spec_AreEquivalent.j0 k l1 l2 (t455 != t456) a0_0 l0_1))) else (spec_AreEquivalent.j0 k l1 l2 true a0_0 l0_1))) else (spec_AreEquivalent.j0 k l1 l2 true a0_0 l0_1))
end Go.Proofs.Ytbcfccdoffbncaa.P
end
section
set_option linter.unusedVariables false
set_option linter.unusedSimpArgs false
namespace Go.Proofs.Ytbcfccdoffbncaa.Pure
open Go.RowKit Go.Proofs.Ytbcfccdoffbncaa.P Go.Proofs.YtbcfccdoffbncaaW.PrintWords Go.Proofs.YtbcfccdoffbncaaW.PrintLast Go.Proofs.YtbcfccdoffbncaaW.PrintMore Go.Proofs.Ytbcfccdoffbncaa.Base Go.Proofs.Ytbcfccdoffbncaa.Loops
def minP (l : List Int) : Nat → Int
  | 0 => rd l 0
  | i + 1 => mn (minP l i) (rd l (i : Int))
theorem minP_one (l : List Int) : minP l 1 = rd l 0 := by
  simp only [minP]
  unfold mn
  split <;> rfl
theorem minP_le (l : List Int) : ∀ n i, i < n → minP l n ≤ rd l (i : Int) := by
  intro n
  induction n with
  | zero => intro i hi; omega
  | succ n ih =>
    intro i hi
    simp only [minP]
    by_cases e : i = n
    · subst e; unfold mn; split <;> omega
    · have := ih i (by omega)
      unfold mn; split <;> omega
theorem minP_mem (l : List Int) (h : 0 < l.length) : ∀ n, n ≤ l.length → ∃ i, i < l.length ∧ minP l n = rd l (i : Int) := by
  intro n
  induction n with
  | zero => intro _; exact ⟨0, h, rfl⟩
  | succ n ih =>
    intro hn
    obtain ⟨i, hi, e⟩ := ih (by omega)
    simp only [minP]
    unfold mn
    split
    · first | exact ⟨i, hi, e⟩ | exact ⟨n, by omega, rfl⟩
    · first | exact ⟨i, hi, e⟩ | exact ⟨n, by omega, rfl⟩
def liftL (l : List Int) : List Int := (List.range l.length).map fun i : Nat => wrap64 (l.getD i 0 - minP l l.length)
theorem liftL_len (l : List Int) : (liftL l).length = l.length := by simp [liftL]
theorem min_ev (l : List Int) (h0 : 0 < l.length) (hl : l.length < 4611686018427387904) : Ev (fun k => slices_Min_int_int.f k l) (minP l l.length) := by
  have main : ∀ (d i : Nat), i + d = l.length → Ev (fun k => slices_Min_int_int.l0 k (minP l i) l (i : Int)) (minP l l.length) := by
    intro d
    induction d with
    | zero =>
      intro i hi
      obtain rfl : i = l.length := by omega
      refine ev_succ ?_
      simp only [slices_Min_int_int.l0]
      exact ev_ifn (by omega) (Ev.now _)
    | succ d ih =>
      intro i hi
      have h1 := ih (i + 1) (by omega)
      simp only [minP] at h1
      refine ev_succ ?_
      simp only [slices_Min_int_int.l0, wrap_succ (show i < 4611686018427387904 by omega)]
      exact ev_ift (by omega) (ev_ift (by omega) h1)
  simp only [slices_Min_int_int.f]
  refine ev_ifn (by omega) ?_
  have := main (l.length - 1) 1 (by omega)
  rw [minP_one] at this
  exact this
theorem fromZero_ev (l : List Int) (h0 : 0 < l.length) (hl : l.length < 17592186044416) : Ev (fun k => impl_fromZero.f k l) (liftL l) := by
  simp only [impl_fromZero.f, copyI_eq l hl, Option.bind_some]
  refine Ev.bind (min_ev l h0 (by omega)) ?_
  refine inplace_ev l (liftL l) (liftL_len l) (fun k x i => impl_fromZero.l0 k x (minP l l.length) (l.length : Int) i) (fun x hx => ev_succ ?_) (fun x i hi hx hg r hr => ev_succ ?_)
  · simp only [impl_fromZero.l0]
    exact ev_ifn (by omega) (Ev.now _)
  · have e1 : wrap64 (rd x i - minP l l.length) = (liftL l).getD i 0 := by
      unfold liftL
      rw [getD_range _ _ _ hi, ← hg]; rfl
    simp only [impl_fromZero.l0, wrap_succ (show i < 4611686018427387904 by omega), e1, Int.toNat_natCast]
    exact ev_ift (by omega) (ev_ift (by omega) (ev_ift (by omega) hr))
end Go.Proofs.Ytbcfccdoffbncaa.Pure
end
section
set_option linter.unusedVariables false
set_option linter.unusedSimpArgs false
namespace Go.Proofs.Ytbcfccdoffbncaa.Pure
open Go.RowKit Go.Proofs.Ytbcfccdoffbncaa.P Go.Proofs.YtbcfccdoffbncaaW.PrintWords Go.Proofs.YtbcfccdoffbncaaW.PrintLast Go.Proofs.YtbcfccdoffbncaaW.PrintMore Go.Proofs.Ytbcfccdoffbncaa.Base Go.Proofs.Ytbcfccdoffbncaa.Reduce Go.Proofs.Ytbcfccdoffbncaa.Loops Go.Proofs.Ytbcfccdoffbncaa.Bits
theorem redOk0 (n : Int) (es : List S67) (d : List Int) (hl : es.length < 4611686018427387904) (hd : d.length < 4611686018427387904) :
    ∃ b : Bool, Ev (fun k => impl_DivisorOk.f k n es d) b ∧ Ev (fun k => spec_DivisorOk.f k n es d) b ∧ Ev (fun k => spec_l05Ok.f k n es d 0) b ∧
      (b = true → Ev (fun k => impl_isVertex.f k n es 0) true ∧ ∃ m : Nat, n = m ∧ Start m es d 0) := by
  obtain ⟨b, h1, h2, hb⟩ := divOk_both n es d hl hd
  obtain ⟨g, h3, _, hg⟩ := graphOk_both n es hl
  simp only [spec_l05Ok.f, impl_isVertex.f, within_eq, in_eq, Option.bind_some]
  cases b with
  | false => exact ⟨false, h1, h2, Ev.bind h2 (ev_iff (Ev.now _)), fun h => by cases h⟩
  | true =>
    have hD := hb.1 rfl
    obtain ⟨f1, f2, f3, f4⟩ := edgesB_facts hD.1.1
    have ew : wrap64 (n - 1) = n - 1 := by unfold wrap64; omega
    have ed : decide ((0 : Int) ≤ 0 ∧ (0 : Int) ≤ wrap64 (n - 1)) = true := by rw [ew]; simp; omega
    have hgt : g = true := hg.2 hD.1
    subst hgt
    rw [ed]
    refine ⟨true, h1, h2, Ev.bind h2 (ev_ift rfl (Ev.now _)), fun _ => ⟨Ev.bind h3 (ev_ift rfl (Ev.now _)), n.toNat, by omega, ?_⟩⟩
    have hn : ((n.toNat : Nat) : Int) = n := by omega
    exact ⟨by rw [hn]; exact hD.1, by omega, by have := hD.2.1; omega, fun u => allB_get hD.2.2 (by omega) (by omega) u⟩
theorem red_zero {m : Nat} {es : List S67} {d s : List Int} (S : Start m es d 0) (hr : Red m (mE m es) 0 (XF m es d s)) : sumN (fun u => d.getD u 0) m ≤ XF m es d s 0 + sumN (fun u => if u = 0 then 0 else XF m es d s u) m ∧ sumN (fun u => XF m es d s u) m = sumN (fun u => d.getD u 0) m ∧ XF m es d s 0 ≤ sumN (fun u => d.getD u 0) m := by
  have G := gr_of m es S.g
  have h1 : sumN (fun u => XF m es d s u) m = sumN (fun u => d.getD u 0) m := by
    unfold XF
    rw [sumN_sub, lap_sum m _ G.sym]; omega
  have h2 := sumN_upd (fun u => XF m es d s u) m 0 0 S.q
  have h3 : 0 ≤ sumN (fun u => if u = 0 then 0 else XF m es d s u) m := sumN_nonneg fun u hu => by
    (try dsimp only); split
    · omega
    · exact hr.1 u hu ‹_›
  (try dsimp only at h2)
  exact ⟨by omega, h1, by omega⟩
end Go.Proofs.Ytbcfccdoffbncaa.Pure
end
section
set_option linter.unusedVariables false
set_option linter.unusedSimpArgs false
namespace Go.Proofs.Ytbcfccdoffbncaa.Pure
open Go.RowKit Go.Proofs.Ytbcfccdoffbncaa.P Go.Proofs.YtbcfccdoffbncaaW.PrintWords Go.Proofs.YtbcfccdoffbncaaW.PrintLast Go.Proofs.YtbcfccdoffbncaaW.PrintMore Go.Proofs.Ytbcfccdoffbncaa.Base Go.Proofs.Ytbcfccdoffbncaa.Loops Go.Proofs.Ytbcfccdoffbncaa.Reduce
theorem part_sum (l : List Int) (hb : ∀ u : Nat, -60 ≤ l.getD u 0 ∧ l.getD u 0 ≤ 60) (i : Nat) : -(60 * (i : Int)) ≤ sumN (fun u => l.getD u 0) i ∧ sumN (fun u => l.getD u 0) i ≤ 60 * i := by
  induction i with
  | zero => simp [sumN]
  | succ i ih =>
    have := hb i
    simp only [sumN]
    omega
theorem spec_DegreeOf_ev (l : List Int) (hl : l.length ≤ 1000) (hb : ∀ u : Nat, -60 ≤ l.getD u 0 ∧ l.getD u 0 ≤ 60) : Ev (fun k => spec_DegreeOf.f k l) (sumN (fun u => l.getD u 0) l.length) := by
  have main : ∀ (d i : Nat), i + d = l.length → Ev (fun k => spec_DegreeOf.l0 k (sumN (fun u => l.getD u 0) i) l (l.length : Int) (i : Int)) (sumN (fun u => l.getD u 0) l.length) := by
    intro d
    induction d with
    | zero =>
      intro i hi
      obtain rfl : i = l.length := by omega
      refine ev_succ ?_
      simp only [spec_DegreeOf.l0]
      exact ev_ifn (by omega) (Ev.now _)
    | succ d ih =>
      intro i hi
      have h1 := ih (i + 1) (by omega)
      have h2 := part_sum l hb (i + 1)
      have e : wrap64 (sumN (fun u => l.getD u 0) i + rd l (i : Int)) = sumN (fun u => l.getD u 0) (i + 1) := by
        simp only [sumN] at h2 ⊢
        unfold rd
        rw [Int.toNat_natCast]
        exact wrap_id (by omega) (by omega)
      refine ev_succ ?_
      simp only [spec_DegreeOf.l0, wrap_succ (show i < 4611686018427387904 by omega), e]
      exact ev_ift (by omega) (ev_ift (by omega) (ev_ift (by omega) h1))
  exact main l.length 0 (by omega)
end Go.Proofs.Ytbcfccdoffbncaa.Pure
end
section
set_option linter.unusedVariables false
set_option linter.unusedSimpArgs false
namespace Go.Proofs.Ytbcfccdoffbncaa.Pure
open Go.RowKit Go.Proofs.Ytbcfccdoffbncaa.P Go.Proofs.YtbcfccdoffbncaaW.PrintWords Go.Proofs.YtbcfccdoffbncaaW.PrintLast Go.Proofs.YtbcfccdoffbncaaW.PrintMore Go.Proofs.Ytbcfccdoffbncaa.Base Go.Proofs.Ytbcfccdoffbncaa.Loops
theorem drop_two {a b : List Int} {i : Nat} (ha : i < a.length) (hb : i < b.length) : (a.drop i = b.drop i) ↔ (rd a (i : Int) = rd b (i : Int) ∧ a.drop (i + 1) = b.drop (i + 1)) := by
  rw [List.drop_eq_getElem_cons ha, List.drop_eq_getElem_cons hb, rd_nat a i ha, rd_nat b i hb]
  exact ⟨fun h => List.cons.inj h, fun h => by rw [h.1, h.2]⟩
theorem implSame_ev (a b : List Int) (ha : a.length < 4611686018427387904) : Ev (fun k => impl_SameDivisor.f k a b) (decide (a = b)) := by
  simp only [impl_SameDivisor.f, slices_Equal_int_int.f]
  refine Ev.bind (r := decide (a = b)) ?_ (Ev.now _)
  by_cases e : a.length = b.length
  · refine ev_ift (by omega) ?_
    have main : ∀ (d i : Nat), i + d = a.length → Ev (fun k => slices_Equal_int_int.l0 k a b (a.length : Int) (i : Int)) (decide (a.drop i = b.drop i)) := by
      intro d
      induction d with
      | zero =>
        intro i hi
        rw [decide_eq_true (by rw [List.drop_of_length_le (by omega), List.drop_of_length_le (by omega)])]
        refine ev_succ ?_
        simp only [slices_Equal_int_int.l0]; exact ev_ifn (by omega) (Ev.now _)
      | succ d ih =>
        intro i hi
        have h1 := ih (i + 1) (by omega)
        refine ev_succ ?_
        simp only [slices_Equal_int_int.l0, wrap_succ (show i < 4611686018427387904 by omega)]
        refine ev_ift (by omega) (ev_ift (by omega) (ev_ift (by omega) (ev_ift (by omega) ?_)))
        have hd := drop_two (a := a) (b := b) (i := i) (by omega) (by omega)
        by_cases c : rd a (i : Int) = rd b (i : Int)
        · rw [show decide (a.drop i = b.drop i) = decide (a.drop (i + 1) = b.drop (i + 1)) from decide_eq_decide.2 (hd.trans ⟨fun h => h.2, fun h => ⟨c, h⟩⟩)]
          exact ev_ift c h1
        · rw [decide_eq_false (fun h => c (hd.1 h).1)]
          exact ev_ifn c (Ev.now _)
    have := main a.length 0 (by omega)
    rw [List.drop_zero, List.drop_zero] at this
    exact this
  · rw [decide_eq_false (fun h => e (by rw [h]))]
    exact ev_ifn (by omega) (Ev.now _)
theorem specSame_ev (a b : List Int) (ha : a.length < 4611686018427387904) : Ev (fun k => spec_SameDivisor.f k a b) (decide (a = b)) := by
  simp only [spec_SameDivisor.f]
  by_cases e : a.length = b.length
  · refine ev_ift (by omega) ?_
    have main : ∀ (d i : Nat), i + d = a.length → Ev (fun k => spec_SameDivisor.l0 k b a (a.length : Int) (i : Int)) (decide (a.drop i = b.drop i)) := by
      intro d
      induction d with
      | zero =>
        intro i hi
        rw [decide_eq_true (by rw [List.drop_of_length_le (by omega), List.drop_of_length_le (by omega)])]
        refine ev_succ ?_
        simp only [spec_SameDivisor.l0]; exact ev_ifn (by omega) (Ev.now _)
      | succ d ih =>
        intro i hi
        have h1 := ih (i + 1) (by omega)
        refine ev_succ ?_
        simp only [spec_SameDivisor.l0, wrap_succ (show i < 4611686018427387904 by omega)]
        refine ev_ift (by omega) (ev_ift (by omega) (ev_ift (by omega) (ev_ift (by omega) ?_)))
        have hd := drop_two (a := a) (b := b) (i := i) (by omega) (by omega)
        by_cases c : rd a (i : Int) = rd b (i : Int)
        · rw [show decide (a.drop i = b.drop i) = decide (a.drop (i + 1) = b.drop (i + 1)) from decide_eq_decide.2 (hd.trans ⟨fun h => h.2, fun h => ⟨c, h⟩⟩)]
          exact ev_ift c h1
        · rw [decide_eq_false (fun h => c (hd.1 h).1)]
          exact ev_ifn c (Ev.now _)
    have := main a.length 0 (by omega)
    rw [List.drop_zero, List.drop_zero] at this
    exact this
  · rw [decide_eq_false (fun h => e (by rw [h]))]
    exact ev_ifn (by omega) (Ev.now _)
end Go.Proofs.Ytbcfccdoffbncaa.Pure
end
section
set_option linter.unusedVariables false
set_option linter.unusedSimpArgs false
namespace Go.Proofs.Ytbcfccdoffbncaa.Pure
open Go.RowKit Go.Proofs.Ytbcfccdoffbncaa.P Go.Proofs.YtbcfccdoffbncaaW.PrintWords Go.Proofs.YtbcfccdoffbncaaW.PrintLast Go.Proofs.YtbcfccdoffbncaaW.PrintMore Go.Proofs.Ytbcfccdoffbncaa.Base Go.Proofs.Ytbcfccdoffbncaa.Reduce Go.Proofs.Ytbcfccdoffbncaa.Loops Go.Proofs.Ytbcfccdoffbncaa.Bits
theorem areEquivalent_both (n : Int) (es : List S67) (a b : List Int) (hl : es.length < 4611686018427387904) (ha : a.length < 4611686018427387904) (hb : b.length < 4611686018427387904) :
    ∃ r : Bool, Ev (fun k => impl_AreEquivalent.f k n es a b) r ∧ Ev (fun k => spec_AreEquivalent.f k n es a b) r ∧
      (r = true → ∃ m : Nat, n = m ∧ Start m es a 0 ∧ Start m es b 0) ∧
      (∀ m : Nat, n = m → Start m es a 0 → Start m es b 0 → ∃ s t : List Int, s.length = m ∧ t.length = m ∧ s.getD 0 0 = 0 ∧ t.getD 0 0 = 0 ∧ Red m (mE m es) 0 (XF m es a s) ∧ Red m (mE m es) 0 (XF m es b t) ∧ ((∀ v, v < m → XF m es a s v = XF m es b t v) → r = true)) := by
  obtain ⟨p, h1, h2, h3, h4⟩ := redOk0 n es a hl ha
  obtain ⟨q, i1, i2, i3, i4⟩ := redOk0 n es b hl hb
  simp only [impl_AreEquivalent.f, impl_RepresentativeOf.f, impl_ReducedOf.f, spec_AreEquivalent.f]
  have off : ∀ c : Bool, c = true → Ev (fun k => spec_AreEquivalent.j0 k a b c n es) false := fun c hc => ev_succ (by
    simp only [spec_AreEquivalent.j0]
    exact ev_ift hc (Ev.now _))
  have no : ∀ {d : List Int} {c : Bool}, Ev (fun k => impl_DivisorOk.f k n es d) c → c = false → ∀ m : Nat, n = m → ¬ Start m es d 0 := by
    intro d c hc h0 m hm S
    obtain ⟨c', j1, _, hj⟩ := divOk_both n es d hl (by have := S.len; have := edgesB_facts S.g.1; omega)
    have : c = c' := by
      obtain ⟨K, e1⟩ := hc
      obtain ⟨K', e2⟩ := j1
      have a1 := e1 (K + K') (by omega)
      have a2 := e2 (K + K') (by omega)
      dsimp only at a1 a2
      rw [a1] at a2
      exact Option.some.inj a2
    have hp : DivP n es d := by
      subst hm
      refine ⟨S.g, by have := S.len; omega, ?_⟩
      simp only [allB, List.all_eq_true, decide_eq_true_eq]
      intro x hx
      obtain ⟨i, hi, rfl⟩ := List.getElem_of_mem hx
      have := S.b i
      rw [List.getD_eq_getElem?_getD, List.getElem?_eq_getElem hi] at this
      exact this
    have := hj.2 hp
    subst this
    rw [h0] at *
    contradiction
  cases p with
  | false =>
    cases q with
    | false => exact ⟨false, Ev.bind (Ev.bind (Ev.bind h1 (ev_iff (Ev.now _))) (Ev.now _)) (Ev.bind (Ev.bind (Ev.bind i1 (ev_iff (Ev.now _))) (Ev.now _)) (ev_iff (Ev.now _))), Ev.bind h2 (ev_iff (off true rfl)), (fun h => by cases h), fun m hm S _ => absurd S (no h1 rfl m hm)⟩
    | true =>
      obtain ⟨j1, m, rfl, S⟩ := i4 rfl
      obtain ⟨s, s1, s2, s3, s4, s5, s6, s7, s8⟩ := reduce_both S
      exact ⟨false, Ev.bind (Ev.bind (Ev.bind h1 (ev_iff (Ev.now _))) (Ev.now _)) (Ev.bind (Ev.bind (Ev.bind i1 (ev_ift rfl (Ev.bind j1 (ev_ift rfl (Ev.bind s7 (Ev.now _)))))) (Ev.now _)) (ev_iff (Ev.now _))), Ev.bind h2 (ev_iff (off true rfl)), (fun h => by cases h), fun m hm S _ => absurd S (no h1 rfl m hm)⟩
  | true =>
    obtain ⟨k1, m, rfl, S⟩ := h4 rfl
    obtain ⟨s, s1, s2, s3, s4, s5, s6, s7, s8⟩ := reduce_both S
    cases q with
    | false => exact ⟨false, Ev.bind (Ev.bind (Ev.bind h1 (ev_ift rfl (Ev.bind k1 (ev_ift rfl (Ev.bind s7 (Ev.now _)))))) (Ev.now _)) (Ev.bind (Ev.bind (Ev.bind i1 (ev_iff (Ev.now _))) (Ev.now _)) (ev_ift rfl (ev_iff (Ev.now _)))), Ev.bind h2 (ev_ift rfl (Ev.bind i2 (ev_iff (off true rfl)))), (fun h => by cases h), fun m hm _ S => absurd S (no i1 rfl m hm)⟩
    | true =>
      obtain ⟨j1, m', hm', T⟩ := i4 rfl
      obtain rfl : m' = m := by omega
      obtain ⟨t, t1, t2, t3, t4, t5, t6, t7, t8⟩ := reduce_both T
      have f := edgesB_facts S.g.1
      have da := spec_DegreeOf_ev a (by have := S.len; omega) S.b
      have db := spec_DegreeOf_ev b (by have := T.len; omega) T.b
      rw [S.len] at da
      rw [T.len] at db
      have im := implSame_ev (XD es a s) (XD es b t) (by omega)
      have sp := specSame_ev (XD es a s) (XD es b t) (by omega)
      refine ⟨decide (XD es a s = XD es b t), Ev.bind (Ev.bind (Ev.bind h1 (ev_ift rfl (Ev.bind k1 (ev_ift rfl (Ev.bind s7 (Ev.now _)))))) (Ev.now _)) (Ev.bind (Ev.bind (Ev.bind i1 (ev_ift rfl (Ev.bind j1 (ev_ift rfl (Ev.bind t7 (Ev.now _)))))) (Ev.now _)) (ev_ift rfl (ev_ift rfl (Ev.bind im (Ev.now _))))), Ev.bind h2 (ev_ift rfl (Ev.bind i2 (ev_ift rfl (Ev.bind da (Ev.bind db ?_))))), fun _ => ⟨m', rfl, S, T⟩, ?_⟩
      · by_cases c : sumN (fun u => a.getD u 0) m' = sumN (fun u => b.getD u 0) m'
        · rw [c]
          refine ev_succ ?_
          simp only [spec_AreEquivalent.j0]
          refine ev_ifn (by simp) ?_
          refine Ev.bind s8 ?_
          refine Ev.bind t8 ?_
          exact Ev.bind sp (Ev.now _)
        · rw [decide_eq_false (fun h => c ?_)]
          · exact off _ (by simpa using c)
          · rw [← (red_zero S s4).2.1, ← (red_zero T t4).2.1]
            exact sumN_congr fun u hu => by rw [← s5 u hu, ← t5 u hu, h]
      · intro m hm _ _
        obtain rfl : m' = m := by omega
        refine ⟨s, t, s1, t1, s2, t2, s4, t4, fun h => decide_eq_true ?_⟩
        exact list_eq0 (by omega) fun u hu => by rw [s5 u (by omega), t5 u (by omega), h u (by omega)]
end Go.Proofs.Ytbcfccdoffbncaa.Pure
end
section
set_option linter.unusedVariables false
set_option linter.unusedSimpArgs false
namespace Go.Proofs.Ytbcfccdoffbncaa.Pure
open Go.RowKit Go.Proofs.Ytbcfccdoffbncaa.P Go.Proofs.YtbcfccdoffbncaaW.PrintWords Go.Proofs.YtbcfccdoffbncaaW.PrintLast Go.Proofs.YtbcfccdoffbncaaW.PrintMore Go.Proofs.Ytbcfccdoffbncaa.Base Go.Proofs.Ytbcfccdoffbncaa.Loops
def plusL (a b : List Int) : List Int := (List.range a.length).map fun i : Nat => wrap64 (a.getD i 0 + b.getD i 0)
def minusL (a b : List Int) : List Int := (List.range a.length).map fun i : Nat => wrap64 (a.getD i 0 - b.getD i 0)
def negL (a : List Int) : List Int := (List.range a.length).map fun i : Nat => wrap64 (-(a.getD i 0))
theorem impl_plus_ev (a b : List Int) (ha : a.length < 17592186044416) (hab : a.length = b.length) : Ev (fun k => impl_plus.f k a b) (plusL a b) := by
  simp only [impl_plus.f, copyI_eq a ha, Option.bind_some]
  refine inplace_ev a (plusL a b) (by simp [plusL]) (fun k x i => impl_plus.l0 k b x (a.length : Int) i) (fun x hx => ev1 fun k => ?_) (fun x i hi hx hg r hr => ev_succ ?_)
  · simp only [impl_plus.l0]
    rw [if_neg (by omega)]
  · have e1 : wrap64 (rd x i + rd b i) = (plusL a b).getD i 0 := by
      unfold plusL
      rw [getD_range _ _ _ hi, ← hg]; rfl
    simp only [impl_plus.l0, wrap_succ (show i < 4611686018427387904 by omega), e1, Int.toNat_natCast]
    exact ev_ift (by omega) (ev_ift (by omega) (ev_ift (by omega) (ev_ift (by omega) hr)))
theorem plus_neg (a b : List Int) (h : a.length = b.length) : plusL a (negL b) = minusL a b := by
  unfold plusL minusL
  refine List.map_congr_left fun i hi => ?_
  have hi' : i < b.length := by have := List.mem_range.1 hi; omega
  show wrap64 (a.getD i 0 + ((List.range b.length).map fun i : Nat => wrap64 (-(b.getD i 0))).getD i 0) = _
  rw [getD_range _ _ _ hi', wrap_add_wrap]
  congr 1
theorem impl_neg_ev (a : List Int) (ha : a.length < 17592186044416) : Ev (fun k => impl_NegateDivisor.f k a) (negL a) := by
  simp only [impl_NegateDivisor.f, copyI_eq a ha, Option.bind_some]
  refine inplace_ev a (negL a) (by simp [negL]) (fun k x i => impl_NegateDivisor.l0 k x (a.length : Int) i) (fun x hx => ev1 fun k => ?_) (fun x i hi hx hg r hr => ev_succ ?_)
  · simp only [impl_NegateDivisor.l0]
    rw [if_neg (by omega)]
  · have e1 : wrap64 (-(rd x i)) = (negL a).getD i 0 := by
      unfold negL
      rw [getD_range _ _ _ hi, ← hg]; rfl
    simp only [impl_NegateDivisor.l0, wrap_succ (show i < 4611686018427387904 by omega), e1, Int.toNat_natCast]
    exact ev_ift (by omega) (ev_ift (by omega) (ev_ift (by omega) hr))
end Go.Proofs.Ytbcfccdoffbncaa.Pure
end
