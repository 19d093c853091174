/- A loop that walks a list once: what it answers, from what one round does. -/
import Derived.Test.YtnebapnfkolflaaBase
set_option autoImplicit false
namespace Go.Proofs.Ytnebapnfkolflaa.Loops
open Go.RowKit Go.Proofs.YtnebapnfkolflaaW.PrintWords Go.Proofs.YtnebapnfkolflaaW.PrintLast Go.Proofs.YtnebapnfkolflaaW.PrintMore Go.Proofs.Ytnebapnfkolflaa.Base

/-- A counter over a list: at its end it answers; at an element it answers at once or goes on. -/
theorem ev_list {α σ ρ : Type} (l : List α) (g : Nat → σ → Int → Option ρ) (R : σ → List α → ρ) (Inv : σ → List α → Prop)
    (hnil : ∀ s, Inv s [] → Ev (fun k => g k s (l.length : Int)) (R s []))
    (hcons : ∀ (s : σ) (a : α) (rest : List α) (i : Nat), i < l.length → l.drop i = a :: rest → Inv s (a :: rest) →
      Ev (fun k => g k s (i : Int)) (R s (a :: rest)) ∨ ∃ s', Inv s' rest ∧ R s (a :: rest) = R s' rest ∧ ∃ K, ∀ k, K ≤ k → g (k + 1) s (i : Int) = g k s' ((i + 1 : Nat) : Int)) :
    ∀ (rest : List α) (i : Nat) (s : σ), i ≤ l.length → l.drop i = rest → Inv s rest → Ev (fun k => g k s (i : Int)) (R s rest) := by
  intro rest
  induction rest with
  | nil =>
    intro i s hi hd hs
    have : l.length ≤ i := drop_nil hd
    have e : i = l.length := by omega
    subst e
    exact hnil s hs
  | cons a rest ih =>
    intro i s hi hd hs
    have hlt := drop_lt hd
    rcases hcons s a rest i hlt hd hs with h | ⟨s', hs', hR, K, hK⟩
    · exact h
    · obtain ⟨K', h'⟩ := ih (i + 1) s' (by omega) (drop_next hd) hs'
      refine ⟨max K K' + 1, fun k hk => ?_⟩
      obtain ⟨m, rfl⟩ : ∃ m, k = m + 1 := ⟨k - 1, by omega⟩
      have h1 := hK m (by omega)
      have h2 := h' m (by omega)
      dsimp only at h2 ⊢
      rw [h1, h2, hR]

/-- From the list's begin. -/
theorem ev_list0 {α σ ρ : Type} (l : List α) (g : Nat → σ → Int → Option ρ) (R : σ → List α → ρ) (Inv : σ → List α → Prop)
    (hnil : ∀ s, Inv s [] → Ev (fun k => g k s (l.length : Int)) (R s []))
    (hcons : ∀ (s : σ) (a : α) (rest : List α) (i : Nat), i < l.length → l.drop i = a :: rest → Inv s (a :: rest) →
      Ev (fun k => g k s (i : Int)) (R s (a :: rest)) ∨ ∃ s', Inv s' rest ∧ R s (a :: rest) = R s' rest ∧ ∃ K, ∀ k, K ≤ k → g (k + 1) s (i : Int) = g k s' ((i + 1 : Nat) : Int))
    (s : σ) (hs : Inv s l) : Ev (fun k => g k s 0) (R s l) :=
  ev_list l g R Inv hnil hcons l 0 s (Nat.zero_le _) rfl hs

theorem ev1 {α : Type} {g : Nat → Option α} {r : α} (h : ∀ k, g (k + 1) = some r) : Ev g r := ⟨1, fun k hk => by
  obtain ⟨m, rfl⟩ : ∃ m, k = m + 1 := ⟨k - 1, by omega⟩
  exact h m⟩

/-- One round off. -/
theorem ev_succ {α : Type} {g : Nat → Option α} {r : α} (h : Ev (fun k => g (k + 1)) r) : Ev g r := by
  obtain ⟨K, h⟩ := h
  refine ⟨K + 1, fun k hk => ?_⟩
  obtain ⟨m, rfl⟩ : ∃ m, k = m + 1 := ⟨k - 1, by omega⟩
  exact h m (by omega)

theorem ev_const {α : Type} {g : Nat → Option α} {r : α} (h : ∀ k, g k = some r) : Ev g r := ⟨0, fun k _ => h k⟩

theorem get_drop {α : Type} {l : List α} {i : Nat} {a : α} {rest : List α} (h : l.drop i = a :: rest) (d : α) : l.getD i d = a := by
  have hlt := drop_lt h
  rw [List.drop_eq_getElem_cons hlt] at h
  rw [List.getD_eq_getElem?_getD, List.getElem?_eq_getElem hlt]
  exact (List.cons.inj h).1

theorem take_drop {α : Type} {l : List α} {i : Nat} {a : α} {rest : List α} (h : l.drop i = a :: rest) : l.take (i + 1) = l.take i ++ [a] := by
  have hlt := drop_lt h
  rw [List.drop_eq_getElem_cons hlt] at h
  rw [List.take_succ_eq_append_getElem hlt, (List.cons.inj h).1]

/-- Storing one element more of what a list is to hold. -/
theorem fill_step {α : Type} {x y : List α} {i : Nat} {b : α} {rest : List α} (hl : x.length = y.length) (ht : x.take i = y.take i) (hy : y.drop i = b :: rest) : (x.set i b).take (i + 1) = y.take (i + 1) := by
  have hlt := drop_lt hy
  rw [take_drop hy, List.take_succ_eq_append_getElem (by simpa [hl] using hlt), List.take_set_of_le (Nat.le_refl _), ht]
  simp

theorem fill_end {α : Type} {x y : List α} (hl : x.length = y.length) (ht : x.take y.length = y.take y.length) : x = y := by
  rw [List.take_of_length_le (by omega), List.take_of_length_le (Nat.le_refl _)] at ht
  exact ht

/-- The same where a round may take several rounds off. -/
theorem ev_listE {α σ ρ : Type} (l : List α) (g : Nat → σ → Int → Option ρ) (R : σ → List α → ρ) (Inv : σ → List α → Prop)
    (hnil : ∀ s, Inv s [] → Ev (fun k => g k s (l.length : Int)) (R s []))
    (hcons : ∀ (s : σ) (a : α) (rest : List α) (i : Nat), i < l.length → l.drop i = a :: rest → Inv s (a :: rest) →
      Ev (fun k => g k s (i : Int)) (R s (a :: rest)) ∨ ∃ s', Inv s' rest ∧ R s (a :: rest) = R s' rest ∧ ∀ r, Ev (fun k => g k s' ((i + 1 : Nat) : Int)) r → Ev (fun k => g k s (i : Int)) r)
    (s : σ) (hs : Inv s l) : Ev (fun k => g k s 0) (R s l) := by
  have main : ∀ (rest : List α) (i : Nat) (s : σ), i ≤ l.length → l.drop i = rest → Inv s rest → Ev (fun k => g k s (i : Int)) (R s rest) := by
    intro rest
    induction rest with
    | nil =>
      intro i s hi hd hs
      have : l.length ≤ i := drop_nil hd
      have e : i = l.length := by omega
      subst e
      exact hnil s hs
    | cons a rest ih =>
      intro i s hi hd hs
      rcases hcons s a rest i (drop_lt hd) hd hs with h | ⟨s', hs', hR, hK⟩
      · exact h
      · rw [hR]
        have hlt := drop_lt hd
        exact hK _ (ih (i + 1) s' (by omega) (drop_next hd) hs')
  exact main l 0 s (Nat.zero_le _) rfl hs

/-- A test that is settled. -/
theorem ev_ift {α : Type} {c : Prop} [Decidable c] {f g : Nat → Option α} {r : α} (hc : c) (h : Ev f r) : Ev (fun k => if c then f k else g k) r := by
  simp only [if_pos hc]; exact h
theorem ev_ifb {α : Type} {b : Bool} {f g : Nat → Option α} {r : α} (h : Ev g r) : Ev (fun k => if (b != b) = true then f k else g k) r := by
  simp only [bne_self_eq_false, Bool.false_eq_true, if_false]; exact h
theorem ev_iff {α : Type} {f g : Nat → Option α} {r : α} (h : Ev g r) : Ev (fun k => if false = true then f k else g k) r := by
  simp only [Bool.false_eq_true, if_false]; exact h
theorem ev_ifnn {α : Type} {f g : Nat → Option α} {r : α} (h : Ev g r) : Ev (fun k => if (!true) = true then f k else g k) r := by
  simp only [Bool.not_true, Bool.false_eq_true, if_false]; exact h
theorem ev_ifn {α : Type} {c : Prop} [Decidable c] {f g : Nat → Option α} {r : α} (hc : ¬ c) (h : Ev g r) : Ev (fun k => if c then f k else g k) r := by
  simp only [if_neg hc]; exact h

end Go.Proofs.Ytnebapnfkolflaa.Loops
