/- What an argument's cells, read as data, tell as a value of a kind: whole numbers, strings, structs, slices and slices of slices. For the rows of laws with such parameters. -/
import Derived.Test.YtnebapnfkolflaaWMore
import Derived.Deep.Slices
import Derived.ChangeSame
import Derived.ChangeMaps5
set_option autoImplicit false
set_option linter.unusedVariables false
namespace Go.Proofs.Ytnebapnfkolflaa.Opens
open Go.RowKit Go.ChangeShapes Go.WideShapes Go.Deep
open Go.Proofs.YtnebapnfkolflaaW.PrintWords Go.Proofs.YtnebapnfkolflaaW.PrintLast Go.Proofs.YtnebapnfkolflaaW.PrintMore

/-- Cells of type t, read as data, are a value of the kind d that meets wf. -/
def Opens {α : Type} (P : Program) (t : TypeId) (d : Kd α) (wf : α → Prop) : Prop :=
  ∀ {H : Type} {enc : TypeId × Value → H} {w : World} {base : Nat} {spare : Nat → Bool} {held : Bool} {fuel : Nat} {cs : List Value} {x : DataW H × List MemPlace},
    DataW.trod enc P w base spare held fuel t cs = some x → ∃ a, d.K w a cs ∧ wf a

theorem opens_int {P : Program} {t : TypeId} {k : IntKind} (ht : P.underlying t = some (.int k)) : Opens P t (Kd.int k) (fun n => (Lit.int k n).wf = true) := by
  intro H enc w base spare held fuel cs x h
  obtain ⟨n, rfl, _, hw⟩ := DataW.trod_int ht h
  exact ⟨n, rfl, hw⟩

theorem opens_string {P : Program} {t : TypeId} (ht : P.underlying t = some .string) : Opens P t Kd.string (fun s => s.size ≤ maxLen) := by
  intro H enc w base spare held fuel cs x h
  obtain ⟨s, rfl, _, hw⟩ := DataW.trod_string ht h
  exact ⟨s, rfl, hw⟩

theorem opens_pair {α β : Type} {P : Program} {t : TypeId} {f0 f1 : Field} {a : Kd α} {b : Kd β} {wa : α → Prop} {wb : β → Prop} (ht : P.underlying t = some (.struct #[f0, f1])) (h0 : Opens P f0.type a wa) (h1 : Opens P f1.type b wb)
    (o0 : f0.offset = 0) (o1 : f1.offset = P.cellsOf f0.type) (hc : P.cellsOf t = P.cellsOf f0.type + P.cellsOf f1.type) : Opens P t (Kd.pair a b) (fun x => wa x.1 ∧ wb x.2) := by
  intro H enc w base spare held fuel cs x h
  obtain ⟨y0, y1, n, _, hl, g0, g1⟩ := trod_struct2 ht h
  obtain ⟨x0, k0, w0⟩ := h0 g0
  obtain ⟨x1, k1, w1⟩ := h1 g1
  rw [o0, List.drop_zero] at k0
  rw [o1, List.take_of_length_le (by rw [List.length_drop]; omega)] at k1
  exact ⟨(x0, x1), ⟨_, _, (List.take_append_drop _ _).symm, k0, k1⟩, w0, w1⟩

theorem opens_iso {α β : Type} {P : Program} {t : TypeId} {d : Kd α} {wf : α → Prop} (f : β → α) (g : α → β) (hfg : ∀ x, f (g x) = x) (h : Opens P t d wf) : Opens P t (Kd.iso d f) (fun b => wf (f b)) := by
  intro H enc w base spare held fuel cs x hx
  obtain ⟨a, ka, wa⟩ := h hx
  exact ⟨g a, (show d.K w (f (g a)) cs by rw [hfg]; exact ka), (show wf (f (g a)) by rw [hfg]; exact wa)⟩

theorem pick {α : Type} {p : Nat → α → Prop} : ∀ n : Nat, (∀ i, i < n → ∃ a, p i a) → ∃ l : List α, l.length = n ∧ ∀ (i : Nat) (a : α), l[i]? = some a → p i a := by
  intro n
  induction n with
  | zero => intro _; exact ⟨[], rfl, fun i a h => by simp at h⟩
  | succ n ih =>
    intro h
    obtain ⟨l, hl, hp⟩ := ih (fun i hi => h i (by omega))
    obtain ⟨a, ha⟩ := h n (by omega)
    refine ⟨l ++ [a], by simp [hl], fun i b hb => ?_⟩
    by_cases e : i < n
    · rw [List.getElem?_append_left (by omega)] at hb
      exact hp i b hb
    · have e' : i = n := by
        have := (List.getElem?_eq_some_iff.1 hb).1
        simp [hl] at this
        omega
      subst e'
      rw [List.getElem?_append_right (by omega), hl] at hb
      simp at hb
      subst hb
      exact ha

theorem opens_slice {α : Type} {P : Program} {t e : TypeId} {d : Kd α} {wf : α → Prop} (ht : P.underlying t = some (.slice e)) (hs : P.cellsOf e = d.sz) (he : Opens P e d wf) :
    Opens P t (Kd.slice e d) (fun l => l.length ≤ maxLen ∧ ∀ x ∈ l, wf x) := by
  intro H enc w base spare held fuel cs x h
  rcases open_slice ht h with ⟨rfl, _⟩ | ⟨a, len, cap, m, n, D, Pl, rfl, hb, hl, hm, hmm, rfl, hx⟩
  · exact ⟨[], ⟨none, 0, rfl, Nat.le_refl _, rfl, Nat.zero_le _, fun h => absurd h (Nat.lt_irrefl 0)⟩, Nat.zero_le _, fun x hx => by cases hx⟩
  · have hlm : len ≤ m := by rw [hmm]; split <;> omega
    obtain ⟨l, hlen, hp⟩ := pick (p := fun i y => (∃ c : List Value, c.length = d.sz ∧ d.K w y c ∧ ∀ (j : Nat) (u : Value), c[j]? = some u → w.cell? (a.add (i * d.sz + j)) = some u) ∧ wf y) len (fun i hi => by
      obtain ⟨cs', h1, h2⟩ := hx i (by omega)
      obtain ⟨_, hlen, hcell⟩ := World.cells?_some h1
      obtain ⟨y, ky, wy⟩ := he h2
      refine ⟨y, ⟨cs', by rw [hlen, hs], ky, fun j u hu => ?_⟩, wy⟩
      have hj : j < P.cellsOf e := by
        have := (List.getElem?_eq_some_iff.1 hu).1
        omega
      have := hcell j hj
      rw [Deep.add_add, hs] at this
      rw [this, hu])
    subst hlen
    have hM : l.length ≤ maxLen := Nat.le_trans hl hm
    refine ⟨l, ⟨some a, cap, rfl, hl, rfl, by unfold maxLen at hM; exact hM, fun _ => ⟨a, rfl, fun j p hj => ?_⟩⟩, hM, fun x hx => ?_⟩
    · obtain ⟨⟨c, h1, h2, h3⟩, _⟩ := hp j p hj
      exact ⟨c, h1, h2, h3⟩
    · obtain ⟨i, hi⟩ := List.mem_iff_getElem?.1 hx
      exact (hp i x hi).2

/-- An argument that is a slice. -/
theorem arg_slice {α : Type} {P : Program} {t e : TypeId} {d : Kd α} {wf : List α → Prop} {H : Type} {enc : TypeId × Value → H} {w : World} {base : Nat} {spare : Nat → Bool} {held : Bool} {r : Reach} {b0 : Nat} {v : Value} {x : DataW H} {ps : List MemPlace}
    (ht : P.underlying t = some (.slice e)) (ho : Opens P t (Kd.slice e d) wf) (hval : Value.okWide P w r b0 t v) (h : DataW.Trod enc P w base spare held t v x ps) :
    ∃ (A : Option Addr) (c : Nat) (l : List α), v = .slice A l.length c ∧ l.length ≤ c ∧ Kd.C d w A l.length l ∧ wf l := by
  obtain ⟨A, n, c, rfl⟩ := okWide_slice ht hval
  obtain ⟨fuel, hf⟩ := h
  obtain ⟨l, ⟨A', c', hcs, hl, hC⟩, hw⟩ := ho hf
  simp [Value.cells] at hcs
  obtain ⟨rfl, rfl, rfl⟩ := hcs
  exact ⟨A, c, l, rfl, hl, hC, hw⟩

/-- An argument that is a struct of a whole number and a slice. -/
theorem arg_struct {α : Type} {P : Program} {t e : TypeId} {k : IntKind} {fs : Array Field} {d : Kd α} {wf : Int × List α → Prop} {H : Type} {enc : TypeId × Value → H} {w : World} {base : Nat} {spare : Nat → Bool} {held : Bool} {r : Reach} {b0 : Nat} {v : Value} {x : DataW H} {ps : List MemPlace}
    (ht : P.underlying t = some (.struct fs)) (ho : Opens P t (Kd.pair (Kd.int k) (Kd.slice e d)) wf) (hval : Value.okWide P w r b0 t v) (h : DataW.Trod enc P w base spare held t v x ps) :
    ∃ (n : Int) (A : Option Addr) (c : Nat) (l : List α), v = .agg #[.int k n, .slice A l.length c] ∧ l.length ≤ c ∧ Kd.C d w A l.length l ∧ wf (n, l) := by
  obtain ⟨cs, rfl, _⟩ := okWide_struct ht hval
  obtain ⟨fuel, hf⟩ := h
  obtain ⟨⟨n, l⟩, ⟨c0, c1, hcs, h0, A, c, h1, hl, hC⟩, hw⟩ := ho hf
  have h0' : c0 = [.int k n] := h0
  rw [h0', h1] at hcs
  have hcs2 : cs.toList = [.int k n, .slice A l.length c] := by simpa [Value.cells] using hcs
  obtain rfl : cs = #[.int k n, .slice A l.length c] := by rw [← Array.toArray_toList (xs := cs), hcs2]
  exact ⟨n, A, c, l, rfl, hl, hC, hw⟩

end Go.Proofs.Ytnebapnfkolflaa.Opens
