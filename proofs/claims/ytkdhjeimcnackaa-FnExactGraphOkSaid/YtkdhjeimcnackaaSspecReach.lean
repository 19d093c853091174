/- Lemmas on what the program's functions compute (specReach). -/
import Derived.Test.YtkdhjeimcnackaaPx49
import Derived.Test.YtkdhjeimcnackaaPx50
import Derived.Test.YtkdhjeimcnackaaPx51
import Derived.Test.YtkdhjeimcnackaaPx57
import Derived.Test.YtkdhjeimcnackaaPx0
import Derived.Test.YtkdhjeimcnackaaBase
import Derived.Test.YtkdhjeimcnackaaBits
import Derived.Test.YtkdhjeimcnackaaLoops
import Derived.Test.YtkdhjeimcnackaaSgraphOk
set_option linter.unusedVariables false
set_option linter.unusedSimpArgs false
namespace Go.Proofs.Ytkdhjeimcnackaa.Pure
open Go.RowKit Go.Proofs.Ytkdhjeimcnackaa.P Go.Proofs.YtkdhjeimcnackaaW.PrintWords Go.Proofs.YtkdhjeimcnackaaW.PrintLast Go.Proofs.YtkdhjeimcnackaaW.PrintMore Go.Proofs.Ytkdhjeimcnackaa.Base Go.Proofs.Ytkdhjeimcnackaa.Bits Go.Proofs.Ytkdhjeimcnackaa.Loops

theorem has_ev (l : List Int) (v : Int) (hl : l.length < 4611686018427387904) : Ev (fun k => spec_l02Has.f k l v) (decide (v ∈ l)) := by
  simp only [spec_l02Has.f]
  refine ev_list0 l (fun k (_ : Unit) i => spec_l02Has.l0 k v l (l.length : Int) i) (fun _ r => decide (v ∈ r)) (fun _ _ => True) (fun s _ => ev1 fun k => ?_) (fun s a rest i hlt hd _ => ?_) () trivial
  · simp only [spec_l02Has.l0]
    rw [if_neg (by omega)]; simp
  · by_cases h : a = v
    · refine Or.inl (ev1 fun k => ?_)
      simp only [spec_l02Has.l0, rd_drop hd]
      rw [if_pos (by omega), if_pos (by omega), if_pos (by omega), if_pos h]
      simp [h]
    · refine Or.inr ⟨(), trivial, ?_, 0, fun k _ => ?_⟩
      · simp [Ne.symm h]
      · simp only [spec_l02Has.l0, rd_drop hd]
        rw [if_pos (by omega), if_pos (by omega), if_pos (by omega), if_neg h, wrap_succ (by omega)]

/-- What the search keeps: no vertex twice, all of them vertices, none that a closed set could lack. -/
def RInv (n : Nat) (es : List S57) (q : List Int) : Prop :=
  q.Nodup ∧ (∀ v ∈ q, 0 ≤ v ∧ v < n) ∧ (0 : Int) ∈ q ∧ ∀ P : Int → Prop, P 0 → (∀ e ∈ es, P e.f0 ↔ P e.f1) → ∀ v ∈ q, P v

theorem rinv_len {n : Nat} {es : List S57} {q : List Int} (h : RInv n es q) : q.length ≤ n := by
  have := List.Nodup.length_le_of_subset h.1 (l₂ := (List.range n).map fun i : Nat => (i : Int)) (fun v hv => by
    have hb := h.2.1 v hv
    exact List.mem_map.2 ⟨v.toNat, by simp; omega, by omega⟩)
  simpa using this

theorem rinv_add {n : Nat} {es : List S57} {q : List Int} (h : RInv n es q) {u v : Int} {e : S57} (he : e ∈ es) (hb : 0 ≤ e.f0 ∧ e.f0 < e.f1 ∧ e.f1 < n) (hu : u ∈ q) (huv : (u = e.f0 ∧ v = e.f1) ∨ (u = e.f1 ∧ v = e.f0)) (hv : v ∉ q) : RInv n es (q ++ [v]) := by
  refine ⟨?_, fun x hx => ?_, by simp [h.2.2.1], fun P h0 hP x hx => ?_⟩
  · rw [List.nodup_append]
    refine ⟨h.1, by simp, fun a ha b hb' => ?_⟩
    simp at hb'
    subst hb'
    intro e'
    subst e'
    exact hv ha
  · rcases List.mem_append.1 hx with hx | hx
    · exact h.2.1 x hx
    · simp at hx
      omega
  · rcases List.mem_append.1 hx with hx | hx
    · exact h.2.2.2 P h0 hP x hx
    · simp at hx
      subst hx
      have := h.2.2.2 P h0 hP u hu
      rcases huv with ⟨h1, h2⟩ | ⟨h1, h2⟩
      · rw [h2]; exact (hP e he).1 (h1 ▸ this)
      · rw [h2]; exact (hP e he).2 (h1 ▸ this)

theorem rd_get {q : List Int} {i : Nat} (h : i < q.length) : rd q (i : Int) = q[i] := rd_nat q i h

theorem get_mem_append {q : List Int} {i : Nat} (h : i < q.length) (v : Int) : rd (q ++ [v]) (i : Int) = rd q (i : Int) := by
  rw [rd_nat q i h, rd_nat (q ++ [v]) i (by simp; omega), List.getElem_append_left h]

/-- One edge of the inner loop. -/
theorem reach_step (n : Nat) (es : List S57) (q : List Int) (pos i : Nat) (e : S57) (rest : List S57) (hd : es.drop i = e :: rest) (hne : e.f0 ≠ e.f1) (hpos : pos < q.length) (hq : q.length ≤ 6) (hl : es.length < 4611686018427387904) (r : List Int)
    (h : Ev (fun k => spec_l02Reach.l1 k (if e.f0 = rd q pos ∧ e.f1 ∉ q then q ++ [e.f1] else if e.f1 = rd q pos ∧ e.f0 ∉ q then q ++ [e.f0] else q) (pos : Int) es (es.length : Int) ((i + 1 : Nat) : Int) n es) r) :
    Ev (fun k => spec_l02Reach.l1 k q (pos : Int) es (es.length : Int) (i : Int) n es) r := by
  have hlt := drop_lt hd
  obtain ⟨K0, hK0⟩ := h
  obtain ⟨K1, hK1⟩ := has_ev q e.f1 (by omega)
  obtain ⟨K2, hK2⟩ := has_ev q e.f0 (by omega)
  refine ⟨K0 + K1 + K2 + 2, fun k hk => ?_⟩
  obtain ⟨m, rfl⟩ : ∃ m, k = m + 1 + 1 := ⟨k - 2, by omega⟩
  have h0 := hK0 m (by omega)
  have h1 := hK1 (m + 1) (by omega)
  have h2 := hK2 m (by omega)
  dsimp only at h0 h1 h2 ⊢
  simp only [spec_l02Reach.l1, rd_IE hd]
  rw [if_pos (by omega), if_pos (by omega), if_pos (by omega), if_pos (by omega), if_pos (by omega)]
  by_cases c0 : e.f0 = rd q pos
  · have c1 : ¬ e.f1 = rd q pos := fun hh => hne (c0.trans hh.symm)
    rw [if_pos c0, h1]
    simp only [Option.bind_some, spec_l02Reach.j2]
    by_cases m1 : e.f1 ∈ q
    · rw [if_neg (by simp [m1]), if_pos (by omega), if_pos (by omega), if_neg c1, wrap_succ (by omega)]
      rw [if_neg (fun hh => hh.2 m1), if_neg (fun hh => c1 hh.1)] at h0
      exact h0
    · rw [if_pos (by simp [m1]), if_pos (by omega), if_pos (by omega), if_pos (by simp; omega), get_mem_append hpos, if_neg c1, wrap_succ (by omega)]
      rw [if_pos ⟨c0, m1⟩] at h0
      exact h0
  · rw [if_neg c0]
    simp only [spec_l02Reach.j2]
    rw [if_neg (by simp), if_pos (by omega), if_pos (by omega), wrap_succ (by omega)]
    rw [if_neg (fun hh => c0 hh.1)] at h0
    by_cases c1 : e.f1 = rd q pos
    · rw [if_pos c1, h2]
      simp only [Option.bind_some]
      by_cases m0 : e.f0 ∈ q
      · rw [if_pos (by simp [m0])]
        rw [if_neg (fun hh => hh.2 m0)] at h0
        exact h0
      · rw [if_neg (by simp [m0]), if_pos (by omega)]
        rw [if_pos ⟨c1, m0⟩] at h0
        exact h0
    · rw [if_neg c1]
      rw [if_neg (fun hh => c1 hh.1)] at h0
      exact h0

/-- All that lies before place pos has its neighbours in the list. -/
def Done (es : List S57) (q : List Int) (pos : Nat) : Prop := ∀ j, j < pos → ∀ e ∈ es, (e.f0 = rd q j → e.f1 ∈ q) ∧ (e.f1 = rd q j → e.f0 ∈ q)

theorem done_add {es : List S57} {q : List Int} {pos : Nat} (h : Done es q pos) (hp : pos ≤ q.length) (v : Int) : Done es (q ++ [v]) pos := by
  intro j hj e he
  rw [get_mem_append (by omega)]
  have := h j hj e he
  exact ⟨fun hh => List.mem_append_left _ (this.1 hh), fun hh => List.mem_append_left _ (this.2 hh)⟩

theorem reach_inner (n : Nat) (hn : n ≤ 6) (es : List S57) (he : ∀ e ∈ es, 0 ≤ e.f0 ∧ e.f0 < e.f1 ∧ e.f1 < n) (hl : es.length < 4611686018427387904) (pos : Nat)
    (next : ∀ q, RInv n es q → Done es q (pos + 1) → pos < q.length → ∃ r, Ev (fun k => spec_l02Reach.l0 k q ((pos + 1 : Nat) : Int) n es) r ∧ RInv n es r ∧ Done es r r.length) :
    ∀ (rest : List S57) (i : Nat) (q : List Int), i ≤ es.length → es.drop i = rest → RInv n es q → Done es q pos → pos < q.length →
      (∀ e ∈ es.take i, (e.f0 = rd q pos → e.f1 ∈ q) ∧ (e.f1 = rd q pos → e.f0 ∈ q)) →
      ∃ r, Ev (fun k => spec_l02Reach.l1 k q (pos : Int) es (es.length : Int) (i : Int) n es) r ∧ RInv n es r ∧ Done es r r.length := by
  intro rest
  induction rest with
  | nil =>
    intro i q hi hd hinv hdone hpos hpart
    have hge := drop_nil hd
    have hlen := rinv_len hinv
    rw [List.take_of_length_le hge] at hpart
    obtain ⟨r, ⟨K, hK⟩, h1, h2⟩ := next q hinv (fun j hj => by
      by_cases e : j = pos
      · subst e; exact hpart
      · exact hdone j (by omega)) hpos
    refine ⟨r, ⟨K + 1, fun k hk => ?_⟩, h1, h2⟩
    obtain ⟨m, rfl⟩ : ∃ m, k = m + 1 := ⟨k - 1, by omega⟩
    have h3 := hK m (by omega)
    dsimp only at h3 ⊢
    simp only [spec_l02Reach.l1]
    rw [if_neg (by omega), wrap_succ (by omega), h3]
  | cons e rest ih =>
    intro i q hi hd hinv hdone hpos hpart
    have hlt := drop_lt hd
    have hmem : e ∈ es := by
      have : e ∈ es.drop i := by rw [hd]; simp
      exact List.mem_of_mem_drop this
    have hb := he e hmem
    have hlen := rinv_len hinv
    have hx : rd q pos ∈ q := by rw [rd_nat q pos hpos]; exact List.getElem_mem _
    have htake : es.take (i + 1) = es.take i ++ [e] := take_drop hd
    have step := reach_step n es q pos i e rest hd (by omega) hpos (by omega) hl
    by_cases c0 : e.f0 = rd q pos ∧ e.f1 ∉ q
    · obtain ⟨r, hr, h1, h2⟩ := ih (i + 1) (q ++ [e.f1]) (by omega) (drop_next hd) (rinv_add hinv hmem hb hx (Or.inl ⟨c0.1.symm, rfl⟩) c0.2) (done_add hdone (by omega) _) (by simp; omega) (fun x hx' => by
        rw [get_mem_append hpos]
        rw [htake] at hx'
        rcases List.mem_append.1 hx' with hx' | hx'
        · have := hpart x hx'
          exact ⟨fun hh => List.mem_append_left _ (this.1 hh), fun hh => List.mem_append_left _ (this.2 hh)⟩
        · simp at hx'
          subst hx'
          exact ⟨fun _ => by simp, fun hh => absurd (c0.1.trans hh.symm) (by omega)⟩)
      refine ⟨r, step r ?_, h1, h2⟩
      simp only [if_pos c0]
      exact hr
    · by_cases c1 : e.f1 = rd q pos ∧ e.f0 ∉ q
      · obtain ⟨r, hr, h1, h2⟩ := ih (i + 1) (q ++ [e.f0]) (by omega) (drop_next hd) (rinv_add hinv hmem hb hx (Or.inr ⟨c1.1.symm, rfl⟩) c1.2) (done_add hdone (by omega) _) (by simp; omega) (fun x hx' => by
          rw [get_mem_append hpos]
          rw [htake] at hx'
          rcases List.mem_append.1 hx' with hx' | hx'
          · have := hpart x hx'
            exact ⟨fun hh => List.mem_append_left _ (this.1 hh), fun hh => List.mem_append_left _ (this.2 hh)⟩
          · simp at hx'
            subst hx'
            exact ⟨fun hh => absurd (hh.trans c1.1.symm) (by omega), fun _ => by simp⟩)
        refine ⟨r, step r ?_, h1, h2⟩
        simp only [if_neg c0, if_pos c1]
        exact hr
      · obtain ⟨r, hr, h1, h2⟩ := ih (i + 1) q (by omega) (drop_next hd) hinv hdone hpos (fun x hx' => by
          rw [htake] at hx'
          rcases List.mem_append.1 hx' with hx' | hx'
          · exact hpart x hx'
          · simp at hx'
            subst hx'
            exact ⟨fun hh => Classical.byContradiction fun hn => c0 ⟨hh, hn⟩, fun hh => Classical.byContradiction fun hn => c1 ⟨hh, hn⟩⟩)
        refine ⟨r, step r ?_, h1, h2⟩
        simp only [if_neg c0, if_neg c1]
        exact hr

theorem reach_ev (n : Nat) (hn0 : 0 < n) (hn : n ≤ 6) (es : List S57) (he : ∀ e ∈ es, 0 ≤ e.f0 ∧ e.f0 < e.f1 ∧ e.f1 < n) (hl : es.length < 4611686018427387904) :
    ∃ r, Ev (fun k => spec_l02Reach.f k n es) r ∧ RInv n es r ∧ Done es r r.length := by
  have main : ∀ (d pos : Nat) (q : List Int), RInv n es q → Done es q pos → pos ≤ q.length → n < pos + d → ∃ r, Ev (fun k => spec_l02Reach.l0 k q (pos : Int) n es) r ∧ RInv n es r ∧ Done es r r.length := by
    intro d
    induction d with
    | zero =>
      intro pos q hinv _ hp hd
      have := rinv_len hinv
      omega
    | succ d ih =>
      intro pos q hinv hdone hp hd
      by_cases hlt : pos < q.length
      · obtain ⟨r, ⟨K, hK⟩, h1, h2⟩ := reach_inner n hn es he hl pos (fun q' h1 h2 h3 => ih (pos + 1) q' h1 h2 (by omega) (by omega)) es 0 q (by omega) rfl hinv hdone hlt (fun e he' => by simp at he')
        refine ⟨r, ⟨K + 1, fun k hk => ?_⟩, h1, h2⟩
        obtain ⟨m, rfl⟩ : ∃ m, k = m + 1 := ⟨k - 1, by omega⟩
        have h3 := hK m (by omega)
        dsimp only at h3 ⊢
        simp only [spec_l02Reach.l0]
        rw [if_pos (by omega)]
        exact h3
      · refine ⟨q, ev1 fun k => ?_, hinv, ?_⟩
        · simp only [spec_l02Reach.l0]
          rw [if_neg (by omega)]
        · have : pos = q.length := by omega
          rw [this] at hdone
          exact hdone
  refine main (n + 1) 0 [0] ⟨by simp, fun v hv => by simp at hv; omega, by simp, fun P h0 _ v hv => by simp at hv; rw [hv]; exact h0⟩ (fun j hj => by omega) (by simp) (by omega)

theorem reach_all (n : Nat) (es : List S57) (r : List Int) (h1 : RInv n es r) (h2 : Done es r r.length) : ((r.length : Int) == n) = true ↔ ConnE n es := by
  have hlen := rinv_len h1
  constructor
  · intro h P h0 hP v hv0 hv
    simp at h
    refine h1.2.2.2 P h0 hP v (Classical.byContradiction fun hno => ?_)
    have := List.Nodup.length_le_of_subset (l₁ := v :: r) (by rw [List.nodup_cons]; exact ⟨hno, h1.1⟩) (l₂ := (List.range n).map fun i : Nat => (i : Int)) (fun u hu => by
      have hb : 0 ≤ u ∧ u < n := by
        rcases List.mem_cons.1 hu with rfl | hu
        · omega
        · exact h1.2.1 u hu
      exact List.mem_map.2 ⟨u.toNat, by simp; omega, by omega⟩)
    simp at this
    omega
  · intro h
    have hall := h (fun v => v ∈ r) h1.2.2.1 (fun e he => by
      constructor
      · intro hm
        obtain ⟨j, hj, hjv⟩ := List.mem_iff_getElem.1 hm
        exact (h2 j hj e he).1 (by rw [rd_nat r j hj]; exact hjv.symm)
      · intro hm
        obtain ⟨j, hj, hjv⟩ := List.mem_iff_getElem.1 hm
        exact (h2 j hj e he).2 (by rw [rd_nat r j hj]; exact hjv.symm))
    have := List.Nodup.length_le_of_subset (l₁ := (List.range n).map fun i : Nat => (i : Int)) (l₂ := r) (by
      refine List.Pairwise.map _ (fun a b hab => ?_) List.nodup_range
      show (a : Int) ≠ b
      omega) (fun v hv => by
      obtain ⟨i, hi, rfl⟩ := List.mem_map.1 hv
      simp at hi
      exact hall _ (by omega) (by omega))
    simp at this ⊢
    omega

theorem spec_graphOk_iff (n : Int) (es : List S57) (hl : es.length < 4611686018427387904) : ∃ b : Bool, Ev (fun k => spec_GraphOk.f k n es) b ∧ (b = true ↔ GraphP n es) := by
  have h1 := spec_edgesOk_ev n es hl
  simp only [spec_GraphOk.f]
  by_cases hb : edgesB n es = true
  · obtain ⟨f1, f2, f3, f4⟩ := edgesB_facts hb
    obtain ⟨m, rfl⟩ : ∃ m : Nat, n = m := ⟨n.toNat, by omega⟩
    obtain ⟨r, hr, r1, r2⟩ := reach_ev m (by omega) (by omega) es f4 hl
    rw [hb] at h1
    have main : ∀ (d i : Nat), i + d = es.length → ∃ b : Bool, Ev (fun k => spec_GraphOk.l0 k es (es.length : Int) (i : Int) m es) b ∧
        (b = true ↔ (∀ j, i ≤ j + 1 → j + 1 < es.length → ¬ ((es.getD (j + 1) z57).f0 < (es.getD j z57).f0 ∨ ((es.getD (j + 1) z57).f0 = (es.getD j z57).f0 ∧ (es.getD (j + 1) z57).f1 < (es.getD j z57).f1))) ∧ ConnE m es) := by
      intro d
      induction d with
      | zero =>
        intro i hi
        obtain ⟨K, hK⟩ := hr
        refine ⟨((r.length : Int) == m), ⟨K + 1, fun k hk => ?_⟩, ?_⟩
        · obtain ⟨p, rfl⟩ : ∃ p, k = p + 1 := ⟨k - 1, by omega⟩
          have h3 := hK p (by omega)
          dsimp only at h3 ⊢
          simp only [spec_GraphOk.l0]
          rw [if_neg (by omega), h3]
          rfl
        · rw [reach_all m es r r1 r2]
          exact ⟨fun h => ⟨fun j h1 h2 => by omega, h⟩, fun h => h.2⟩
      | succ d ih =>
        intro i hi
        obtain ⟨b, ⟨K, hK⟩, hiff⟩ := ih (i + 1) (by omega)
        have go : ∀ c : Prop, (c ↔ (∀ j, i ≤ j + 1 → j + 1 < es.length → ¬ ((es.getD (j + 1) z57).f0 < (es.getD j z57).f0 ∨ ((es.getD (j + 1) z57).f0 = (es.getD j z57).f0 ∧ (es.getD (j + 1) z57).f1 < (es.getD j z57).f1))) ∧ ConnE m es) → True := fun _ _ => trivial
        by_cases i0 : i = 0
        · subst i0
          refine ⟨b, ⟨K + 1, fun k hk => ?_⟩, ?_⟩
          · obtain ⟨p, rfl⟩ : ∃ p, k = p + 1 := ⟨k - 1, by omega⟩
            have h3 := hK p (by omega)
            dsimp only at h3 ⊢
            simp only [spec_GraphOk.l0]
            rw [if_pos (by omega), if_pos (by omega), if_pos (by omega), if_neg (by omega), wrap_succ (by omega), h3]
          · rw [hiff]
            exact ⟨fun h => ⟨fun j _ h2 => h.1 j (by omega) h2, h.2⟩, fun h => ⟨fun j _ h2 => h.1 j (by omega) h2, h.2⟩⟩
        · obtain ⟨p, rfl⟩ : ∃ p, i = p + 1 := ⟨i - 1, by omega⟩
          have ew : wrap64 (((p + 1 : Nat) : Int) - 1) = (p : Int) := by unfold wrap64; omega
          by_cases hc : (es.getD (p + 1) z57).f0 < (es.getD p z57).f0 ∨ ((es.getD (p + 1) z57).f0 = (es.getD p z57).f0 ∧ (es.getD (p + 1) z57).f1 < (es.getD p z57).f1)
          · refine ⟨false, ev1 fun k => ?_, ?_⟩
            · simp only [spec_GraphOk.l0, ew, rdE_nat]
              rw [if_pos (by omega), if_pos (by omega), if_pos (by omega), if_pos (by omega), if_pos (by omega), if_pos (by omega)]
              by_cases c0 : (es.getD (p + 1) z57).f0 < (es.getD p z57).f0
              · rw [if_pos c0]
              · rw [if_neg c0, if_pos (by omega), if_pos (by omega)]
            · simp only [Bool.false_eq_true, false_iff]
              exact fun h => h.1 p (by omega) (by omega) hc
          · refine ⟨b, ⟨K + 1, fun k hk => ?_⟩, ?_⟩
            · obtain ⟨q, rfl⟩ : ∃ q, k = q + 1 := ⟨k - 1, by omega⟩
              have h3 := hK q (by omega)
              dsimp only at h3 ⊢
              simp only [spec_GraphOk.l0, ew, rdE_nat]
              rw [if_pos (by omega), if_pos (by omega), if_pos (by omega), if_pos (by omega), if_pos (by omega), if_pos (by omega), wrap_succ (by omega), if_neg (by omega)]
              by_cases c0 : (es.getD (p + 1) z57).f0 = (es.getD p z57).f0
              · rw [if_pos c0, if_neg (by omega)]; exact h3
              · rw [if_neg c0]; exact h3
            · rw [hiff]
              refine ⟨fun h => ⟨fun j h1 h2 => ?_, h.2⟩, fun h => ⟨fun j _ h2 => h.1 j (by omega) h2, h.2⟩⟩
              by_cases e : j = p
              · subst e; exact hc
              · exact h.1 j (by omega) h2
    obtain ⟨b, hb2, hiff⟩ := main es.length 0 (by omega)
    refine ⟨b, Ev.bind h1 ?_, ?_⟩
    · simp only [if_true]
      exact hb2
    · rw [hiff]
      exact ⟨fun h => ⟨hb, fun i hi => h.1 i (by omega) hi, h.2⟩, fun h => ⟨fun j _ h2 => h.2.1 j h2, h.2.2⟩⟩
  · refine ⟨false, Ev.bind h1 ?_, ?_⟩
    · simp only [hb]
      exact Ev.now _
    · simp only [Bool.false_eq_true, false_iff]
      exact fun h => hb h.1

/-- Both tell whether the graph is valid. -/
theorem graphOk_both (n : Int) (es : List S57) (hl : es.length < 4611686018427387904) : ∃ b : Bool, Ev (fun k => impl_GraphOk.f k n es) b ∧ Ev (fun k => spec_GraphOk.f k n es) b ∧ (b = true ↔ GraphP n es) := by
  obtain ⟨b, h1, i1⟩ := impl_graphOk_iff n es hl
  obtain ⟨b', h2, i2⟩ := spec_graphOk_iff n es hl
  have : b' = b := by rw [Bool.eq_iff_iff, i1, i2]
  subst this
  exact ⟨b', h1, h2, i1⟩

end Go.Proofs.Ytkdhjeimcnackaa.Pure
