/- What the law FnExactChipsAt rests on: functions of the program as plain Lean functions and that the machine's calls answer as they do, the words of the print that these use, lemmas and the plain proof. Put together by a program of this work that leaves out what nothing uses; Lean checks it. -/
import Derived.Test.YtnebapnfkolflaaKFnExactChipsAt4
section
set_option linter.unusedVariables false
set_option linter.unusedSimpArgs false
namespace Go.Proofs.Ytnebapnfkolflaa.Pure
open Go.RowKit Go.Proofs.Ytnebapnfkolflaa.P Go.Proofs.YtnebapnfkolflaaW.PrintWords Go.Proofs.YtnebapnfkolflaaW.PrintLast Go.Proofs.YtnebapnfkolflaaW.PrintMore Go.Proofs.Ytnebapnfkolflaa.Base Go.Proofs.Ytnebapnfkolflaa.Loops Go.Proofs.Ytnebapnfkolflaa.Bits
def sumQ (n : Int) (es : List S70) (v : Int) : List Int → Int
  | [] => 0
  | w :: q => multI n es v w + sumQ n es v q
theorem multI_b (n : Int) (es : List S70) (v w : Int) : 0 ≤ multI n es v w ∧ multI n es v w ≤ es.length := by
  unfold multI
  split
  · have : multN es v w ≤ es.length := List.countP_le_length
    omega
  · omega
theorem sumQ_b (n : Int) (es : List S70) (v : Int) : ∀ q : List Int, 0 ≤ sumQ n es v q ∧ sumQ n es v q ≤ es.length * q.length := by
  intro q
  induction q with
  | nil => simp [sumQ]
  | cons w q ih =>
    have := multI_b n es v w
    simp only [sumQ, List.length_cons]
    rw [Int.natCast_add, Int.mul_add]
    simp only [Int.natCast_one, Int.mul_one]
    omega
def sumB (n : Int) (es : List S70) (v : Int) (q : List Int) : Nat → Int
  | 0 => 0
  | i + 1 => sumB n es v q i + (if (i : Int) ∈ q then multI n es v i else 0)
theorem sumB_nil (n : Int) (es : List S70) (v : Int) : ∀ m, sumB n es v [] m = 0 := by
  intro m
  induction m with
  | zero => rfl
  | succ m ih => simp [sumB, ih]
theorem sumB_cons (n : Int) (es : List S70) (v : Int) (x : Int) (q : List Int) (hx : x ∉ q) (h0 : 0 ≤ x) : ∀ m : Nat, sumB n es v (x :: q) m = sumB n es v q m + (if x < m then multI n es v x else 0) := by
  intro m
  induction m with
  | zero => simp only [sumB]; rw [if_neg (by omega)]; rfl
  | succ m ih =>
    simp only [sumB, ih, List.mem_cons]
    by_cases e : (m : Int) = x
    · subst e
      rw [if_neg (Int.lt_irrefl (m : Int)), if_pos (Or.inl rfl : (m : Int) = m ∨ (m : Int) ∈ q), if_neg hx, if_pos (show (m : Int) < ((m + 1 : Nat) : Int) by omega)]; try omega
    · have g2 : x < ((m + 1 : Nat) : Int) ↔ x < (m : Int) := by omega
      by_cases c : (m : Int) ∈ q
      · rw [if_pos (Or.inr c : (m : Int) = x ∨ (m : Int) ∈ q), if_pos c]
        by_cases g : x < m
        · rw [if_pos g, if_pos (g2.2 g)]; try omega
        · rw [if_neg g, if_neg (fun h => g (g2.1 h))]; try omega
      · rw [if_neg (show ¬ ((m : Int) = x ∨ (m : Int) ∈ q) from fun h => h.elim e c), if_neg c]
        by_cases g : x < m
        · rw [if_pos g, if_pos (g2.2 g)]; try omega
        · rw [if_neg g, if_neg (fun h => g (g2.1 h))]; try omega
theorem sumB_eq (n : Int) (es : List S70) (v : Int) (m : Nat) : ∀ q : List Int, q.Nodup → (∀ w ∈ q, 0 ≤ w ∧ w < m) → sumB n es v q m = sumQ n es v q := by
  intro q
  induction q with
  | nil => intro _ _; exact sumB_nil n es v m
  | cons x q ih =>
    intro hd hr
    rw [List.nodup_cons] at hd
    have hx := hr x (by simp)
    rw [sumB_cons n es v x q hd.1 hx.1 m, ih hd.2 (fun w hw => hr w (by simp [hw])), if_pos hx.2]
    simp only [sumQ]; omega
def hotB (n : Int) (es : List S70) (d q : List Int) (v : Nat) : Bool := !decide ((v : Int) ∈ q) && decide (d.getD v 0 < sumQ n es v q)
def lowB (P : Nat → Bool) : Nat → Nat → Int
  | _, 0 => -1
  | i, c + 1 => if P i = true then (i : Int) else lowB P (i + 1) c
theorem lowB_spec (P : Nat → Bool) : ∀ (c i : Nat), (lowB P i c = -1 ∧ ∀ j, i ≤ j → j < i + c → P j = false) ∨ ∃ j : Nat, lowB P i c = j ∧ i ≤ j ∧ j < i + c ∧ P j = true := by
  intro c
  induction c with
  | zero => intro i; exact Or.inl ⟨rfl, fun j h1 h2 => by omega⟩
  | succ c ih =>
    intro i
    simp only [lowB]
    by_cases h : P i = true
    · rw [if_pos h]; exact Or.inr ⟨i, rfl, Nat.le_refl _, by omega, h⟩
    · rw [if_neg h]
      rcases ih (i + 1) with ⟨h1, h2⟩ | ⟨j, h1, h2, h3, h4⟩
      · refine Or.inl ⟨h1, fun j h3 h4 => ?_⟩
        by_cases e : j = i
        · subst e; simpa using h
        · exact h2 j (by omega) (by omega)
      · exact Or.inr ⟨j, h1, by omega, by omega, h4⟩
theorem index_ev (q : List Int) (x : Int) (hq : q.length < 4611686018427387904) : ∃ t : Int, Ev (fun k => slices_Index_int_int.f k q x) t ∧ (t ≥ 0 ↔ x ∈ q) := by
  simp only [slices_Index_int_int.f]
  have main : ∀ (rest : List Int) (i : Nat), i ≤ q.length → q.drop i = rest → ∃ t : Int, Ev (fun k => slices_Index_int_int.l0 k q x (q.length : Int) (i : Int)) t ∧ (t ≥ 0 ↔ x ∈ rest) := by
    intro rest
    induction rest with
    | nil =>
      intro i hi hd
      have := drop_nil hd
      refine ⟨-1, ev1 fun k => ?_, by simp⟩
      simp only [slices_Index_int_int.l0]
      rw [if_neg (by omega)]
    | cons a rest ih =>
      intro i hi hd
      have hlt := drop_lt hd
      by_cases e : x = a
      · refine ⟨i, ev1 fun k => ?_, by simp [e]⟩
        simp only [slices_Index_int_int.l0, rd_drop hd]
        rw [if_pos (by omega), if_pos (by omega), if_pos (by omega), if_pos e]
      · obtain ⟨t, h1, h2⟩ := ih (i + 1) (by omega) (drop_next hd)
        refine ⟨t, ev_succ ?_, by rw [h2]; simp [e]⟩
        simp only [slices_Index_int_int.l0, rd_drop hd, wrap_succ (show i < 4611686018427387904 by omega)]
        exact ev_ift (by omega) (ev_ift (by omega) (ev_ift (by omega) (ev_ifn e h1)))
  exact main q 0 (by omega) rfl
theorem contains_ev (q : List Int) (x : Int) (hq : q.length < 4611686018427387904) : Ev (fun k => slices_Contains_int_int.f k q x) (decide (x ∈ q)) := by
  obtain ⟨t, h1, h2⟩ := index_ev q x hq
  simp only [slices_Contains_int_int.f]
  refine Ev.bind h1 ?_
  rw [show decide (t ≥ 0) = decide (x ∈ q) by simp [h2]]
  exact Ev.now _
def BInv (n : Nat) (q : List Int) : Prop := q.Nodup ∧ ∀ v ∈ q, 0 ≤ v ∧ v < n
theorem binv_len {n : Nat} {q : List Int} (h : BInv n q) : q.length ≤ n := by
  have := List.Nodup.length_le_of_subset h.1 (l₂ := (List.range n).map fun i : Nat => (i : Int)) (fun v hv => by
    have hb := h.2 v hv
    exact List.mem_map.2 ⟨v.toNat, by simp; omega, by omega⟩)
  simpa using this
theorem binv_add {n : Nat} {q : List Int} (h : BInv n q) {v : Int} (hv : v ∉ q) (hb : 0 ≤ v ∧ v < n) : BInv n (q ++ [v]) := by
  refine ⟨?_, fun x hx => ?_⟩
  · rw [List.nodup_append]
    refine ⟨h.1, by simp, fun a ha b hb' => ?_⟩
    simp at hb'
    subst hb'
    intro e'
    subst e'
    exact hv ha
  · rcases List.mem_append.1 hx with hx | hx
    · exact h.2 x hx
    · simp at hx; subst hx; exact hb
theorem impl_next (n : Nat) (hn : n ≤ 6) (es : List S70) (hl : es.length ≤ 12) (d q : List Int) (hd : d.length = n) (hq : BInv n q) (r : List Int)
    (hstop : lowB (hotB n es d q) 0 n = -1 → r = q)
    (hgo : ∀ v : Nat, lowB (hotB n es d q) 0 n = v → Ev (fun k => impl_burn.l0 k d (q ++ [(v : Int)]) n es) r) :
    Ev (fun k => impl_burn.l0 k d q n es) r := by
  have hql := binv_len hq
  have stop : ∀ (x : Int) (i : Nat), x = lowB (hotB n es d q) 0 n → Ev (fun k => impl_burn.j2 k d q x (i : Int) false n es) r := by
    intro x i hx
    refine ev_succ ?_
    simp only [impl_burn.j2]
    refine ev_iff ?_
    rcases lowB_spec (hotB n es d q) n 0 with ⟨h1, _⟩ | ⟨j, h1, _, _, _⟩
    · rw [hx, h1, hstop h1]
      exact ev_ift (by omega) (Ev.now _)
    · rw [hx, h1]
      exact ev_ifn (by omega) (ev_ift (by omega) (hgo j h1))
  have main : ∀ (c i : Nat), i + c = n → lowB (hotB n es d q) i c = lowB (hotB n es d q) 0 n → Ev (fun k => impl_burn.l1 k d q (-1) (i : Int) n es) r := by
    intro c
    induction c with
    | zero =>
      intro i hi hlow
      refine ev_succ ?_
      simp only [impl_burn.l1]
      exact ev_ifn (by omega) (stop (-1) i hlow)
    | succ c ih =>
      intro i hi hlow
      refine ev_succ ?_
      simp only [impl_burn.l1]
      refine ev_ift (by omega) (ev_succ ?_)
      simp only [impl_burn.j2]
      refine ev_ift (by decide) ?_
      have hin : ∀ s, s = sumQ n es i q → Ev (fun k => impl_burn.l2 k d q (-1) (i : Int) s q (q.length : Int) (q.length : Int) n es) r := by
        intro s hs
        subst hs
        refine ev_succ ?_
        simp only [impl_burn.l2]
        refine ev_ifn (by omega) (Ev.bind (contains_ev q i (by omega)) ?_)
        simp only [lowB] at hlow
        by_cases hc : (i : Int) ∈ q
        · have hf : hotB n es d q i = false := by simp [hotB, hc]
          rw [hf] at hlow
          simp only [Bool.false_eq_true, if_false] at hlow
          simp only [wrap_succ (show i < 4611686018427387904 by omega)]
          exact ev_ift (by simp [hc]) (ih (i + 1) (by omega) hlow)
        · refine ev_ifn (by simp [hc]) (ev_ift (by omega) (ev_ift (by omega) ?_))
          by_cases hlt : d.getD i 0 < sumQ n es i q
          · have hf : hotB n es d q i = true := by simp only [hotB, decide_eq_true hlt, Bool.and_true, decide_eq_false hc, Bool.not_false]
            rw [if_pos hf] at hlow
            refine ev_ift hlt (ev_succ ?_)
            simp only [impl_burn.l1, wrap_succ (show i < 4611686018427387904 by omega)]
            by_cases hi2 : i + 1 < n
            · rw [show decide ((i : Int) < 0) = false by simp]
              exact ev_ift (by omega) (stop i (i + 1) hlow)
            · exact ev_ifn (by omega) (stop i (i + 1) hlow)
          · have hf : hotB n es d q i = false := by simp only [hotB, decide_eq_false hlt, Bool.and_false]
            rw [hf] at hlow
            simp only [Bool.false_eq_true, if_false] at hlow
            simp only [wrap_succ (show i < 4611686018427387904 by omega)]
            exact ev_ifn hlt (ih (i + 1) (by omega) hlow)
      refine ev_listE q (fun k (s : Int) j => impl_burn.l2 k d q (-1) (i : Int) s q (q.length : Int) j n es) (fun _ _ => r) (fun s rest => 0 ≤ s ∧ s + sumQ n es i rest = sumQ n es i q) (fun s hs => hin s (by simpa [sumQ] using hs.2)) (fun s w rest j hj hdr hs => ?_) 0 (by simp)
      refine Or.inr ⟨s + multI n es i w, ?_, rfl, fun r' hr' => ev_succ ?_⟩
      · have := multI_b n es i w
        simp only [sumQ] at hs
        omega
      · have hb := multI_b n es i w
        have hb2 := sumQ_b n es i q
        have hb3 := sumQ_b n es i rest
        have hb4 : (es.length : Int) * (q.length : Int) ≤ 12 * 6 := Int.mul_le_mul (by omega) (by omega) (by omega) (by omega)
        simp only [sumQ] at hs
        simp only [impl_burn.l2, rd_drop hdr, wrap_succ (show j < 4611686018427387904 by omega)]
        refine ev_ift (by omega) (ev_ift (by omega) (ev_ift (by omega) (Ev.bind (impl_mult_ev n es (by omega) i w) ?_)))
        rw [wrap_id (by omega) (by omega)]
        exact hr'
  refine ev_succ ?_
  simp only [impl_burn.l0]
  exact main n 0 (by omega) rfl
theorem spec_next (n : Nat) (hn : n ≤ 6) (es : List S70) (hl : es.length ≤ 12) (d q : List Int) (b : List Bool) (hd : d.length = n) (hq : BInv n q) (hb : b.length = n) (hbq : ∀ v : Nat, b.getD v false = decide ((v : Int) ∈ q)) (r : List Int)
    (hstop : lowB (hotB n es d q) 0 n = -1 → r = q)
    (hgo : ∀ v : Nat, lowB (hotB n es d q) 0 n = v → Ev (fun k => spec_l05Burn.l0 k d (q ++ [(v : Int)]) (b.set v true) n es) r) :
    Ev (fun k => spec_l05Burn.l0 k d q b n es) r := by
  have hql := binv_len hq
  have main : ∀ (i c : Nat), i + c = n → Ev (fun k => spec_l05Burn.l1 k d q b (lowB (hotB n es d q) i c) ((i : Int) - 1) n es) r := by
    intro i
    induction i with
    | zero =>
      intro c hc
      obtain rfl : c = n := by omega
      refine ev_succ ?_
      simp only [spec_l05Burn.l1]
      refine ev_ifn (by omega) ?_
      rcases lowB_spec (hotB c es d q) c 0 with ⟨h1, _⟩ | ⟨j, h1, _, h3, _⟩
      · rw [h1, hstop h1]
        exact ev_ift (by omega) (Ev.now _)
      · have hg := hgo j h1
        rw [h1, Int.toNat_natCast]
        exact ev_ifn (by omega) (ev_ift (by omega) (ev_ift (by omega) (ev_ift (by omega) hg)))
    | succ i ih =>
      intro c hc
      have hih := ih (c + 1) (by omega)
      refine ev_succ ?_
      simp only [spec_l05Burn.l1]
      rw [show ((i + 1 : Nat) : Int) - 1 = (i : Int) by omega]
      refine ev_ift (by omega) ?_
      have hin : ∀ s, s = sumQ n es i q → Ev (fun k => spec_l05Burn.l2 k d q b (lowB (hotB n es d q) (i + 1) c) (i : Int) s (n : Int) n es) r := by
        intro s hs
        subst hs
        refine ev_succ ?_
        simp only [spec_l05Burn.l2]
        have er : rdOf false b (i : Int) = decide ((i : Int) ∈ q) := by rw [← hbq i]; rfl
        rw [er, show wrap64 ((i : Int) - 1) = (i : Int) - 1 by unfold wrap64; omega]
        refine ev_ifn (by omega) (ev_ift (by omega) (ev_ift (by omega) ?_))
        simp only [lowB] at hih
        by_cases hc' : (i : Int) ∈ q
        · have hf : hotB n es d q i = false := by simp [hotB, hc']
          rw [hf] at hih
          simp only [Bool.false_eq_true, if_false] at hih
          exact ev_ift (by simp [hc']) hih
        · refine ev_ifn (by simp [hc']) (ev_ift (by omega) ?_)
          by_cases hlt : d.getD i 0 < sumQ n es i q
          · have hf : hotB n es d q i = true := by simp only [hotB, decide_eq_true hlt, Bool.and_true, decide_eq_false hc', Bool.not_false]
            rw [hf] at hih
            simp only [if_true] at hih
            exact ev_ift hlt hih
          · have hf : hotB n es d q i = false := by simp only [hotB, decide_eq_false hlt, Bool.and_false]
            rw [hf] at hih
            simp only [Bool.false_eq_true, if_false] at hih
            exact ev_ifn hlt hih
      have inner : ∀ (e j : Nat), j + e = n → Ev (fun k => spec_l05Burn.l2 k d q b (lowB (hotB n es d q) (i + 1) c) (i : Int) (sumB n es i q j) (j : Int) n es) r := by
        intro e
        induction e with
        | zero =>
          intro j hj
          obtain rfl : j = n := by omega
          exact hin _ (sumB_eq j es i j q hq.1 hq.2)
        | succ e ihe =>
          intro j hj
          have hj1 := ihe (j + 1) (by omega)
          refine ev_succ ?_
          simp only [spec_l05Burn.l2]
          have er : rdOf false b (j : Int) = decide ((j : Int) ∈ q) := by rw [← hbq j]; rfl
          rw [er, wrap_succ (by omega)]
          refine ev_ift (by omega) (ev_ift (by omega) (ev_ift (by omega) ?_))
          simp only [sumB] at hj1
          by_cases hc' : (j : Int) ∈ q
          · rw [if_pos hc'] at hj1
            have bnd : ∀ m : Nat, 0 ≤ sumB n es i q m ∧ sumB n es i q m ≤ 12 * m := by
              intro m
              induction m with
              | zero => simp [sumB]
              | succ m ihm =>
                have := multI_b n es i m
                simp only [sumB]
                split <;> omega
            have hb1 := bnd j
            have hb2 := multI_b n es i j
            refine ev_ift (by simp [hc']) (Ev.bind (spec_mult_ev n es (by omega) i j) ?_)
            rw [wrap_id (by omega) (by omega)]
            exact hj1
          · rw [if_neg hc', Int.add_zero] at hj1
            exact ev_ifn (by simp [hc']) hj1
      exact inner n 0 (by omega)
  refine ev_succ ?_
  simp only [spec_l05Burn.l0]
  rw [show wrap64 ((n : Int) - 1) = (n : Int) - 1 by unfold wrap64; omega]
  have := main n 0 (by omega)
  exact this
theorem burn_from (n : Nat) (hn : n ≤ 6) (es : List S70) (hl : es.length ≤ 12) (d : List Int) (hd : d.length = n) :
    ∀ (c : Nat) (q : List Int) (b : List Bool), BInv n q → c + q.length = n → b.length = n → (∀ v : Nat, b.getD v false = decide ((v : Int) ∈ q)) →
      ∃ r, Ev (fun k => impl_burn.l0 k d q n es) r ∧ Ev (fun k => spec_l05Burn.l0 k d q b n es) r ∧ BInv n r ∧ r.take q.length = q ∧ (∀ v : Nat, v < n → hotB n es d r v = false) ∧ ∀ j, q.length ≤ j → j < r.length → hotB n es d (r.take j) (r.getD j 0).toNat = true := by
  intro c
  induction c with
  | zero =>
    intro q b hq hlen hb hbq
    have all : ∀ v : Nat, v < n → (v : Int) ∈ q := by
      intro v hv
      by_cases h : (v : Int) ∈ q
      · exact h
      · have := binv_len (binv_add hq h ⟨by omega, by omega⟩)
        simp at this
        omega
    have cold : ∀ v : Nat, v < n → hotB n es d q v = false := fun v hv => by simp [hotB, all v hv]
    have hlow : lowB (hotB n es d q) 0 n = -1 := by
      rcases lowB_spec (hotB n es d q) n 0 with ⟨h1, _⟩ | ⟨j, _, _, h3, h4⟩
      · exact h1
      · rw [cold j (by omega)] at h4; cases h4
    exact ⟨q, impl_next n hn es hl d q hd hq q (fun _ => rfl) (fun v hv => by omega), spec_next n hn es hl d q b hd hq hb hbq q (fun _ => rfl) (fun v hv => by omega), hq, List.take_length, cold, fun j h1 h2 => by omega⟩
  | succ c ih =>
    intro q b hq hlen hb hbq
    rcases lowB_spec (hotB n es d q) n 0 with ⟨h1, h2⟩ | ⟨j, h1, _, h3, h4⟩
    · exact ⟨q, impl_next n hn es hl d q hd hq q (fun _ => rfl) (fun v hv => by omega), spec_next n hn es hl d q b hd hq hb hbq q (fun _ => rfl) (fun v hv => by omega), hq, List.take_length, fun v hv => h2 v (by omega) (by omega), fun j h1 h2 => by omega⟩
    · have hj : (j : Int) ∉ q := by
        intro h
        simp [hotB, h] at h4
      have hq' := binv_add hq hj ⟨by omega, by omega⟩
      obtain ⟨r, r1, r2, r3, r4, r5, r6⟩ := ih (q ++ [(j : Int)]) (b.set j true) hq' (by simp; omega) (by simpa using hb) (fun v => by
        rw [List.getD_eq_getElem?_getD, List.getElem?_set]
        by_cases e : j = v
        · subst e
          rw [if_pos rfl, if_pos (by omega)]; simp
        · rw [if_neg e, ← List.getD_eq_getElem?_getD, hbq v]
          have : ¬ (v : Int) = j := by omega
          simp [this])
      have hlt : q.length < r.length := by
        have := congrArg List.length r4
        simp at this
        omega
      have hpre : r.take q.length = q := by
        have h := congrArg (List.take q.length) r4
        rw [List.take_take, List.length_append, Nat.min_eq_left (by omega), List.take_left'] at h
        · exact h
        · rfl
      have hat : r.getD q.length 0 = (j : Int) := by
        have h := congrArg (fun x => x.getD q.length 0) r4
        simp only [List.getD_eq_getElem?_getD, List.getElem?_take, List.length_append, List.length_singleton] at h
        rw [if_pos (by omega)] at h
        rw [List.getD_eq_getElem?_getD, h]
        simp
      refine ⟨r, impl_next n hn es hl d q hd hq r (fun h => by omega) (fun v hv => ?_), spec_next n hn es hl d q b hd hq hb hbq r (fun h => by omega) (fun v hv => ?_), r3, hpre, r5, fun i hi1 hi2 => ?_⟩
      · obtain rfl : v = j := by omega
        exact r1
      · obtain rfl : v = j := by omega
        exact r2
      · by_cases e : i = q.length
        · subst e
          rw [hpre, hat, Int.toNat_natCast]; exact h4
        · exact r6 i (by simp; omega) hi2
theorem burn_both (n : Nat) (hn : n ≤ 6) (es : List S70) (hl : es.length ≤ 12) (d : List Int) (hd : d.length = n) (q : Nat) (hq : q < n) :
    ∃ r, Ev (fun k => impl_burn.f k n es d q) r ∧ Ev (fun k => spec_l05Burn.f k n es d q) r ∧ BInv n r ∧ r.take 1 = [(q : Int)] ∧ (∀ v : Nat, v < n → hotB n es d r v = false) ∧ ∀ j, 1 ≤ j → j < r.length → hotB n es d (r.take j) (r.getD j 0).toNat = true := by
  obtain ⟨r, h1, h2, h3, h4, h5, h6⟩ := burn_from n hn es hl d hd (n - 1) [(q : Int)] ((List.replicate n false).set q true) ⟨by simp, fun v hv => by simp at hv; omega⟩ (by simp; omega) (by simp) (fun v => by
    rw [List.getD_eq_getElem?_getD, List.getElem?_set]
    by_cases e : q = v
    · subst e
      rw [if_pos rfl, if_pos (by simpa using hq)]; simp
    · rw [if_neg e]
      have : ¬ (v : Int) = q := by omega
      simp only [List.mem_singleton, this, decide_false, List.getElem?_replicate]
      split <;> rfl)
  refine ⟨r, ?_, ?_, h3, h4, h5, h6⟩
  · simp only [impl_burn.f]; exact h1
  · simp only [spec_l05Burn.f, Option.bind_some]
    refine ev_ift (by omega) (ev_ift (by omega) (ev_ift (by omega) (ev_ift (by simp; omega) ?_)))
    rw [Int.toNat_natCast, Int.toNat_natCast]
    exact h2
theorem burn_mem {r : List Int} {q : Int} (h : r.take 1 = [q]) : q ∈ r := by
  have : q ∈ r.take 1 := by rw [h]; simp
  exact List.mem_of_mem_take this
end Go.Proofs.Ytnebapnfkolflaa.Pure
end
section
set_option linter.unusedVariables false
set_option linter.unusedSimpArgs false
namespace Go.Proofs.Ytnebapnfkolflaa.Pure
open Go.RowKit Go.Proofs.Ytnebapnfkolflaa.P Go.Proofs.YtnebapnfkolflaaW.PrintWords Go.Proofs.YtnebapnfkolflaaW.PrintLast Go.Proofs.YtnebapnfkolflaaW.PrintMore Go.Proofs.Ytnebapnfkolflaa.Base Go.Proofs.Ytnebapnfkolflaa.Reduce Go.Proofs.Ytnebapnfkolflaa.Loops Go.Proofs.Ytnebapnfkolflaa.Bits
theorem least_ (P : Nat → Prop) : (∃ j, P j) → ∃ j, P j ∧ ∀ i, i < j → ¬ P i := by
  intro ⟨j, hj⟩
  have main : ∀ j, P j → ∃ j, P j ∧ ∀ i, i < j → ¬ P i := by
    intro j
    induction j using Nat.strongRecOn with
    | _ j ih =>
      intro hj
      by_cases h : ∃ i, i < j ∧ P i
      · obtain ⟨i, h1, h2⟩ := h
        exact ih i h1 h2
      · exact ⟨j, hj, fun i hi hp => h ⟨i, hi, hp⟩⟩
  exact main j hj
def XF (n : Nat) (es : List S70) (D s : List Int) : Nat → Int := fun v => D.getD v 0 - lap n (mE n es) (fun w => s.getD w 0) v
structure Start (n : Nat) (es : List S70) (D : List Int) (q : Nat) : Prop where
  g : GraphP n es
  q : q < n
  len : D.length = n
  b : ∀ u : Nat, -60 ≤ D.getD u 0 ∧ D.getD u 0 ≤ 60
theorem addAt_get (n : Nat) (s : List Int) (v : Nat) (t : Int) (hs : s.length = n) (hv : v < n) (j : Nat) : (addAt s v t).getD j 0 = s.getD j 0 + (if j = v then t else 0) := by
  unfold addAt
  rw [getD_set _ _ _ _ (by omega)]
  by_cases e : v = j
  · rw [if_pos e, if_pos e.symm, e]
  · rw [if_neg e, if_neg (fun h => e h.symm)]; omega
theorem addAt_len (s : List Int) (v : Nat) (t : Int) : (addAt s v t).length = s.length := by simp [addAt]
def bumpTo (r s : List Int) : Nat → List Int
  | 0 => s
  | i + 1 => if (i : Int) ∈ r then bumpTo r s i else addAt (bumpTo r s i) i 1
theorem bump_len (r s : List Int) : ∀ i, (bumpTo r s i).length = s.length := by
  intro i
  induction i with
  | zero => rfl
  | succ i ih => simp only [bumpTo]; split <;> simp [addAt_len, ih]
theorem bump_get (n : Nat) (r s : List Int) (hs : s.length = n) : ∀ i, i ≤ n → ∀ j, (bumpTo r s i).getD j 0 = s.getD j 0 + (if j < i ∧ (j : Int) ∉ r then 1 else 0) := by
  intro i
  induction i with
  | zero => intro _ j; rw [if_neg (by omega)]; simp [bumpTo]
  | succ i ih =>
    intro hi j
    have h := ih (by omega) j
    simp only [bumpTo]
    by_cases c : (i : Int) ∈ r
    · rw [if_pos c, h]
      by_cases d : j < i ∧ (j : Int) ∉ r
      · rw [if_pos d, if_pos ⟨by omega, d.2⟩]
      · rw [if_neg d, if_neg (fun h => d ⟨by
          by_cases e : j = i
          · subst e; exact absurd c h.2
          · omega, h.2⟩)]
    · rw [if_neg c, addAt_get n _ i 1 (by rw [bump_len]; exact hs) (by omega), h]
      by_cases e : j = i
      · subst e
        rw [if_neg (by omega), if_pos rfl, if_pos ⟨by omega, c⟩]; omega
      · rw [if_neg e]
        by_cases d : j < i ∧ (j : Int) ∉ r
        · rw [if_pos d, if_pos ⟨by omega, d.2⟩]; omega
        · rw [if_neg d, if_neg (fun h => d ⟨by omega, h.2⟩)]; omega
theorem sumB_sumN (n : Int) (es : List S70) (v : Int) (q : List Int) : ∀ m : Nat, sumB n es v q m = sumN (fun w => if (w : Int) ∈ q then multI n es v w else 0) m := by
  intro m
  induction m with
  | zero => rfl
  | succ m ih => simp only [sumB, sumN, ih]
theorem binv_all {n : Nat} {r : List Int} (h : BInv n r) (hl : r.length = n) (v : Nat) (hv : v < n) : (v : Int) ∈ r := by
  by_cases c : (v : Int) ∈ r
  · exact c
  · have := binv_len (binv_add h c ⟨by omega, by omega⟩)
    simp at this
    omega
theorem binv_some {n : Nat} {r : List Int} (h : BInv n r) (hl : r.length ≠ n) : ∃ v : Nat, v < n ∧ (v : Int) ∉ r := by
  refine Classical.byContradiction fun hno => ?_
  have hall : ∀ v : Nat, v < n → (v : Int) ∈ r := fun v hv => Classical.byContradiction fun h => hno ⟨v, hv, h⟩
  have h1 := binv_len h
  have hd : ((List.range n).map fun i : Nat => (i : Int)).Nodup :=
     List.Pairwise.map _ (fun a b h e => h (by omega)) List.nodup_range
  have := List.Nodup.length_le_of_subset hd (l₂ := r) (fun x hx => by
    obtain ⟨i, hi, rfl⟩ := List.mem_map.1 hx
    exact hall i (List.mem_range.1 hi))
  simp at this
  omega
theorem red_of (n : Nat) (es : List S70) (x r : List Int) (q : Nat) (X : Nat → Int) (hX : ∀ v, v < n → x.getD v 0 = X v) (hnd : ∀ v, v < n → v ≠ q → 0 ≤ X v)
    (hr : BInv n r) (hl : r.length = n) (h1 : r.take 1 = [(q : Int)]) (hot : ∀ j, 1 ≤ j → j < r.length → hotB n es x (r.take j) (r.getD j 0).toNat = true) : Red n (mE n es) q X := by
  refine ⟨hnd, fun A hA hex => ?_⟩
  obtain ⟨u, hu⟩ := hex
  have hur := binv_all hr hl u (hA u hu).1
  obtain ⟨j0, hj0, hj1⟩ := List.mem_iff_getElem.1 hur
  obtain ⟨j, ⟨hj, hAj⟩, hmin⟩ := least_ (fun j => j < r.length ∧ A (r.getD j 0).toNat = true) ⟨j0, hj0, by
    rw [List.getD_eq_getElem?_getD, List.getElem?_eq_getElem hj0, Option.getD_some, hj1, Int.toNat_natCast]; exact hu⟩
  have hjr : r.getD j 0 ∈ r := by
    rw [List.getD_eq_getElem?_getD, List.getElem?_eq_getElem hj, Option.getD_some]; exact List.getElem_mem _
  have hb := hr.2 _ hjr
  have hj1 : 1 ≤ j := by
    rcases Nat.eq_zero_or_pos j with e | e
    · subst e
      have hq : r.getD 0 0 = (q : Int) := by
        cases r with
        | nil => simp at hj
        | cons a r => simp at h1 ⊢; exact h1
      rw [hq, Int.toNat_natCast] at hAj
      exact absurd rfl (hA q hAj).2
    · exact e
  have hh := hot j hj1 hj
  refine ⟨(r.getD j 0).toNat, hAj, ?_⟩
  simp only [hotB, Bool.and_eq_true, decide_eq_true_eq] at hh
  have hlt := hh.2
  rw [hX _ (by omega)] at hlt
  have hsub : ∀ w ∈ r.take j, 0 ≤ w ∧ w < (n : Int) := fun w hw => hr.2 w (List.mem_of_mem_take hw)
  rw [← sumB_eq n es _ n (r.take j) (List.Sublist.nodup (List.take_sublist j r) hr.1) hsub, sumB_sumN] at hlt
  refine Int.lt_of_lt_of_le hlt (sumN_le fun w hw => ?_)
  by_cases c : (w : Int) ∈ r.take j
  · rw [if_pos c]
    have hnA : ¬ A w = true := by
      intro hAw
      obtain ⟨i, hi, hiw⟩ := List.mem_iff_getElem.1 c
      have hij : i < j := by rw [List.length_take] at hi; omega
      refine hmin i hij ⟨by omega, ?_⟩
      rw [List.getElem_take] at hiw
      rw [List.getD_eq_getElem?_getD, List.getElem?_eq_getElem (by omega), Option.getD_some, hiw, Int.toNat_natCast]
      exact hAw
    rw [if_neg hnA]; exact Int.le_refl _
  · rw [if_neg c]
    by_cases d : A w = true
    · rw [if_pos d]; exact Int.le_refl _
    · rw [if_neg d]; exact multI_nonneg _ _ _ _
theorem bump_ok (n : Nat) (es : List S70) (D s x r : List Int) (q : Nat) (hs : s.length = n) (hX : ∀ v, v < n → x.getD v 0 = XF n es D s v) (hnd : ∀ v, v < n → v ≠ q → 0 ≤ XF n es D s v)
    (hr : BInv n r) (hq : (q : Int) ∈ r) (cold : ∀ v, v < n → hotB n es x r v = false) : ∀ v, v < n → v ≠ q → 0 ≤ XF n es D (bumpTo r s n) v := by
  intro v hv hvq
  have h1 : lap n (mE n es) (fun w => (bumpTo r s n).getD w 0) v = lap n (mE n es) (fun w => s.getD w 0 + (if w < n ∧ (w : Int) ∉ r then 1 else 0)) v :=
    lap_congr hv fun w _ => bump_get n r s hs n (Nat.le_refl _) w
  have h2 := lap_add n (mE n es) (fun w => s.getD w 0) (fun w => if w < n ∧ (w : Int) ∉ r then 1 else 0) v
  have h0 := hnd v hv hvq
  unfold XF at h0 ⊢
  rw [h1, h2]
  by_cases c : (v : Int) ∈ r
  · have : lap n (mE n es) (fun w => if w < n ∧ (w : Int) ∉ r then 1 else 0) v ≤ sumN (fun _ => 0) n := by
      unfold lap
      refine sumN_le fun w _ => ?_
      dsimp only
      rw [if_neg (show ¬ (v < n ∧ (v : Int) ∉ r) from fun h => h.2 c)]
      have hm := multI_nonneg n es v w
      by_cases d : w < n ∧ (w : Int) ∉ r
      · rw [if_pos d]
        show multI n es v w * (0 - 1) ≤ 0
        omega
      · rw [if_neg d]; simp
    rw [sumN_zero] at this
    omega
  · have hc := cold v hv
    have hx := hX v hv
    simp only [hotB, decide_eq_false c, Bool.not_false, Bool.true_and, decide_eq_false_iff_not] at hc
    have : lap n (mE n es) (fun w => if w < n ∧ (w : Int) ∉ r then 1 else 0) v = sumQ n es v r := by
      rw [← sumB_eq n es v n r hr.1 hr.2, sumB_sumN]
      unfold lap
      refine sumN_congr fun w hw => ?_
      dsimp only
      rw [if_pos ⟨hv, c⟩]
      by_cases d : (w : Int) ∈ r
      · rw [if_pos d, if_neg (show ¬ (w < n ∧ (w : Int) ∉ r) from fun h => h.2 d)]
        show multI n es v w * (1 - 0) = _
        omega
      · rw [if_neg d, if_pos (show w < n ∧ (w : Int) ∉ r from ⟨hw, d⟩)]; simp
    unfold XF at hx
    omega
end Go.Proofs.Ytnebapnfkolflaa.Pure
end
section
set_option linter.unusedVariables false
set_option linter.unusedSimpArgs false
namespace Go.Proofs.Ytnebapnfkolflaa.Pure
open Go.RowKit Go.Proofs.Ytnebapnfkolflaa.P Go.Proofs.YtnebapnfkolflaaW.PrintWords Go.Proofs.YtnebapnfkolflaaW.PrintLast Go.Proofs.YtnebapnfkolflaaW.PrintMore Go.Proofs.Ytnebapnfkolflaa.Base Go.Proofs.Ytnebapnfkolflaa.Loops
def debtF (q : Int) : Nat → List Int → Option Nat
  | _, [] => none
  | i, x :: r => if (i : Int) = q then debtF q (i + 1) r else if x < 0 then some i else debtF q (i + 1) r
def debtI (q : Int) (d : List Int) : Int := match debtF q 0 d with
  | some v => v
  | none => -1
theorem debtF_none (q : Int) : ∀ (l : List Int) (i : Nat), debtF q i l = none → ∀ j, j < l.length → ((i + j : Nat) : Int) ≠ q → 0 ≤ l.getD j 0 := by
  intro l
  induction l with
  | nil => intro i _ j hj; simp at hj
  | cons x r ih =>
    intro i h j hj hne
    simp only [debtF] at h
    cases j with
    | zero =>
      rw [if_neg (by simpa using hne)] at h
      by_cases hx : x < 0
      · rw [if_pos hx] at h; cases h
      · simp; omega
    | succ j =>
      have h' : debtF q (i + 1) r = none := by
        by_cases e : (i : Int) = q
        · rw [if_pos e] at h; exact h
        · rw [if_neg e] at h
          by_cases hx : x < 0
          · rw [if_pos hx] at h; cases h
          · rw [if_neg hx] at h; exact h
      have := ih (i + 1) h' j (by simpa using hj) (by rw [show i + 1 + j = i + (j + 1) by omega]; exact hne)
      simpa using this
theorem debtF_some (q : Int) : ∀ (l : List Int) (i v : Nat), debtF q i l = some v → i ≤ v ∧ v < i + l.length ∧ (v : Int) ≠ q ∧ l.getD (v - i) 0 < 0 := by
  intro l
  induction l with
  | nil => intro i v h; cases h
  | cons x r ih =>
    intro i v h
    have next : debtF q (i + 1) r = some v → i ≤ v ∧ v < i + (x :: r).length ∧ (v : Int) ≠ q ∧ (x :: r).getD (v - i) 0 < 0 := by
      intro h'
      obtain ⟨h1, h2, h3, h4⟩ := ih (i + 1) v h'
      refine ⟨by omega, by simp; omega, h3, ?_⟩
      rw [show v - i = (v - (i + 1)) + 1 by omega]
      simpa using h4
    simp only [debtF] at h
    by_cases e : (i : Int) = q
    · rw [if_pos e] at h; exact next h
    · rw [if_neg e] at h
      by_cases hx : x < 0
      · rw [if_pos hx] at h
        injection h with h
        subst h
        exact ⟨Nat.le_refl _, by simp, e, by simpa using hx⟩
      · rw [if_neg hx] at h; exact next h
theorem inDebt_ev (d : List Int) (q : Int) (hd : d.length < 4611686018427387904) : Ev (fun k => impl_inDebt.f k d q) (debtI q d) := by
  simp only [impl_inDebt.f]
  have main : ∀ (rest : List Int) (i : Nat), i ≤ d.length → d.drop i = rest → Ev (fun k => impl_inDebt.l0 k q d (d.length : Int) (i : Int)) (match debtF q i rest with
      | some v => (v : Int)
      | none => -1) := by
    intro rest
    induction rest with
    | nil =>
      intro i hi hdr
      have := drop_nil hdr
      refine ev1 fun k => ?_
      simp only [impl_inDebt.l0, debtF]
      rw [if_neg (by omega)]
    | cons x r ih =>
      intro i hi hdr
      have hlt := drop_lt hdr
      have h := ih (i + 1) (by omega) (drop_next hdr)
      refine ev_succ ?_
      simp only [impl_inDebt.l0, rd_drop hdr, debtF, wrap_succ (show i < 4611686018427387904 by omega)]
      refine ev_ift (by omega) (ev_ift (by omega) (ev_ift (by omega) ?_))
      by_cases e : (i : Int) = q
      · rw [if_pos e]; exact ev_ift e h
      · rw [if_neg e]
        refine ev_ifn e ?_
        by_cases hx : x < 0
        · rw [if_pos hx]; exact ev_ift hx (Ev.now _)
        · rw [if_neg hx]; exact ev_ifn hx h
  exact main d 0 (by omega) rfl
theorem specDebt_ev (d : List Int) (q : Int) (hd : d.length < 4611686018427387904) : Ev (fun k => spec_l05Debt.f k d q) (debtF q 0 d).isSome := by
  simp only [spec_l05Debt.f]
  have main : ∀ (rest : List Int) (i : Nat), i ≤ d.length → d.drop i = rest → Ev (fun k => spec_l05Debt.l0 k q d (d.length : Int) (i : Int)) (debtF q i rest).isSome := by
    intro rest
    induction rest with
    | nil =>
      intro i hi hdr
      have := drop_nil hdr
      refine ev1 fun k => ?_
      simp only [spec_l05Debt.l0, debtF]
      rw [if_neg (by omega)]; rfl
    | cons x r ih =>
      intro i hi hdr
      have hlt := drop_lt hdr
      have h := ih (i + 1) (by omega) (drop_next hdr)
      refine ev_succ ?_
      simp only [spec_l05Debt.l0, rd_drop hdr, debtF, wrap_succ (show i < 4611686018427387904 by omega)]
      refine ev_ift (by omega) (ev_ift (by omega) (ev_ift (by omega) ?_))
      by_cases e : (i : Int) = q
      · rw [if_pos e]; exact ev_ift e h
      · rw [if_neg e]
        refine ev_ifn e ?_
        by_cases hx : x < 0
        · rw [if_pos hx]; exact ev_ift hx (Ev.now _)
        · rw [if_neg hx]; exact ev_ifn hx h
  exact main d 0 (by omega) rfl
end Go.Proofs.Ytnebapnfkolflaa.Pure
end
section
set_option linter.unusedVariables false
set_option linter.unusedSimpArgs false
namespace Go.Proofs.Ytnebapnfkolflaa.Pure
open Go.RowKit Go.Proofs.Ytnebapnfkolflaa.P Go.Proofs.YtnebapnfkolflaaW.PrintWords Go.Proofs.YtnebapnfkolflaaW.PrintLast Go.Proofs.YtnebapnfkolflaaW.PrintMore Go.Proofs.Ytnebapnfkolflaa.Base Go.Proofs.Ytnebapnfkolflaa.Reduce Go.Proofs.Ytnebapnfkolflaa.Loops Go.Proofs.Ytnebapnfkolflaa.Bits
theorem rd_n (l : List Int) (v : Nat) : rd l (v : Int) = l.getD v 0 := by unfold rd; rw [Int.toNat_natCast]
theorem getD_all {n : Nat} {s : List Int} {B : Int} (hs : s.length = n) (hB : 0 ≤ B) (h : ∀ w, w < n → -B ≤ s.getD w 0 ∧ s.getD w 0 ≤ B) (w : Nat) : -B ≤ s.getD w 0 ∧ s.getD w 0 ≤ B := by
  by_cases c : w < n
  · exact h w c
  · have : s.getD w 0 = 0 := by rw [List.getD_eq_getElem?_getD, List.getElem?_eq_none (by omega)]; rfl
    rw [this]; omega
structure Inv1 (n q : Nat) (σ : Nat → Int) (s : List Int) : Prop where
  len : s.length = n
  z : s.getD q 0 = 0
  b : ∀ w, w < n → -(σ w) ≤ s.getD w 0 ∧ s.getD w 0 ≤ 0
structure Resc (n : Nat) (es : List S70) (q : Nat) (σ : Nat → Int) : Prop where
  z : σ q = 0
  b : ∀ v, 0 ≤ σ v ∧ σ v ≤ 1357260
  l : ∀ v, v < n → v ≠ q → 60 ≤ lap n (mE n es) σ v
theorem start64 {n q : Nat} {es : List S70} {D : List Int} (S : Start n es D q) : In64 D := fun u => wrap_id (by have := S.b u; omega) (by have := S.b u; omega)
theorem xd_xf {n q : Nat} {es : List S70} {D s : List Int} (S : Start n es D q) (hs : s.length = n) (hb : ∀ w, w < n → -1000000000000 ≤ s.getD w 0 ∧ s.getD w 0 ≤ 1000000000000) (u : Nat) (hu : u < n) : (XD es D s).getD u 0 = XF n es D s u :=
  xd_val n es D s S.g S.len hs S.b 1000000000000 (by omega) (by omega) (fun w => getD_all hs (by omega) hb w) u hu
theorem inv1_b {n q : Nat} {es : List S70} {σ : Nat → Int} {s : List Int} (R : Resc n es q σ) (h : Inv1 n q σ s) (w : Nat) (hw : w < n) : -1000000000000 ≤ s.getD w 0 ∧ s.getD w 0 ≤ 1000000000000 := by
  have := h.b w hw; have := R.b w; omega
theorem xf_bound {n q : Nat} {es : List S70} {D s : List Int} (S : Start n es D q) (B : Int) (hB : 0 ≤ B) (hb : ∀ w, w < n → -B ≤ s.getD w 0 ∧ s.getD w 0 ≤ B) (u : Nat) (hu : u < n) : -60 - 24 * B ≤ XF n es D s u ∧ XF n es D s u ≤ 60 + 24 * B := by
  have := lap_bound n es S.g (fun w => s.getD w 0) B hB hb u hu
  have := S.b u
  unfold XF
  omega
theorem inv1_borrow {n q : Nat} {es : List S70} {D s : List Int} {σ : Nat → Int} (S : Start n es D q) (R : Resc n es q σ) (h : Inv1 n q σ s) (v : Nat) (hv : v < n) (hvq : v ≠ q) (t : Int) (ht : 1 ≤ t)
    (hd : XF n es D s v + sumN (mE n es v) n * (t - 1) < 0) : Inv1 n q σ (addAt s v (-t)) ∧ sumN (fun w => σ w + (addAt s v (-t)).getD w 0) n = sumN (fun w => σ w + s.getD w 0) n - t := by
  have G := gr_of n es S.g
  have hl := lap_neg n (mE n es) (fun w => s.getD w 0) v
  have hle := borrow_le G (q := q) (v := v) (D := fun w => D.getD w 0) (b := fun w => - s.getD w 0) (σ := σ) hv hvq (S.b v).1 (R.l v hv hvq) (fun w hw => by have := h.b w hw; omega) t (by
    unfold XF at hd
    rw [hl]
    omega)
  (try dsimp only at hle)
  have hg := addAt_get n s v (-t) h.len hv
  refine ⟨⟨by rw [addAt_len]; exact h.len, ?_, fun w hw => ?_⟩, ?_⟩
  · rw [hg q, if_neg (fun e => hvq e.symm), h.z]; rfl
  · rw [hg w]
    have := h.b w hw
    by_cases e : w = v
    · rw [if_pos e]; subst e; omega
    · rw [if_neg e]; omega
  · have hu := sumN_upd (fun w => σ w + s.getD w 0) n v (σ v + s.getD v 0 - t) hv
    have : sumN (fun w => σ w + (addAt s v (-t)).getD w 0) n = sumN (fun i => if i = v then σ v + s.getD v 0 - t else (fun w => σ w + s.getD w 0) i) n := sumN_congr fun w _ => by
      rw [hg w]
      by_cases e : w = v
      · rw [if_pos e, if_pos e, e]; omega
      · rw [if_neg e, if_neg e]
        show σ w + (s.getD w 0 + 0) = σ w + s.getD w 0
        omega
    rw [this, hu]; omega
theorem inv1_sum {n q : Nat} {σ : Nat → Int} {s : List Int} (h : Inv1 n q σ s) : 0 ≤ sumN (fun w => σ w + s.getD w 0) n := sumN_nonneg fun w hw => by have := h.b w hw; omega
theorem phase1I {n q : Nat} {es : List S70} {D : List Int} {σ : Nat → Int} (S : Start n es D q) (R : Resc n es q σ) (hl : es.length ≤ 12) (hn : n ≤ 6) :
    ∀ (c : Nat) (s : List Int), Inv1 n q σ s → sumN (fun w => σ w + s.getD w 0) n ≤ c → ∃ s1, Inv1 n q σ s1 ∧ (∀ v, v < n → v ≠ q → 0 ≤ XF n es D s1 v) ∧
      ∀ r, Ev (fun k => impl_reduce.l1 k (q : Int) (XD es D s1) s1 n es) r → Ev (fun k => impl_reduce.l0 k (q : Int) (XD es D s) s (debtI q (XD es D s)) n es) r := by
  have he := (edgesB_facts S.g.1).2.2.2
  have G := gr_of n es S.g
  intro c
  induction c with
  | zero =>
    intro s h hc
    have hz := inv1_sum h
    have hlen := xd_len n es D s he S.len (start64 S)
    cases hf : debtF q 0 (XD es D s) with
    | none =>
      refine ⟨s, h, fun v hv hvq => ?_, fun r hr => ev_succ ?_⟩
      · rw [← xd_xf S h.len (fun w hw => inv1_b R h w hw) v hv]
        exact debtF_none q _ 0 hf v (by omega) (by omega)
      · have hi : debtI q (XD es D s) = -1 := by unfold debtI; rw [hf]
        simp only [impl_reduce.l0, hi]
        exact ev_ifn (by decide) hr
    | some v =>
      exfalso
      obtain ⟨_, h2, h3, h4⟩ := debtF_some q _ 0 v hf
      rw [Nat.sub_zero, xd_xf S h.len (fun w hw => inv1_b R h w hw) v (by omega)] at h4
      have hb := inv1_borrow S R h v (by omega) (by omega) 1 (by omega) (by rw [show (1 : Int) - 1 = 0 by omega, Int.mul_zero]; omega)
      have := inv1_sum hb.1
      omega
  | succ c ih =>
    intro s h hc
    have hlen := xd_len n es D s he S.len (start64 S)
    cases hf : debtF q 0 (XD es D s) with
    | none =>
      refine ⟨s, h, fun v hv hvq => ?_, fun r hr => ev_succ ?_⟩
      · rw [← xd_xf S h.len (fun w hw => inv1_b R h w hw) v hv]
        exact debtF_none q _ 0 hf v (by omega) (by omega)
      · have hi : debtI q (XD es D s) = -1 := by unfold debtI; rw [hf]
        simp only [impl_reduce.l0, hi]
        exact ev_ifn (by decide) hr
    | some v =>
      obtain ⟨_, h2, h3, h4⟩ := debtF_some q _ 0 v hf
      rw [Nat.sub_zero] at h4
      have hv : v < n := by omega
      have hvq : v ≠ q := by omega
      have hxv := xd_xf S h.len (fun w hw => inv1_b R h w hw) v hv
      have hxb := xf_bound (s := s) S 1357260 (by omega) (fun w hw => by have := h.b w hw; have := R.b w; omega) v hv
      have hN := val_sum n v hv es he
      have hN0 := val_pos G S.q hv hvq
      have hN12 := G.val v hv
      generalize hNe : sumN (mE n es v) n = N at *
      generalize hXe : XF n es D s v = X at *
      have ew1 : wrap64 (wrap64 (N - 1) - X) = N - 1 - X := by rw [wrap_id (i := N - 1) (by omega) (by omega)]; exact wrap_id (by omega) (by omega)
      have htd : Int.tdiv (N - 1 - X) N = (N - 1 - X) / N := Int.tdiv_eq_ediv_of_nonneg (by omega)
      generalize hte : (N - 1 - X) / N = t at *
      have ht1 : N * t ≤ N - 1 - X := by rw [← hte]; exact Int.mul_ediv_self_le (by omega)
      have ht2 : N - 1 - X < N * t + N := by
        have := Int.lt_mul_ediv_self_add (x := N - 1 - X) (k := N) (by omega)
        rw [hte] at this; exact this
      have ht3 : 1 ≤ t := by
        refine Classical.byContradiction fun hno => ?_
        have : N * t ≤ N * 0 := Int.mul_le_mul_of_nonneg_left (by omega) (by omega)
        omega
      have ht4 : t ≤ N * t := by
        have := Int.mul_le_mul_of_nonneg_right (show 1 ≤ N by omega) (show 0 ≤ t by omega)
        omega
      have hb := inv1_borrow S R h v hv hvq t ht3 (by rw [hXe, hNe, Int.mul_sub]; omega)
      obtain ⟨s1, i1, i2, i3⟩ := ih (addAt s v (-t)) hb.1 (by rw [hb.2]; omega)
      refine ⟨s1, i1, i2, fun r hr => ev_succ ?_⟩
      have hi : debtI q (XD es D s) = v := by unfold debtI; rw [hf]
      have hsv := h.b v hv
      have hsb := R.b v
      have ew2 : wrap64 (Int.tdiv (N - 1 - X) N) = t := by rw [htd]; exact wrap_id (by omega) (by omega)
      have ew3 : wrap64 (-t) = -t := wrap_id (by omega) (by omega)
      have ew4 : wrap64 (s.getD v 0 - t) = s.getD v 0 + -t := by rw [wrap_id (by omega) (by omega)]; omega
      simp only [impl_reduce.l0, hi]
      refine ev_ift (by omega) (Ev.bind (impl_val_ev n es (by omega) v) ?_)
      simp only [hN, rd_n, hxv, ew1, ew2, ew3, ew4]
      refine ev_ift (by omega) (ev_ift (by omega) (ev_ifn (by omega) (Ev.bind (impl_fire_ev n es (XD es D s) v (-t) he hlen hn (by omega) n) ?_)))
      rw [xd_fire n es D s he S.len h.len (start64 S) v hv (-t)]
      refine ev_ift (by have := h.len; omega) (Ev.bind (inDebt_ev _ q (by rw [xd_len n es D _ he S.len (start64 S)]; omega)) ?_)
      have hset : s.set ((v : Int)).toNat (s.getD v 0 + -t) = addAt s v (-t) := by rw [Int.toNat_natCast]; rfl
      rw [hset]
      exact i3 r hr
end Go.Proofs.Ytnebapnfkolflaa.Pure
end
section
set_option linter.unusedVariables false
set_option linter.unusedSimpArgs false
namespace Go.Proofs.Ytnebapnfkolflaa.Pure
open Go.RowKit Go.Proofs.Ytnebapnfkolflaa.P Go.Proofs.YtnebapnfkolflaaW.PrintWords Go.Proofs.YtnebapnfkolflaaW.PrintLast Go.Proofs.YtnebapnfkolflaaW.PrintMore Go.Proofs.Ytnebapnfkolflaa.Base Go.Proofs.Ytnebapnfkolflaa.Reduce Go.Proofs.Ytnebapnfkolflaa.Loops Go.Proofs.Ytnebapnfkolflaa.Bits
theorem passS {n q : Nat} {es : List S70} {D : List Int} {σ : Nat → Int} (S : Start n es D q) (R : Resc n es q σ) (hl : es.length ≤ 12) (hn : n ≤ 6) :
    ∀ (d i : Nat) (s : List Int), i + d = n → Inv1 n q σ s → ∃ s', Inv1 n q σ s' ∧ sumN (fun w => σ w + s'.getD w 0) n ≤ sumN (fun w => σ w + s.getD w 0) n ∧
      (sumN (fun w => σ w + s'.getD w 0) n < sumN (fun w => σ w + s.getD w 0) n ∨ ∀ v, i ≤ v → v < n → v ≠ q → 0 ≤ XF n es D s v) ∧
      ∀ r, Ev (fun k => spec_l05Reduce.l0 k D (q : Int) s' (XD es D s') n es) r → Ev (fun k => spec_l05Reduce.l1 k D (q : Int) s (XD es D s) (n : Int) (i : Int) n es) r := by
  have he := (edgesB_facts S.g.1).2.2.2
  intro d
  induction d with
  | zero =>
    intro i s hi h
    refine ⟨s, h, Int.le_refl _, Or.inr fun v h1 h2 => by omega, fun r hr => ev_succ ?_⟩
    simp only [spec_l05Reduce.l1]
    exact ev_ifn (by omega) hr
  | succ d ih =>
    intro i s hi h
    have hlen := xd_len n es D s he S.len (start64 S)
    have hsl := h.len
    by_cases hiq : i = q
    · obtain ⟨s', i1, i2, i3, i4⟩ := ih (i + 1) s (by omega) h
      refine ⟨s', i1, i2, i3.imp id fun hv v h1 h2 h3 => hv v (by omega) h2 h3, fun r hr => ev_succ ?_⟩
      simp only [spec_l05Reduce.l1, wrap_succ (show i < 4611686018427387904 by omega)]
      exact ev_ift (by omega) (ev_ift (by omega) (i4 r hr))
    · have hx := xd_xf S h.len (fun w hw => inv1_b R h w hw) i (by omega)
      by_cases hc : XF n es D s i < 0
      · have hb := inv1_borrow S R h i (by omega) hiq 1 (by omega) (by rw [show (1 : Int) - 1 = 0 by omega, Int.mul_zero]; omega)
        obtain ⟨s', i1, i2, i3, i4⟩ := ih (i + 1) (addAt s i (-1)) (by omega) hb.1
        refine ⟨s', i1, by rw [hb.2] at i2; omega, Or.inl (by rw [hb.2] at i2; omega), fun r hr => ev_succ ?_⟩
        have hsv := h.b i (by omega)
        have hsb := R.b i
        have ew : wrap64 (s.getD i 0 - 1) = s.getD i 0 + -1 := by rw [wrap_id (by omega) (by omega)]; omega
        have hset : s.set i (s.getD i 0 + -1) = addAt s i (-1) := rfl
        simp only [spec_l05Reduce.l1, rd_n, hx, ew, Int.toNat_natCast, hset, Option.bind_some, wrap_succ (show i < 4611686018427387904 by omega)]
        refine ev_ift (by omega) (ev_ifn (by omega) (ev_ift (by omega) (ev_ift (by omega) (ev_ift hc (ev_ift (by omega) (Ev.bind (spec_fire_ev n es D (addAt s i (-1)) he S.len (by rw [addAt_len]; exact h.len) hn (by omega) n) ?_))))))
        exact i4 r hr
      · obtain ⟨s', i1, i2, i3, i4⟩ := ih (i + 1) s (by omega) h
        refine ⟨s', i1, i2, i3.imp id fun hv v h1 h2 h3 => ?_, fun r hr => ev_succ ?_⟩
        · by_cases e : v = i
          · subst e; omega
          · exact hv v (by omega) h2 h3
        · simp only [spec_l05Reduce.l1, rd_n, hx, wrap_succ (show i < 4611686018427387904 by omega)]
          exact ev_ift (by omega) (ev_ifn (by omega) (ev_ift (by omega) (ev_ift (by omega) (ev_ifn hc (i4 r hr)))))
theorem phase1S {n q : Nat} {es : List S70} {D : List Int} {σ : Nat → Int} (S : Start n es D q) (R : Resc n es q σ) (hl : es.length ≤ 12) (hn : n ≤ 6) :
    ∀ (c : Nat) (s : List Int), Inv1 n q σ s → sumN (fun w => σ w + s.getD w 0) n ≤ c → ∃ s1, Inv1 n q σ s1 ∧ (∀ v, v < n → v ≠ q → 0 ≤ XF n es D s1 v) ∧
      ∀ r, Ev (fun k => spec_l05Reduce.l2 k D (q : Int) s1 (XD es D s1) n es) r → Ev (fun k => spec_l05Reduce.l0 k D (q : Int) s (XD es D s) n es) r := by
  have he := (edgesB_facts S.g.1).2.2.2
  have done_ : ∀ s, Inv1 n q σ s → debtF q 0 (XD es D s) = none → ∃ s1, Inv1 n q σ s1 ∧ (∀ v, v < n → v ≠ q → 0 ≤ XF n es D s1 v) ∧
      ∀ r, Ev (fun k => spec_l05Reduce.l2 k D (q : Int) s1 (XD es D s1) n es) r → Ev (fun k => spec_l05Reduce.l0 k D (q : Int) s (XD es D s) n es) r := by
    intro s h hf
    have hlen := xd_len n es D s he S.len (start64 S)
    have hd := specDebt_ev (XD es D s) q (by omega)
    rw [hf] at hd
    refine ⟨s, h, fun v hv hvq => ?_, fun r hr => ev_succ ?_⟩
    · rw [← xd_xf S h.len (fun w hw => inv1_b R h w hw) v hv]
      exact debtF_none q _ 0 hf v (by omega) (by omega)
    · simp only [spec_l05Reduce.l0]
      exact Ev.bind hd (ev_iff hr)
  have next_ : ∀ s v, Inv1 n q σ s → debtF q 0 (XD es D s) = some v → ∃ s', Inv1 n q σ s' ∧ sumN (fun w => σ w + s'.getD w 0) n < sumN (fun w => σ w + s.getD w 0) n ∧
      ∀ r, Ev (fun k => spec_l05Reduce.l0 k D (q : Int) s' (XD es D s') n es) r → Ev (fun k => spec_l05Reduce.l0 k D (q : Int) s (XD es D s) n es) r := by
    intro s v h hf
    have hlen := xd_len n es D s he S.len (start64 S)
    have hd := specDebt_ev (XD es D s) q (by omega)
    rw [hf] at hd
    obtain ⟨_, h2, h3, h4⟩ := debtF_some q _ 0 v hf
    rw [Nat.sub_zero, xd_xf S h.len (fun w hw => inv1_b R h w hw) v (by omega)] at h4
    obtain ⟨s', i1, _, i3, i4⟩ := passS S R hl hn n 0 s (by omega) h
    refine ⟨s', i1, i3.elim id fun hv => ?_, fun r hr => ev_succ ?_⟩
    · have := hv v (by omega) (by omega) (by omega)
      omega
    · simp only [spec_l05Reduce.l0]
      refine Ev.bind hd (ev_ift rfl ?_)
      rw [hlen]
      exact i4 r hr
  intro c
  induction c with
  | zero =>
    intro s h hc
    cases hf : debtF q 0 (XD es D s) with
    | none => exact done_ s h hf
    | some v =>
      exfalso
      obtain ⟨s', i1, i2, _⟩ := next_ s v h hf
      have := inv1_sum i1
      omega
  | succ c ih =>
    intro s h hc
    cases hf : debtF q 0 (XD es D s) with
    | none => exact done_ s h hf
    | some v =>
      obtain ⟨s', i1, i2, i3⟩ := next_ s v h hf
      obtain ⟨s1, j1, j2, j3⟩ := ih s' i1 (by omega)
      exact ⟨s1, j1, j2, fun r hr => i3 r (j3 r hr)⟩
end Go.Proofs.Ytnebapnfkolflaa.Pure
end
section
set_option linter.unusedVariables false
set_option linter.unusedSimpArgs false
namespace Go.Proofs.Ytnebapnfkolflaa.Pure
open Go.RowKit Go.Proofs.Ytnebapnfkolflaa.P Go.Proofs.YtnebapnfkolflaaW.PrintWords Go.Proofs.YtnebapnfkolflaaW.PrintLast Go.Proofs.YtnebapnfkolflaaW.PrintMore Go.Proofs.Ytnebapnfkolflaa.Base Go.Proofs.Ytnebapnfkolflaa.Reduce Go.Proofs.Ytnebapnfkolflaa.Loops Go.Proofs.Ytnebapnfkolflaa.Bits
theorem fireI {n q : Nat} {es : List S70} {D : List Int} (S : Start n es D q) (hl : es.length ≤ 12) (hn : n ≤ 6) (r s : List Int) (hr : r.length ≤ n) (hs : s.length = n) (hb : ∀ w, w < n → -500000000000 ≤ s.getD w 0 ∧ s.getD w 0 ≤ 500000000000) (res : List Int × List Int)
    (h : Ev (fun k => impl_reduce.l1 k (q : Int) (XD es D (bumpTo r s n)) (bumpTo r s n) n es) res) :
    ∀ (d i : Nat), i + d = n → Ev (fun k => impl_reduce.l2 k (q : Int) (XD es D (bumpTo r s i)) (bumpTo r s i) r (n : Int) (i : Int) n es) res := by
  have he := (edgesB_facts S.g.1).2.2.2
  intro d
  induction d with
  | zero =>
    intro i hi
    obtain rfl : i = n := by omega
    refine ev_succ ?_
    simp only [impl_reduce.l2]
    exact ev_ifn (by omega) h
  | succ d ih =>
    intro i hi
    have hnx := ih (i + 1) (by omega)
    have hbl : (bumpTo r s i).length = n := by rw [bump_len]; exact hs
    have hbg := bump_get n r s hs i (by omega) i
    rw [if_neg (by omega)] at hbg
    have hbi := hb i (by omega)
    have ew : wrap64 ((bumpTo r s i).getD i 0 + 1) = (bumpTo r s i).getD i 0 + 1 := wrap_id (by omega) (by omega)
    simp only [bumpTo] at hnx
    refine ev_succ ?_
    simp only [impl_reduce.l2, wrap_succ (show i < 4611686018427387904 by omega)]
    refine ev_ift (by omega) (Ev.bind (contains_ev r i (by omega)) ?_)
    by_cases c : (i : Int) ∈ r
    · rw [if_pos c] at hnx
      exact ev_ift (by simp [c]) hnx
    · rw [if_neg c] at hnx
      refine ev_ifn (by simp [c]) (Ev.bind (impl_fire_ev n es (XD es D (bumpTo r s i)) i 1 he (xd_len n es D _ he S.len (start64 S)) hn (by omega) n) ?_)
      rw [xd_fire n es D _ he S.len hbl (start64 S) i (by omega) 1]
      simp only [rd_n, ew, Int.toNat_natCast]
      exact ev_ift (by omega) (ev_ift (by omega) hnx)
theorem fireS {n q : Nat} {es : List S70} {D : List Int} (S : Start n es D q) (hl : es.length ≤ 12) (hn : n ≤ 6) (r s : List Int) (hr : r.length ≤ n) (hs : s.length = n) (hb : ∀ w, w < n → -500000000000 ≤ s.getD w 0 ∧ s.getD w 0 ≤ 500000000000) (res : List Int × List Int)
    (h : Ev (fun k => spec_l05Reduce.l2 k D (q : Int) (bumpTo r s n) (XD es D (bumpTo r s n)) n es) res) :
    ∀ (d i : Nat), i + d = n → Ev (fun k => spec_l05Reduce.l3 k D (q : Int) (bumpTo r s i) r (i : Int) n es) res := by
  have he := (edgesB_facts S.g.1).2.2.2
  intro d
  induction d with
  | zero =>
    intro i hi
    obtain rfl : i = n := by omega
    refine ev_succ ?_
    simp only [spec_l05Reduce.l3]
    exact ev_ifn (by omega) (Ev.bind (spec_fire_ev i es D (bumpTo r s i) he S.len (by rw [bump_len]; exact hs) hn (by omega) i) h)
  | succ d ih =>
    intro i hi
    have hnx := ih (i + 1) (by omega)
    have hbl : (bumpTo r s i).length = n := by rw [bump_len]; exact hs
    have hbg := bump_get n r s hs i (by omega) i
    rw [if_neg (by omega)] at hbg
    have hbi := hb i (by omega)
    have ew : wrap64 ((bumpTo r s i).getD i 0 + 1) = (bumpTo r s i).getD i 0 + 1 := wrap_id (by omega) (by omega)
    simp only [bumpTo] at hnx
    refine ev_succ ?_
    simp only [spec_l05Reduce.l3, wrap_succ (show i < 4611686018427387904 by omega)]
    refine ev_ift (by omega) (Ev.bind (has_ev r i (by omega)) ?_)
    by_cases c : (i : Int) ∈ r
    · rw [if_pos c] at hnx
      exact ev_ift (by simp [c]) hnx
    · rw [if_neg c] at hnx
      simp only [rd_n, ew, Int.toNat_natCast]
      exact ev_ifn (by simp [c]) (ev_ift (by omega) (ev_ift (by omega) hnx))
theorem start_sum {n q : Nat} {es : List S70} {D s1 : List Int} {σ : Nat → Int} (S : Start n es D q) (R : Resc n es q σ) (hn : n ≤ 6) (h1 : Inv1 n q σ s1) : sumN (XF n es D s1) n - XF n es D s1 q ≤ 16287540 := by
  have G := gr_of n es S.g
  have e1 : sumN (XF n es D s1) n = sumN (fun v => D.getD v 0) n := by
    have := sumN_sub (fun v => D.getD v 0) (fun v => lap n (mE n es) (fun w => s1.getD w 0) v) n
    rw [lap_sum n (mE n es) G.sym] at this
    rw [show sumN (XF n es D s1) n = _ from this]; omega
  have e2 : sumN (fun v => D.getD v 0) n ≤ sumN (fun _ => 60) n := sumN_le fun v _ => (S.b v).2
  rw [sumN_const] at e2
  have e3 : lap n (mE n es) (fun w => s1.getD w 0) q ≤ sumN (fun w => mE n es q w * 1357260) n := by
    unfold lap
    refine sumN_le fun w hw => Int.mul_le_mul_of_nonneg_left ?_ (G.nonneg q w)
    show s1.getD q 0 - s1.getD w 0 ≤ 1357260
    have := h1.b w hw
    have := R.b w
    have := h1.z
    omega
  rw [sumN_mul'] at e3
  have e4 := G.val q S.q
  have e5 : sumN (fun i => mE n es q i) n = sumN (mE n es q) n := rfl
  have e6 := (S.b q).1
  rw [e5] at e3
  show sumN (XF n es D s1) n - (D.getD q 0 - lap n (mE n es) (fun w => s1.getD w 0) q) ≤ 16287540
  omega
theorem phase2 {n q : Nat} {es : List S70} {D s1 : List Int} {σ : Nat → Int} (S : Start n es D q) (R : Resc n es q σ) (hl : es.length ≤ 12) (hn : n ≤ 6) (h1 : Inv1 n q σ s1) (hnd1 : ∀ v, v < n → v ≠ q → 0 ≤ XF n es D s1 v) :
    ∀ (c : Nat) (s : List Int), s.length = n → s.getD q 0 = 0 → (∀ w, w < n → s1.getD w 0 ≤ s.getD w 0 ∧ s.getD w 0 - s1.getD w 0 ≤ 368440442340) → (∀ v, v < n → v ≠ q → 0 ≤ XF n es D s v) →
      sumN (fun w => 368440442340 - (s.getD w 0 - s1.getD w 0)) n ≤ c →
      ∃ s2, s2.length = n ∧ s2.getD q 0 = 0 ∧ (∀ w, w < n → -500000000000 ≤ s2.getD w 0 ∧ s2.getD w 0 ≤ 500000000000) ∧ Red n (mE n es) q (XF n es D s2) ∧
        Ev (fun k => impl_reduce.l1 k (q : Int) (XD es D s) s n es) (XD es D s2, s2) ∧ Ev (fun k => spec_l05Reduce.l2 k D (q : Int) s (XD es D s) n es) (XD es D s2, s2) := by
  have he := (edgesB_facts S.g.1).2.2.2
  have G := gr_of n es S.g
  have bnd : ∀ s : List Int, (∀ w, w < n → s1.getD w 0 ≤ s.getD w 0 ∧ s.getD w 0 - s1.getD w 0 ≤ 368440442340) → ∀ w, w < n → -500000000000 ≤ s.getD w 0 ∧ s.getD w 0 ≤ 500000000000 := by
    intro s hs w hw
    have := hs w hw
    have := h1.b w hw
    have := R.b w
    omega
  intro c
  have step : ∀ s : List Int, s.length = n → s.getD q 0 = 0 → (∀ w, w < n → s1.getD w 0 ≤ s.getD w 0 ∧ s.getD w 0 - s1.getD w 0 ≤ 368440442340) → (∀ v, v < n → v ≠ q → 0 ≤ XF n es D s v) →
      (∃ s2, s2.length = n ∧ s2.getD q 0 = 0 ∧ (∀ w, w < n → -500000000000 ≤ s2.getD w 0 ∧ s2.getD w 0 ≤ 500000000000) ∧ Red n (mE n es) q (XF n es D s2) ∧
        Ev (fun k => impl_reduce.l1 k (q : Int) (XD es D s) s n es) (XD es D s2, s2) ∧ Ev (fun k => spec_l05Reduce.l2 k D (q : Int) s (XD es D s) n es) (XD es D s2, s2)) ∨
      ∃ s' : List Int, s'.length = n ∧ s'.getD q 0 = 0 ∧ (∀ w, w < n → s1.getD w 0 ≤ s'.getD w 0 ∧ s'.getD w 0 - s1.getD w 0 ≤ 368440442340) ∧ (∀ v, v < n → v ≠ q → 0 ≤ XF n es D s' v) ∧
        sumN (fun w => 368440442340 - (s'.getD w 0 - s1.getD w 0)) n < sumN (fun w => 368440442340 - (s.getD w 0 - s1.getD w 0)) n ∧
        ∀ res, (Ev (fun k => impl_reduce.l1 k (q : Int) (XD es D s') s' n es) res → Ev (fun k => impl_reduce.l1 k (q : Int) (XD es D s) s n es) res) ∧
          (Ev (fun k => spec_l05Reduce.l2 k D (q : Int) s' (XD es D s') n es) res → Ev (fun k => spec_l05Reduce.l2 k D (q : Int) s (XD es D s) n es) res) := by
    intro s hs hq0 hf hnd
    have hbs := bnd s hf
    have hX : ∀ v, v < n → (XD es D s).getD v 0 = XF n es D s v := fun v hv => xd_xf S hs (fun w hw => by have := hbs w hw; omega) v hv
    obtain ⟨r, b1, b2, b3, b4, b5, b6⟩ := burn_both n hn es hl (XD es D s) (xd_len n es D s he S.len (start64 S)) q S.q
    have hrl := binv_len b3
    by_cases hr : r.length = n
    · refine Or.inl ⟨s, hs, hq0, hbs, red_of n es (XD es D s) r q _ hX hnd b3 hr b4 b6, ev_succ ?_, ev_succ ?_⟩
      · simp only [impl_reduce.l1]
        exact Ev.bind b1 (ev_ift (by omega) (Ev.now _))
      · simp only [spec_l05Reduce.l2]
        exact Ev.bind b2 (ev_ift (by omega) (Ev.now _))
    · have hqr := burn_mem b4
      have hbg := bump_get n r s hs n (Nat.le_refl _)
      have hok := bump_ok n es D s (XD es D s) r q hs hX hnd b3 hqr b5
      have hle : ∀ w, w < n → s1.getD w 0 ≤ (bumpTo r s n).getD w 0 := by
        intro w hw
        have := hf w hw
        rw [hbg w]
        split <;> omega
      have hz : (bumpTo r s n).getD q 0 = 0 := by
        rw [hbg q, if_neg (fun h => h.2 hqr), hq0]; rfl
      have hfb := fire_bound G S.q (D := XF n es D s1) (f := fun w => (bumpTo r s n).getD w 0 - s1.getD w 0) (M := 16287540) hnd1 (start_sum S R hn h1) (by
        show (bumpTo r s n).getD q 0 - s1.getD q 0 = 0
        rw [hz, h1.z]; rfl) (fun v hv => by have := hle v hv; (try dsimp only); omega) (fun v hv hvq => by
        have h := hok v hv hvq
        have hs' := lap_sub n (mE n es) (fun w => (bumpTo r s n).getD w 0) (fun w => s1.getD w 0) v
        unfold XF at h ⊢
        rw [hs']
        omega)
      obtain ⟨v, hv, hvr⟩ := binv_some b3 hr
      refine Or.inr ⟨bumpTo r s n, by rw [bump_len]; exact hs, hz, fun w hw => ⟨hle w hw, ?_⟩, hok, ?_, fun res => ⟨fun h => ev_succ ?_, fun h => ev_succ ?_⟩⟩
      · have := hfb w hw
        (try dsimp only at this)
        omega
      · have hu := sumN_upd (fun w => 368440442340 - (s.getD w 0 - s1.getD w 0)) n v (368440442340 - (s.getD v 0 - s1.getD v 0) - 1) hv
        have hle2 : sumN (fun w => 368440442340 - ((bumpTo r s n).getD w 0 - s1.getD w 0)) n ≤ sumN (fun i => if i = v then 368440442340 - (s.getD v 0 - s1.getD v 0) - 1 else (fun w => 368440442340 - (s.getD w 0 - s1.getD w 0)) i) n := by
          refine sumN_le fun w hw => ?_
          dsimp only
          rw [hbg w]
          by_cases e : w = v
          · subst e
            rw [if_pos ⟨hw, hvr⟩, if_pos rfl]; omega
          · rw [if_neg e]
            split <;> omega
        rw [hu] at hle2
        omega
      · simp only [impl_reduce.l1]
        refine Ev.bind b1 (ev_ifn (by omega) ?_)
        rw [hs]
        exact fireI S hl hn r s hrl hs hbs res h n 0 (by omega)
      · simp only [spec_l05Reduce.l2]
        refine Ev.bind b2 (ev_ifn (by omega) ?_)
        exact fireS S hl hn r s hrl hs hbs res h n 0 (by omega)
  induction c with
  | zero =>
    intro s hs hq0 hf hnd hc
    rcases step s hs hq0 hf hnd with h | ⟨s', a1, a2, a3, a4, a5, a6⟩
    · exact h
    · exfalso
      have : 0 ≤ sumN (fun w => 368440442340 - (s'.getD w 0 - s1.getD w 0)) n := sumN_nonneg fun w hw => by have := a3 w hw; omega
      omega
  | succ c ih =>
    intro s hs hq0 hf hnd hc
    rcases step s hs hq0 hf hnd with h | ⟨s', a1, a2, a3, a4, a5, a6⟩
    · exact h
    · obtain ⟨s2, c1, c2, c3, c4, c5, c6⟩ := ih s' a1 a2 a3 a4 (by omega)
      exact ⟨s2, c1, c2, c3, c4, (a6 _).1 c5, (a6 _).2 c6⟩
end Go.Proofs.Ytnebapnfkolflaa.Pure
end
section
set_option linter.unusedVariables false
set_option linter.unusedSimpArgs false
namespace Go.Proofs.Ytnebapnfkolflaa.Pure
open Go.RowKit Go.Proofs.Ytnebapnfkolflaa.P Go.Proofs.YtnebapnfkolflaaW.PrintWords Go.Proofs.YtnebapnfkolflaaW.PrintLast Go.Proofs.YtnebapnfkolflaaW.PrintMore Go.Proofs.Ytnebapnfkolflaa.Base Go.Proofs.Ytnebapnfkolflaa.Loops
theorem list_eq0 {x y : List Int} (h : x.length = y.length) (hu : ∀ u, u < x.length → x.getD u 0 = y.getD u 0) : x = y := by
  refine List.ext_getElem h fun i h1 h2 => ?_
  have := hu i h1
  simp only [List.getD_eq_getElem?_getD, List.getElem?_eq_getElem h1, List.getElem?_eq_getElem h2, Option.getD_some] at this
  exact this
end Go.Proofs.Ytnebapnfkolflaa.Pure
end
section
set_option linter.unusedVariables false
set_option linter.unusedSimpArgs false
namespace Go.Proofs.Ytnebapnfkolflaa.Pure
open Go.RowKit Go.Proofs.Ytnebapnfkolflaa.P Go.Proofs.YtnebapnfkolflaaW.PrintWords Go.Proofs.YtnebapnfkolflaaW.PrintLast Go.Proofs.YtnebapnfkolflaaW.PrintMore Go.Proofs.Ytnebapnfkolflaa.Base Go.Proofs.Ytnebapnfkolflaa.Loops
theorem copyI_eq (l : List Int) (h : l.length < 17592186044416) : impl_copyInts.f l = some l := by
  unfold impl_copyInts.f
  rw [if_pos (by simpa using h)]; rfl
end Go.Proofs.Ytnebapnfkolflaa.Pure
end
section
set_option linter.unusedVariables false
set_option linter.unusedSimpArgs false
namespace Go.Proofs.Ytnebapnfkolflaa.Pure
open Go.RowKit Go.Proofs.Ytnebapnfkolflaa.P Go.Proofs.YtnebapnfkolflaaW.PrintWords Go.Proofs.YtnebapnfkolflaaW.PrintLast Go.Proofs.YtnebapnfkolflaaW.PrintMore Go.Proofs.Ytnebapnfkolflaa.Base Go.Proofs.Ytnebapnfkolflaa.Reduce Go.Proofs.Ytnebapnfkolflaa.Loops Go.Proofs.Ytnebapnfkolflaa.Bits
theorem reduce_both {n q : Nat} {es : List S70} {D : List Int} (S : Start n es D q) :
    ∃ s : List Int, s.length = n ∧ s.getD q 0 = 0 ∧ (∀ w, w < n → -500000000000 ≤ s.getD w 0 ∧ s.getD w 0 ≤ 500000000000) ∧ Red n (mE n es) q (XF n es D s) ∧ (∀ v, v < n → (XD es D s).getD v 0 = XF n es D s v) ∧ (XD es D s).length = n ∧
      Ev (fun k => impl_reduce.f k n es D q) (XD es D s, s) ∧ Ev (fun k => spec_l05Reduce.f k n es D q) (XD es D s, s) := by
  obtain ⟨f1, f2, f3, he⟩ := edgesB_facts S.g.1
  have hn : n ≤ 6 := by omega
  have G := gr_of n es S.g
  obtain ⟨σ, r1, r2, r3⟩ := rescue G S.q
  have R : Resc n es q σ := ⟨r1, r2, r3⟩
  have h0 : Inv1 n q σ (List.replicate n 0) := by
    have hz : ∀ w, (List.replicate n (0 : Int)).getD w 0 = 0 := by
      intro w
      rw [List.getD_eq_getElem?_getD, List.getElem?_replicate]
      split <;> rfl
    exact ⟨by simp, hz q, fun w _ => by rw [hz w]; have := R.b w; omega⟩
  have hx0 : XD es D (List.replicate n 0) = D := by
    refine list_eq0 (by rw [xd_len n es D _ he S.len (start64 S), S.len]) fun u hu => ?_
    rw [xd_len n es D _ he S.len (start64 S)] at hu
    rw [xd_xf S h0.len (fun w hw => inv1_b R h0 w hw) u hu]
    unfold XF
    have : lap n (mE n es) (fun w => (List.replicate n (0 : Int)).getD w 0) u = lap n (mE n es) (fun _ => 0) u := lap_congr hu fun w _ => by
      show (List.replicate n (0 : Int)).getD w 0 = 0
      rw [List.getD_eq_getElem?_getD, List.getElem?_replicate]
      split <;> rfl
    rw [this]
    have h2 : lap n (mE n es) (fun _ => 0) u = 0 := by
      unfold lap
      rw [sumN_congr (g := fun _ => 0) (fun w _ => by simp), sumN_zero]
    rw [h2]; omega
  obtain ⟨a, a1, a2, a3⟩ := phase1I S R f3 hn (sumN (fun w => σ w + (List.replicate n (0 : Int)).getD w 0) n).toNat _ h0 (by have := inv1_sum h0; omega)
  obtain ⟨b, b1, b2, b3⟩ := phase1S S R f3 hn (sumN (fun w => σ w + (List.replicate n (0 : Int)).getD w 0) n).toNat _ h0 (by have := inv1_sum h0; omega)
  have two : ∀ s1, Inv1 n q σ s1 → (∀ v, v < n → v ≠ q → 0 ≤ XF n es D s1 v) → ∃ s2 : List Int, s2.length = n ∧ s2.getD q 0 = 0 ∧ (∀ w, w < n → -500000000000 ≤ s2.getD w 0 ∧ s2.getD w 0 ≤ 500000000000) ∧ Red n (mE n es) q (XF n es D s2) ∧
        Ev (fun k => impl_reduce.l1 k (q : Int) (XD es D s1) s1 n es) (XD es D s2, s2) ∧ Ev (fun k => spec_l05Reduce.l2 k D (q : Int) s1 (XD es D s1) n es) (XD es D s2, s2) := fun s1 h1 h2 =>
    phase2 S R f3 hn h1 h2 (sumN (fun w => 368440442340 - (s1.getD w 0 - s1.getD w 0)) n).toNat s1 h1.len h1.z (fun w _ => by omega) h2 (by
      have : 0 ≤ sumN (fun w => 368440442340 - (s1.getD w 0 - s1.getD w 0)) n := sumN_nonneg fun w _ => by omega
      omega)
  obtain ⟨s, s1, s2, s3, s4, s5, _⟩ := two a a1 a2
  obtain ⟨t, t1, t2, t3, t4, _, t5⟩ := two b b1 b2
  have hst : s = t := list_eq0 (by omega) fun u hu => by
    have := red_unique (m := mE n es) (D := fun v => D.getD v 0) (f := fun w => s.getD w 0) (g := fun w => t.getD w 0) G.nonneg S.q s4 t4 (by show s.getD q 0 = t.getD q 0; omega) u (by omega)
    exact this
  subst hst
  have hdl := S.len
  refine ⟨s, s1, s2, s3, s4, fun v hv => xd_xf S s1 (fun w hw => by have := s3 w hw; omega) v hv, xd_len n es D s he S.len (start64 S), ?_, ?_⟩
  · simp only [impl_reduce.f, copyI_eq D (by omega), Option.bind_some]
    refine ev_ift (by omega) (ev_ift (by omega) (Ev.bind (inDebt_ev D q (by omega)) ?_))
    rw [Int.toNat_natCast]
    have := a3 _ s5
    rw [hx0] at this
    exact this
  · simp only [spec_l05Reduce.f, Option.bind_some, List.length_nil, List.nil_append]
    refine ev_ift (by omega) (ev_ift (by omega) (ev_ift (by omega) ?_))
    rw [Int.toNat_natCast]
    have := b3 _ t5
    rw [hx0] at this
    exact this
end Go.Proofs.Ytnebapnfkolflaa.Pure
end
section
set_option linter.unusedVariables false
set_option linter.unusedSimpArgs false
namespace Go.Proofs.Ytnebapnfkolflaa.Pure
open Go.RowKit Go.Proofs.Ytnebapnfkolflaa.P Go.Proofs.YtnebapnfkolflaaW.PrintWords Go.Proofs.YtnebapnfkolflaaW.PrintLast Go.Proofs.YtnebapnfkolflaaW.PrintMore Go.Proofs.Ytnebapnfkolflaa.Base Go.Proofs.Ytnebapnfkolflaa.Reduce Go.Proofs.Ytnebapnfkolflaa.Loops Go.Proofs.Ytnebapnfkolflaa.Bits
theorem redOk (n : Int) (es : List S70) (d : List Int) (v : Int) (hl : es.length < 4611686018427387904) (hd : d.length < 4611686018427387904) :
    ∃ b1 b2 : Bool, Ev (fun k => impl_DivisorOk.f k n es d) b1 ∧ Ev (fun k => impl_isVertex.f k n es v) b2 ∧ Ev (fun k => spec_l05Ok.f k n es d v) (b1 && b2) ∧
      ((b1 && b2) = true → DivP n es d ∧ ∃ (m u : Nat), n = m ∧ v = u ∧ Start m es d u) := by
  obtain ⟨b, h1, h2, hb⟩ := divOk_both n es d hl hd
  obtain ⟨g, h3, h4, hg⟩ := graphOk_both n es hl
  simp only [spec_l05Ok.f, impl_isVertex.f, within_eq, in_eq, Option.bind_some]
  have hv : Ev (fun k => (impl_GraphOk.f k n es).bind fun t => if t = true then some (decide (0 ≤ v ∧ v ≤ wrap64 (n - 1))) else some false) (g && decide (0 ≤ v ∧ v ≤ wrap64 (n - 1))) := by
    cases g with
    | false => exact Ev.bind h3 (ev_iff (Ev.now _))
    | true => rw [Bool.true_and]; exact Ev.bind h3 (ev_ift rfl (Ev.now _))
  refine ⟨b, _, h1, hv, ?_, fun h => ?_⟩
  · cases b with
    | false => rw [Bool.false_and]; exact Ev.bind h2 (ev_iff (Ev.now _))
    | true =>
      have hgt : g = true := hg.2 (hb.1 rfl).1
      rw [hgt, Bool.true_and, Bool.true_and]
      exact Ev.bind h2 (ev_ift rfl (Ev.now _))
  · simp only [Bool.and_eq_true, decide_eq_true_eq] at h
    have hD := hb.1 h.1
    obtain ⟨f1, f2, f3, f4⟩ := edgesB_facts hD.1.1
    have ew : wrap64 (n - 1) = n - 1 := by unfold wrap64; omega
    have hr := h.2.2
    rw [ew] at hr
    refine ⟨hD, n.toNat, v.toNat, by omega, by omega, ?_⟩
    have hn : ((n.toNat : Nat) : Int) = n := by omega
    refine ⟨by rw [hn]; exact hD.1, by omega, by have := hD.2.1; omega, fun u => allB_get hD.2.2 (by omega) (by omega) u⟩
end Go.Proofs.Ytnebapnfkolflaa.Pure
end
section
set_option linter.unusedVariables false
set_option linter.unusedSimpArgs false
namespace Go.Proofs.Ytnebapnfkolflaa.Pure
open Go.RowKit Go.Proofs.Ytnebapnfkolflaa.P Go.Proofs.YtnebapnfkolflaaW.PrintWords Go.Proofs.YtnebapnfkolflaaW.PrintLast Go.Proofs.YtnebapnfkolflaaW.PrintMore Go.Proofs.Ytnebapnfkolflaa.Base Go.Proofs.Ytnebapnfkolflaa.Reduce Go.Proofs.Ytnebapnfkolflaa.Loops Go.Proofs.Ytnebapnfkolflaa.Bits
theorem reducedOf_both (n : Int) (es : List S70) (d : List Int) (v : Int) (hl : es.length < 4611686018427387904) (hd : d.length < 4611686018427387904) :
    ∃ (r : List Int) (q : Bool), Ev (fun k => impl_ReducedOf.f k n es d v) (r, q) ∧ Ev (fun k => spec_ReducedOf.f k n es d v) (r, q) ∧ r.length ≤ 6 ∧
      (q = true → DivP n es d ∧ (r.length : Int) = n ∧ ∃ (m u : Nat) (s : List Int), n = m ∧ v = u ∧ Start m es d u ∧ s.length = m ∧ s.getD u 0 = 0 ∧ Red m (mE m es) u (XF m es d s) ∧ (∀ w, w < m → r.getD w 0 = XF m es d s w)) := by
  obtain ⟨b1, b2, h1, h2, h3, h4⟩ := redOk n es d v hl hd
  simp only [impl_ReducedOf.f, spec_ReducedOf.f]
  cases b1 with
  | false => exact ⟨[], false, Ev.bind h1 (ev_iff (Ev.now _)), Ev.bind h3 (ev_iff (Ev.now _)), by simp, fun h => by cases h⟩
  | true =>
    cases b2 with
    | false => exact ⟨[], false, Ev.bind h1 (ev_ift rfl (Ev.bind h2 (ev_iff (Ev.now _)))), Ev.bind h3 (ev_iff (Ev.now _)), by simp, fun h => by cases h⟩
    | true =>
      obtain ⟨hD, m, u, rfl, rfl, S⟩ := h4 rfl
      obtain ⟨s, s1, s2, s3, s4, s5, s6, s7, s8⟩ := reduce_both S
      have f := edgesB_facts S.g.1
      exact ⟨XD es d s, true, Ev.bind h1 (ev_ift rfl (Ev.bind h2 (ev_ift rfl (Ev.bind s7 (Ev.now _))))), Ev.bind h3 (ev_ift rfl (Ev.bind s8 (Ev.now _))), by omega, fun _ => ⟨hD, by omega, m, u, s, rfl, rfl, S, s1, s2, s4, s5⟩⟩
end Go.Proofs.Ytnebapnfkolflaa.Pure
end
section
set_option linter.unusedVariables false
set_option linter.unusedSimpArgs false
namespace Go.Proofs.Ytnebapnfkolflaa.Pure
open Go.RowKit Go.Proofs.Ytnebapnfkolflaa.P Go.Proofs.YtnebapnfkolflaaW.PrintWords Go.Proofs.YtnebapnfkolflaaW.PrintLast Go.Proofs.YtnebapnfkolflaaW.PrintMore Go.Proofs.Ytnebapnfkolflaa.Base Go.Proofs.Ytnebapnfkolflaa.Reduce Go.Proofs.Ytnebapnfkolflaa.Loops Go.Proofs.Ytnebapnfkolflaa.Bits
theorem chipsAt_both (n : Int) (es : List S70) (d : List Int) (v : Int) (hl : es.length < 4611686018427387904) (hd : d.length < 4611686018427387904) :
    ∃ (r : Int) (q : Bool), Ev (fun k => impl_ChipsAt.f k n es d v) (r, q) ∧ Ev (fun k => spec_ChipsAt.f k n es d v) (r, q) ∧ True := by
  obtain ⟨r, q, h1, h2, h3, h4⟩ := reducedOf_both n es d v hl hd
  simp only [impl_ChipsAt.f, spec_ChipsAt.f]
  cases q with
  | false => exact ⟨0, false, Ev.bind h1 (ev_iff (Ev.now _)), Ev.bind h2 (ev_iff (Ev.now _)), trivial⟩
  | true =>
    obtain ⟨_, hr, m, u, s, hn, hv, S, _⟩ := h4 rfl
    have := S.q
    exact ⟨rd r v, true, Ev.bind h1 (ev_ift rfl (ev_ift (by omega) (ev_ift (by dsimp only; omega) (Ev.now _)))), Ev.bind h2 (ev_ift rfl (ev_ift (by omega) (ev_ift (by dsimp only; omega) (Ev.now _)))), trivial⟩
end Go.Proofs.Ytnebapnfkolflaa.Pure
end
section
namespace Go.Proofs.Ytnebapnfkolflaa.P
open Go.RowKit Go.Proofs.YtnebapnfkolflaaW.PrintWords Go.Proofs.YtnebapnfkolflaaW.PrintLast Go.Proofs.YtnebapnfkolflaaW.PrintMore
attribute [local go_sem] max2_int min2_int max_two min_two max_three min_three max_four min_four
set_option linter.unusedVariables false
set_option linter.unusedSimpArgs false
def laws_markEdgeS.l0 : Nat → List (S70) → Int → Int → Option (Int × (List (S70)))
 | 0, _, _, _ => none
 | k + 1, x0, x1, x5 => if x5 < (x0.length : Int) then (if 0 ≤ x5 then ((some (x0.set (x5 : Int).toNat (⟨x1, (rd_T70 x0 x5).f1⟩ : S70) : List (S70))).bind fun y129 => (laws_markEdgeS.l0 k (y129.set (x5 : Int).toNat (⟨(rd_T70 y129 x5).f0, wrap64 (x1 + 1)⟩ : S70)) (wrap64 ((wrap64 (x1 + 1)) + 1)) (wrap64 (x5 + 1)))) else (none)) else (some (x1, x0))
def laws_markEdgeS.f (k : Nat) (l0 : List (S70)) (a1 : Int) : Option (Int × (List (S70))) := laws_markEdgeS.l0 k l0 a1 0
set_option maxHeartbeats 8000000 in
set_option maxRecDepth 100000 in
theorem laws_markEdgeS.calls (k : Nat) (P0_ : Nat → Prop) (u9000_ : Value) (l0 : List (S70)) (a1 : Int) (r1 : Int) (r2 : List (S70)) (w0 w : World) (hB : Below w0.heap.size w0 w) (ho0 : Kd.R k70 70 w w0.heap.size P0_ u9000_ l0) (h : laws_markEdgeS.f k l0 a1 = some (r1, r2)) :
  Calls Try.prog 75 #[u9000_, .int .i64 a1] w fun e w' => e = .returned (.int .i64 r1) ∧ Kd.R k70 70 w' w0.heap.size (fun k_ => (P0_ k_ ∨ w.heap.size ≤ k_)) u9000_ r2 ∧ Below w0.heap.size w0 w' ∧ Kept w w' (fun k_ => P0_ k_) := by
 have HO0 := Aside0.mk (show Kd.R k70 70 w w0.heap.size (fun k_ => (P0_ k_ ∨ w.heap.size ≤ k_)) u9000_ l0 from Kd.R_mono ho0 (fun k_ hk => (.inl hk)))
 have HK := Aside0.mk (Kept.refl w (fun k_ => P0_ k_))
 have HW0 := Aside0.mk hB.size
 have HB := Aside0.mk hB
 clear hB
 have H : (laws_markEdgeS.l0 k l0 a1 0) = some (r1, r2) := h
 clear h
 have H' := Aside0.mk H
 clear H
 go_enter Try.func75, Try.ntmps75
 go_wp2
 go_loopg [1, 5] k (fun kq v1 v5 w' => ∃ (x0_1 : List (S70)) (x1_1 : Int) (x5_1 : Int), v1 = .int .i64 x1_1 ∧ v5 = .int .i64 x5_1 ∧ Aside0 (laws_markEdgeS.l0 kq x0_1 x1_1 x5_1 = some (r1, r2)) ∧ Aside0 (kq ≤ k) ∧ Aside0 (Kd.R k70 70 w' w0.heap.size (fun k_ => (P0_ k_ ∨ w.heap.size ≤ k_)) u9000_ x0_1) ∧ Aside0 (Kept w w' (fun k_ => P0_ k_)) ∧ Aside0 (Below w0.heap.size w0 w'))
 case atStart => exact ⟨(l0), (a1), (0), (by first | rfl | (simp; done) | (simp [*]; done)), (by first | rfl | (simp; done) | (simp [*]; done)), H', ⟨Nat.le_refl _⟩, ⟨by exact Rz HO0⟩, ⟨by repeat (first | (with_reducible first | exact HK.out | apply Kept.alloc | apply Kept.drewN | apply Kept.drew) | exact HK.out)⟩, ⟨by exact Lz HB⟩⟩
 case round =>
  clear H'
  obtain ⟨x0_1, x1_1, x5_1, rfl, rfl, HA, HK1, HO_0, HK, HB⟩ := hrel
  cases gk with
  | zero => exact absurd HA.out (by simp [laws_markEdgeS.l0])
  | succ k1 =>
   have H := HA.out
   clear HA
   simp only [laws_markEdgeS.l0] at H
   by_cases c3 : x5_1 < (x0_1.length : Int)
   ·rw [if_pos c3] at H
    have c3b0 : decide (x5_1 < (x0_1.length : Int)) = true := decide_eq_true c3
    clear c3
    by_cases c4 : 0 ≤ x5_1
    ·rw [if_pos c4] at H
     have c4b0 : decide (0 ≤ x5_1) = true := decide_eq_true c4
     clear c4
     obtain ⟨y129, hy129⟩ : ∃ y_ : List (S70), y_ = (x0_1.set (x5_1 : Int).toNat (⟨x1_1, (rd_T70 x0_1 x5_1).f1⟩ : S70)) := ⟨_, rfl⟩
     replace H : (laws_markEdgeS.l0 k1 (y129.set (x5_1 : Int).toNat (⟨(rd_T70 y129 x5_1).f0, wrap64 (x1_1 + 1)⟩ : S70)) (wrap64 ((wrap64 (x1_1 + 1)) + 1)) (wrap64 (x5_1 + 1))) = some (r1, r2) := by first | (rw [hy129]; with_reducible exact H) | (have H2_ := (Option.bind_some _ _).symm.trans H; rw [hy129]; with_reducible exact H2_) | (have H2_ := (Option.bind_some _ _).symm.trans H; with_reducible exact H2_) | with_reducible exact H | (rw [hy129]; exact H) | exact H
     have Ny129 := Aside0.mk hy129
     clear hy129
     obtain ⟨y130, hy130⟩ : ∃ y_ : List (S70), y_ = (y129.set (x5_1 : Int).toNat (⟨(rd_T70 y129 x5_1).f0, wrap64 (x1_1 + 1)⟩ : S70)) := ⟨_, rfl⟩
     replace H : (laws_markEdgeS.l0 k1 y130 (wrap64 ((wrap64 (x1_1 + 1)) + 1)) (wrap64 (x5_1 + 1))) = some (r1, r2) := by first | (rw [hy130]; with_reducible exact H) | (have H2_ := (Option.bind_some _ _).symm.trans H; rw [hy130]; with_reducible exact H2_) | (have H2_ := (Option.bind_some _ _).symm.trans H; with_reducible exact H2_) | with_reducible exact H | (rw [hy130]; exact H) | exact H
     have Ny130 := Aside0.mk hy130
     clear hy130
     have H' := Aside0.mk H
     clear H
     obtain ⟨Ao7, co7, eo7⟩ := Kd.R_slice HO_0.out
     subst eo7
     have p5 : 0 ≤ (x5_1 : Int) := of_decide_eq_true (by first | (with_reducible assumption) | assumption)
     have q5 : (x5_1 : Int) < ((x0_1.length : Int) : Int) := of_decide_eq_true (by first | (with_reducible assumption) | assumption)
     obtain ⟨go5, co5, eo5, gb5, gl5, cl5, HG5⟩ := Kd.R_form HO_0.out (by omega)
     (first | cases eo5 | (injection eo5 with ea_ en_ ec_; (first | subst ea_ | (injection ea_ with ea_; subst ea_)); subst ec_; clear en_))
     have GB5 := Aside0.mk gb5
     have GG5 := Aside0.mk HG5
     clear gb5 gl5 HG5
     have HMgo5 := Aside0.mk (show (P0_ go5 ∨ w.heap.size ≤ go5) from (HO_0.out.1 _ rfl))
     obtain ⟨ce5, hcl5, hM5, hcc5, hfr5⟩ := Kd.R_elem HO_0.out z70 (x5_1 : Int) p5 q5
     obtain rfl := k70_openM hM5
     have hx5_0 : wr.cell? ⟨go5, (x5_1 : Int).toNat * 2, none⟩ = some (.int .i64 ((rd_T70 x0_1 x5_1).f0)) := hcc5 0 _ rfl
     have hx5_1 : wr.cell? ⟨go5, (x5_1 : Int).toNat * 2 + 1, none⟩ = some (.int .i64 ((rd_T70 x0_1 x5_1).f1)) := hcc5 1 _ rfl
     have hf5_0 : wr.frozen? ⟨go5, (x5_1 : Int).toNat * 2, none⟩ = false := hfr5 0
     have hf5_1 : wr.frozen? ⟨go5, (x5_1 : Int).toNat * 2 + 1, none⟩ = false := hfr5 1
     clear hcl5 hcc5 hfr5; (try clear hM5)
     replace p5 := eq_true p5
     replace q5 := eq_true q5
     have HX8 := Aside0.mk (show Kd.R k70 70 wr w0.heap.size (fun k_ => (P0_ k_ ∨ w.heap.size ≤ k_)) (.slice (some ⟨go5, 0, none⟩) x0_1.length co7) x0_1 from (Rz HO_0))
     obtain ⟨ce8, hcl8, hM8, hcc8, hfr8⟩ := Kd.R_elem HX8.out z70 (x5_1 : Int) (of_decide_eq_true (by first | (with_reducible assumption) | assumption)) (by have h_ : (x5_1 : Int) < ((x0_1.length : Int) : Int) := of_decide_eq_true (by first | (with_reducible assumption) | assumption); first | exact h_ | (have e_ := (Kd.R_reads' HO_0.out).1; omega) | simpa using h_)
     obtain rfl := k70_openM hM8
     have HP8 := Kd.R_seg HX8.out (x5_1 : Int) (of_decide_eq_true (by first | (with_reducible assumption) | assumption)) (by have h_ : (x5_1 : Int) < ((x0_1.length : Int) : Int) := of_decide_eq_true (by first | (with_reducible assumption) | assumption); first | exact h_ | (have e_ := (Kd.R_reads' HO_0.out).1; omega) | simpa using h_) (seg := [.int .i64 x1_1]) (j := 0) hcl8 hcc8 (show 1 ≤ 2 from by decide) (x' := (⟨x1_1, (rd_T70 x0_1 x5_1).f1⟩ : S70)) (k70_mkM _ _ _ (⟨x1_1, (rd_T70 x0_1 x5_1).f1⟩ : S70) ) (fun _ hk => hk)
     have hx8_0 := hcc8 0 _ rfl
     (try simp only [show (k70).sz = 2 from rfl, Nat.mul_one, Nat.add_zero] at hx8_0)
     have hf8_0 := hfr8 0
     (try simp only [show (k70).sz = 2 from rfl, Nat.mul_one, Nat.add_zero] at hf8_0)
     clear hcl8 hcc8 hfr8; (try clear hM8)
     go_wp2_with (first | ((with_reducible refine gate_store (t := 3) (p := 16) rfl ?_); refine store_event (t := 3) (p := 16) (v := ?vo_w9) (w1 := (wr.setCell ⟨go5, (x5_1 : Int).toNat * 2, none⟩ (.int .i64 x1_1))) ?hg ?ho ?hn ?hr ?_; (case ho => rfl); (case hg => rfl); (case hn => rfl); (case hr => first | (go_simp; done) | (go_simp; rfl)); intro w9 hw; have hg : wr.grownBy w9 (some go5) := (by rw [hw]; exact HP8.2); have hp_ : Kd.R k70 70 w9 w0.heap.size (fun k_ => (P0_ k_ ∨ w.heap.size ≤ k_)) (.slice (some ⟨go5, 0, none⟩) x0_1.length co7) y129 := (by rw [hw, Ny129.out]; exact HP8.1); clear HP8; replace HB := Aside0.mk ((by rw [hw]; exact below_set (HB.out) GB5.out : Below w0.heap.size w0 w9)); replace HK := Aside0.mk (Kept.of_grown (S := (fun k_ => P0_ k_)) hg (by repeat (first | (with_reducible first | exact HK.out | apply Kept.alloc | apply Kept.drewN | apply Kept.drew) | exact HK.out)) (fun k_ e_ => (HO_0.out.1 k_ e_))); replace HO_0 := Aside0.mk (hp_); clear hg hw hp_; have p6 : 0 ≤ (x5_1 : Int) := of_decide_eq_true (by first | (with_reducible assumption) | assumption); have q6 : (x5_1 : Int) < ((x0_1.length : Int) : Int) := of_decide_eq_true (by first | (with_reducible assumption) | assumption); obtain ⟨ce6, hcl6, hM6, hcc6, hfr6⟩ := Kd.R_elem HO_0.out z70 (x5_1 : Int) p6 q6; obtain rfl := k70_openM hM6; have hx6_0 : w9.cell? ⟨go5, (x5_1 : Int).toNat * 2, none⟩ = some (.int .i64 ((rd_T70 y129 x5_1).f0)) := hcc6 0 _ rfl; have hx6_1 : w9.cell? ⟨go5, (x5_1 : Int).toNat * 2 + 1, none⟩ = some (.int .i64 ((rd_T70 y129 x5_1).f1)) := hcc6 1 _ rfl; have hf6_0 : w9.frozen? ⟨go5, (x5_1 : Int).toNat * 2, none⟩ = false := hfr6 0; have hf6_1 : w9.frozen? ⟨go5, (x5_1 : Int).toNat * 2 + 1, none⟩ = false := hfr6 1; clear hcl6 hcc6 hfr6; (try clear hM6); replace p6 := eq_true p6; replace q6 := eq_true q6; have HX10 := Aside0.mk (show Kd.R k70 70 w9 w0.heap.size (fun k_ => (P0_ k_ ∨ w.heap.size ≤ k_)) (.slice (some ⟨go5, 0, none⟩) x0_1.length co7) y129 from (Rz HO_0)); obtain ⟨ce10, hcl10, hM10, hcc10, hfr10⟩ := Kd.R_elem HX10.out z70 (x5_1 : Int) (of_decide_eq_true (by first | (with_reducible assumption) | assumption)) (by have h_ : (x5_1 : Int) < ((x0_1.length : Int) : Int) := of_decide_eq_true (by first | (with_reducible assumption) | assumption); first | exact h_ | (have e_ := (Kd.R_reads' HO_0.out).1; omega) | simpa using h_); obtain rfl := k70_openM hM10; have HP10 := Kd.R_seg HX10.out (x5_1 : Int) (of_decide_eq_true (by first | (with_reducible assumption) | assumption)) (by have h_ : (x5_1 : Int) < ((x0_1.length : Int) : Int) := of_decide_eq_true (by first | (with_reducible assumption) | assumption); first | exact h_ | (have e_ := (Kd.R_reads' HO_0.out).1; omega) | simpa using h_) (seg := [.int .i64 (wrap64 (x1_1 + 1))]) (j := 1) hcl10 hcc10 (show 2 ≤ 2 from by decide) (x' := (⟨(rd_T70 y129 x5_1).f0, wrap64 (x1_1 + 1)⟩ : S70)) (k70_mkM _ _ _ (⟨(rd_T70 y129 x5_1).f0, wrap64 (x1_1 + 1)⟩ : S70) ) (fun _ hk => hk); have hx10_1 := hcc10 1 _ rfl; (try simp only [show (k70).sz = 2 from rfl, Nat.mul_one, Nat.add_zero] at hx10_1); have hf10_1 := hfr10 1; (try simp only [show (k70).sz = 2 from rfl, Nat.mul_one, Nat.add_zero] at hf10_1); clear hcl10 hcc10 hfr10; (try clear hM10)) | ((with_reducible refine gate_store (t := 3) (p := 23) rfl ?_); refine store_event (t := 3) (p := 23) (v := ?vo_w11) (w1 := (w9.setCell ⟨go5, (x5_1 : Int).toNat * 2 + 1, none⟩ (.int .i64 (wrap64 (x1_1 + 1))))) ?hg ?ho ?hn ?hr ?_; (case ho => rfl); (case hg => rfl); (case hn => rfl); (case hr => first | (go_simp; done) | (go_simp; rfl)); intro w11 hw; have hg : w9.grownBy w11 (some go5) := (by rw [hw]; exact HP10.2); have hp_ : Kd.R k70 70 w11 w0.heap.size (fun k_ => (P0_ k_ ∨ w.heap.size ≤ k_)) (.slice (some ⟨go5, 0, none⟩) x0_1.length co7) y130 := (by rw [hw, Ny130.out]; exact HP10.1); clear HP10; replace HB := Aside0.mk ((by rw [hw]; exact below_set (HB.out) GB5.out : Below w0.heap.size w0 w11)); replace HK := Aside0.mk (Kept.of_grown (S := (fun k_ => P0_ k_)) hg (by repeat (first | (with_reducible first | exact HK.out | apply Kept.alloc | apply Kept.drewN | apply Kept.drew) | exact HK.out)) (fun k_ e_ => (HO_0.out.1 k_ e_))); replace HO_0 := Aside0.mk (hp_); clear hg hw hp_))
     go_roundg k1
     case measure => have := HK1.out; omega
     case rel => exact ⟨(y130), (wrap64 ((wrap64 (x1_1 + 1)) + 1)), (wrap64 (x5_1 + 1)), (by first | rfl | (simp; done) | (simp [*]; done)), (by first | rfl | (simp; done) | (simp [*]; done)), H', ⟨by have := HK1.out; omega⟩, ⟨by exact Rz HO_0⟩, ⟨by repeat (first | (with_reducible first | exact HK.out | apply Kept.alloc | apply Kept.drewN | apply Kept.drew) | exact HK.out)⟩, ⟨by exact Lz HB⟩⟩
    rw [if_neg c4] at H
    exact absurd H (by simp)
   rw [if_neg c3] at H
   have c3b0 : decide (x5_1 < (x0_1.length : Int)) = false := decide_eq_false c3
   clear c3
   simp only [Option.some.injEq, Prod.mk.injEq] at H
   obtain ⟨rfl, rfl⟩ := H
   obtain ⟨Ao12, co12, eo12⟩ := Kd.R_slice HO_0.out
   subst eo12
   go_wp2
   go_ret
   exact ⟨by first | rfl | (simp [errW_none, errW_some] <;> rfl) | (simp [*, errW_none, errW_some] <;> rfl), by exact Rz HO_0, by exact Lz HB, by repeat (first | (with_reducible first | exact HK.out | apply Kept.alloc | apply Kept.drewN | apply Kept.drew) | exact HK.out)⟩
end Go.Proofs.Ytnebapnfkolflaa.P
end
section
namespace Go.Proofs.Ytnebapnfkolflaa.P
open Go.RowKit Go.Proofs.YtnebapnfkolflaaW.PrintWords Go.Proofs.YtnebapnfkolflaaW.PrintLast Go.Proofs.YtnebapnfkolflaaW.PrintMore
attribute [local go_sem] max2_int min2_int max_two min_two max_three min_three max_four min_four
set_option linter.unusedVariables false
set_option linter.unusedSimpArgs false
def laws_markGraph.f (k : Nat) (a0_0 : Int) (l0_1 : List (S70)) (a1 : Int) : Option (Int × (List (S70))) := (laws_markEdgeS.f k l0_1 a1).bind fun bt132 => (some (bt132.1, bt132.2))
set_option maxHeartbeats 8000000 in
set_option maxRecDepth 100000 in
theorem laws_markGraph.calls (k : Nat) (a0_0 : Int) (P0_1_ : Nat → Prop) (u9000_ : Value) (l0_1 : List (S70)) (a1 : Int) (r1 : Int) (r2 : List (S70)) (w0 w : World) (hB : Below w0.heap.size w0 w) (ho0_1 : Kd.R k70 70 w w0.heap.size P0_1_ u9000_ l0_1) (h : laws_markGraph.f k a0_0 l0_1 a1 = some (r1, r2)) :
  Calls Try.prog 30 #[.agg #[.int .i64 a0_0, u9000_], .int .i64 a1] w fun e w' => e = .returned (.int .i64 r1) ∧ Kd.R k70 70 w' w0.heap.size (fun k_ => (P0_1_ k_ ∨ w.heap.size ≤ k_)) u9000_ r2 ∧ Below w0.heap.size w0 w' ∧ Kept w w' (fun k_ => P0_1_ k_) := by
 have hu25 := Try.underlying25
 have HO0_1 := Aside0.mk (show Kd.R k70 70 w w0.heap.size (fun k_ => (P0_1_ k_ ∨ w.heap.size ≤ k_)) u9000_ l0_1 from Kd.R_mono ho0_1 (fun k_ hk => (.inl hk)))
 have HK := Aside0.mk (Kept.refl w (fun k_ => P0_1_ k_))
 have HW0 := Aside0.mk hB.size
 have HB := Aside0.mk hB
 clear hB
 have H : ((laws_markEdgeS.f k l0_1 a1).bind fun bt132 => (some (bt132.1, bt132.2))) = some (r1, r2) := h
 clear h
 replace H := Option.bind_eq_some_iff.mp H
 obtain ⟨⟨t132, t133⟩, A30, H⟩ := H
 replace H : (some (t132, t133)) = some (r1, r2) := H
 have A3 := Aside0.mk A30
 clear A30
 simp only [Option.some.injEq, Prod.mk.injEq] at H
 obtain ⟨rfl, rfl⟩ := H
 obtain ⟨Ao4, co4, eo4⟩ := Kd.R_slice HO0_1.out
 subst eo4
 go_enter Try.func30, Try.ntmps30
 go_wp2_with (first | ((with_reducible refine gate_dst (N := 2) rfl ?_); refine box_event ?hg (N := 2) ?hd (cs := #[.int .i64 a0_0, .slice Ao4 l0_1.length co4]) (t := 25) ?hr ?_; (case hd => rfl); (case hg => rfl); (case hr => first | (go_simp; done) | (go_simp; rfl)); intro gb131 hg w5 hbox hb; replace HO0_1 := Aside0.mk (Kd.R_below (Rz HO0_1) hb); have BK131 := Aside0.mk (hbox); have GW131 := Aside0.mk ((by rw [hg]; exact (by first | exact HK.out.1 | exact (show Kept w _ (fun k_ => P0_1_ k_) from by repeat (first | (with_reducible first | exact HK.out | apply Kept.alloc | apply Kept.drewN | apply Kept.drew) | exact HK.out)).1) : w.heap.size ≤ gb131)); replace HK := Aside0.mk (Kept.below (S := (fun k_ => P0_1_ k_)) (by repeat (first | (with_reducible first | exact HK.out | apply Kept.alloc | apply Kept.drewN | apply Kept.drew) | exact HK.out)) hb); have GE131 := Aside0.mk ((by rw [hg]; exact (below_size (Lz HB)) : w0.heap.size ≤ gb131)); replace HB := Aside0.mk (below_step (Lz HB) hb); clear hb hbox hg; have hcz6_0 : w5.cell? ⟨gb131, 0, none⟩ = some (.int .i64 a0_0) := (blk_cell BK131.out 0).trans rfl; have hcz6_1 : w5.cell? ⟨gb131, 1, none⟩ = some (.slice Ao4 l0_1.length co4) := (blk_cell BK131.out 1).trans rfl; have hfz6_0 := blk_frozen BK131.out 0; have hfz6_1 := blk_frozen BK131.out 1) | ((with_reducible refine gate_callee (f := 75) rfl ?_); refine goesM_ (some 8) rfl rfl Try.func75 (by kernel_rfl) rfl #[.slice Ao4 l0_1.length co4, .int .i64 a1] rfl ?_; (with_reducible refine (laws_markEdgeS.calls k (fun k_ => some k_ = (.slice Ao4 l0_1.length co4 : Value).ownBlock) (.slice Ao4 l0_1.length co4) l0_1 a1 t132 t133 w0 _ ?side1 ?side2 A3.out).mono ?_); (case side1 => exact Lz1 HB GE131); (case side2 => exact Kd.R_tight rfl HO0_1.out); rintro e w7 ⟨rfl, hy0, hb, hkp⟩; refine ⟨_, rfl, ?_⟩; replace BK131 := Aside0.mk (blk_kept (Bz BK131) hkp (fun hs_ => (fun e_ => (Kd.R_ne HO0_1.out BK131.out (by decide)) e_) hs_)); replace HK := Aside0.mk (Kept.then_ (S := (fun k_ => P0_1_ k_)) (by repeat (first | (with_reducible first | exact HK.out | apply Kept.alloc | apply Kept.drewN | apply Kept.drew | refine Kept.setCell ?_ (.inr GW131.out) _) | exact HK.out)) hkp (fun k_ hs_ => (fun e_ => (HO0_1.out.1 k_ e_.symm)) hs_)); replace HO0_1 := Aside0.mk (Kd.R_reok rfl hy0 (fun k_ e_ => HO0_1.out.1 k_ e_)); replace HB := Aside0.mk (hb); (try clear hb); (try clear hkp); (try clear hy0)))
 go_ret
 exact ⟨by first | rfl | (simp [errW_none, errW_some] <;> rfl) | (simp [*, errW_none, errW_some] <;> rfl), by exact Rz HO0_1, by exact Lz1 HB GE131, by repeat (first | (with_reducible first | exact HK.out | apply Kept.alloc | apply Kept.drewN | apply Kept.drew | refine Kept.setCell ?_ (.inr GW131.out) _) | exact HK.out)⟩
end Go.Proofs.Ytnebapnfkolflaa.P
end
section
namespace Go.Proofs.Ytnebapnfkolflaa.P
open Go.RowKit Go.Proofs.YtnebapnfkolflaaW.PrintWords Go.Proofs.YtnebapnfkolflaaW.PrintLast Go.Proofs.YtnebapnfkolflaaW.PrintMore
attribute [local go_sem] max2_int min2_int max_two min_two max_three min_three max_four min_four
set_option linter.unusedVariables false
set_option linter.unusedSimpArgs false
def laws_markIntS.l0 : Nat → List Int → Int → Int → Option (Int × List Int)
 | 0, _, _, _ => none
 | k + 1, x0, x1, x5 => if x5 < (x0.length : Int) then (if 0 ≤ x5 then (laws_markIntS.l0 k (x0.set (x5 : Int).toNat x1) (wrap64 (x1 + 1)) (wrap64 (x5 + 1))) else (none)) else (some (x1, x0))
def laws_markIntS.f (k : Nat) (l0 : List Int) (a1 : Int) : Option (Int × List Int) := laws_markIntS.l0 k l0 a1 0
set_option maxHeartbeats 8000000 in
set_option maxRecDepth 100000 in
theorem laws_markIntS.calls (k : Nat) (P0_ : Nat → Prop) (u9000_ : Value) (l0 : List Int) (a1 : Int) (r1 : Int) (r2 : List Int) (w0 w : World) (hB : Below w0.heap.size w0 w) (ho0 : Kd.R (Kd.int .i64) 3 w w0.heap.size P0_ u9000_ l0) (h : laws_markIntS.f k l0 a1 = some (r1, r2)) :
  Calls Try.prog 31 #[u9000_, .int .i64 a1] w fun e w' => e = .returned (.int .i64 r1) ∧ Kd.R (Kd.int .i64) 3 w' w0.heap.size (fun k_ => (P0_ k_ ∨ w.heap.size ≤ k_)) u9000_ r2 ∧ Below w0.heap.size w0 w' ∧ Kept w w' (fun k_ => P0_ k_) := by
 have HO0 := Aside0.mk (show Kd.R (Kd.int .i64) 3 w w0.heap.size (fun k_ => (P0_ k_ ∨ w.heap.size ≤ k_)) u9000_ l0 from Kd.R_mono ho0 (fun k_ hk => (.inl hk)))
 have HK := Aside0.mk (Kept.refl w (fun k_ => P0_ k_))
 have HW0 := Aside0.mk hB.size
 have HB := Aside0.mk hB
 clear hB
 have H : (laws_markIntS.l0 k l0 a1 0) = some (r1, r2) := h
 clear h
 have H' := Aside0.mk H
 clear H
 go_enter Try.func31, Try.ntmps31
 go_wp2
 go_loopg [1, 5] k (fun kq v1 v5 w' => ∃ (x0_1 : List Int) (x1_1 : Int) (x5_1 : Int), v1 = .int .i64 x1_1 ∧ v5 = .int .i64 x5_1 ∧ Aside0 (laws_markIntS.l0 kq x0_1 x1_1 x5_1 = some (r1, r2)) ∧ Aside0 (kq ≤ k) ∧ Aside0 (Kd.R (Kd.int .i64) 3 w' w0.heap.size (fun k_ => (P0_ k_ ∨ w.heap.size ≤ k_)) u9000_ x0_1) ∧ Aside0 (Kept w w' (fun k_ => P0_ k_)) ∧ Aside0 (Below w0.heap.size w0 w'))
 case atStart => exact ⟨(l0), (a1), (0), (by first | rfl | (simp; done) | (simp [*]; done)), (by first | rfl | (simp; done) | (simp [*]; done)), H', ⟨Nat.le_refl _⟩, ⟨by exact Rz HO0⟩, ⟨by repeat (first | (with_reducible first | exact HK.out | apply Kept.alloc | apply Kept.drewN | apply Kept.drew) | exact HK.out)⟩, ⟨by exact Lz HB⟩⟩
 case round =>
  clear H'
  obtain ⟨x0_1, x1_1, x5_1, rfl, rfl, HA, HK1, HO_0, HK, HB⟩ := hrel
  cases gk with
  | zero => exact absurd HA.out (by simp [laws_markIntS.l0])
  | succ k1 =>
   have H := HA.out
   clear HA
   simp only [laws_markIntS.l0] at H
   by_cases c3 : x5_1 < (x0_1.length : Int)
   ·rw [if_pos c3] at H
    have c3b0 : decide (x5_1 < (x0_1.length : Int)) = true := decide_eq_true c3
    clear c3
    by_cases c4 : 0 ≤ x5_1
    ·rw [if_pos c4] at H
     have c4b0 : decide (0 ≤ x5_1) = true := decide_eq_true c4
     clear c4
     obtain ⟨y134, hy134⟩ : ∃ y_ : List Int, y_ = (x0_1.set (x5_1 : Int).toNat x1_1) := ⟨_, rfl⟩
     replace H : (laws_markIntS.l0 k1 y134 (wrap64 (x1_1 + 1)) (wrap64 (x5_1 + 1))) = some (r1, r2) := by first | (rw [hy134]; with_reducible exact H) | (have H2_ := (Option.bind_some _ _).symm.trans H; rw [hy134]; with_reducible exact H2_) | (have H2_ := (Option.bind_some _ _).symm.trans H; with_reducible exact H2_) | with_reducible exact H | (rw [hy134]; exact H) | exact H
     have Ny134 := Aside0.mk hy134
     clear hy134
     have H' := Aside0.mk H
     clear H
     obtain ⟨Ao6, co6, eo6⟩ := Kd.R_slice HO_0.out
     subst eo6
     have p5 : 0 ≤ (x5_1 : Int) := of_decide_eq_true (by first | (with_reducible assumption) | assumption)
     have q5 : (x5_1 : Int) < ((x0_1.length : Int) : Int) := of_decide_eq_true (by first | (with_reducible assumption) | assumption)
     obtain ⟨go5, co5, eo5, gb5, gl5, cl5, HG5⟩ := Kd.R_form HO_0.out (by omega)
     (first | cases eo5 | (injection eo5 with ea_ en_ ec_; (first | subst ea_ | (injection ea_ with ea_; subst ea_)); subst ec_; clear en_))
     have GB5 := Aside0.mk gb5
     have GG5 := Aside0.mk HG5
     clear gb5 gl5 HG5
     have HMgo5 := Aside0.mk (show (P0_ go5 ∨ w.heap.size ≤ go5) from (HO_0.out.1 _ rfl))
     obtain ⟨hx5_0, hf5_0⟩ := Kd.R_celln 0 HO_0.out (x5_1 : Int) p5 q5
     replace p5 := eq_true p5
     replace q5 := eq_true q5
     have HP7 := Kd.R_putg HO_0.out (x5_1 : Int) x1_1
     go_wp2_with (first | ((with_reducible refine gate_store (t := 3) (p := 15) rfl ?_); refine store_event (t := 3) (p := 15) (v := ?vo_w8) (w1 := (wr.setCell ⟨go5, (x5_1 : Int).toNat, none⟩ (.int .i64 x1_1))) ?hg ?ho ?hn ?hr ?_; (case ho => rfl); (case hg => rfl); (case hn => rfl); (case hr => first | (go_simp; done) | (go_simp; rfl)); intro w8 hw; have hg : wr.grownBy w8 (some go5) := (by rw [hw]; exact HP7.2); have hp_ : Kd.R (Kd.int .i64) 3 w8 w0.heap.size (fun k_ => (P0_ k_ ∨ w.heap.size ≤ k_)) (.slice (some ⟨go5, 0, none⟩) x0_1.length co6) y134 := (by rw [hw, Ny134.out]; exact HP7.1); clear HP7; replace HB := Aside0.mk ((by rw [hw]; exact below_set (HB.out) GB5.out : Below w0.heap.size w0 w8)); replace HK := Aside0.mk (Kept.of_grown (S := (fun k_ => P0_ k_)) hg (by repeat (first | (with_reducible first | exact HK.out | apply Kept.alloc | apply Kept.drewN | apply Kept.drew) | exact HK.out)) (fun k_ e_ => (HO_0.out.1 k_ e_))); replace HO_0 := Aside0.mk (hp_); clear hg hw hp_))
     go_roundg k1
     case measure => have := HK1.out; omega
     case rel => exact ⟨(y134), (wrap64 (x1_1 + 1)), (wrap64 (x5_1 + 1)), (by first | rfl | (simp; done) | (simp [*]; done)), (by first | rfl | (simp; done) | (simp [*]; done)), H', ⟨by have := HK1.out; omega⟩, ⟨by exact Rz HO_0⟩, ⟨by repeat (first | (with_reducible first | exact HK.out | apply Kept.alloc | apply Kept.drewN | apply Kept.drew) | exact HK.out)⟩, ⟨by exact Lz HB⟩⟩
    rw [if_neg c4] at H
    exact absurd H (by simp)
   rw [if_neg c3] at H
   have c3b0 : decide (x5_1 < (x0_1.length : Int)) = false := decide_eq_false c3
   clear c3
   simp only [Option.some.injEq, Prod.mk.injEq] at H
   obtain ⟨rfl, rfl⟩ := H
   obtain ⟨Ao9, co9, eo9⟩ := Kd.R_slice HO_0.out
   subst eo9
   go_wp2
   go_ret
   exact ⟨by first | rfl | (simp [errW_none, errW_some] <;> rfl) | (simp [*, errW_none, errW_some] <;> rfl), by exact Rz HO_0, by exact Lz HB, by repeat (first | (with_reducible first | exact HK.out | apply Kept.alloc | apply Kept.drewN | apply Kept.drew) | exact HK.out)⟩
end Go.Proofs.Ytnebapnfkolflaa.P
end
section
namespace Go.Proofs.Ytnebapnfkolflaa.P
open Go.RowKit Go.Proofs.YtnebapnfkolflaaW.PrintWords Go.Proofs.YtnebapnfkolflaaW.PrintLast Go.Proofs.YtnebapnfkolflaaW.PrintMore
attribute [local go_sem] max2_int min2_int max_two min_two max_three min_three max_four min_four
set_option linter.unusedVariables false
set_option linter.unusedSimpArgs false
def laws_heldIntS.l0 : Nat → List Int → Int → Int → Option (Int)
 | 0, _, _, _ => none
 | k + 1, x0, x1, x5 => if x5 < (x0.length : Int) then (if 0 ≤ x5 then (if (rd x0 x5) = x1 then (laws_heldIntS.l0 k x0 (wrap64 (x1 + 1)) (wrap64 (x5 + 1))) else (some (-1))) else (none)) else (some x1)
def laws_heldIntS.f (k : Nat) (l0 : List Int) (a1 : Int) : Option (Int) := laws_heldIntS.l0 k l0 a1 0
set_option maxHeartbeats 8000000 in
set_option maxRecDepth 100000 in
theorem laws_heldIntS.calls (k : Nat) (A0 : Option Addr) (c0 : Nat) (l0 : List Int) (a1 : Int) (r : Int) (w : World) (hr0 : Kd.C (Kd.int .i64) w A0 l0.length l0) (hc0 : l0.length ≤ c0) (h : laws_heldIntS.f k l0 a1 = some r) :
  Calls Try.prog 32 #[.slice A0 l0.length c0, .int .i64 a1] w fun e w' => e = .returned (.int .i64 r) ∧ Drawn0 w w' := by
 have HR0 := Aside0.mk hr0
 have HC0 := Aside0.mk hc0
 clear hr0 hc0
 have H : (laws_heldIntS.l0 k l0 a1 0) = some r := h
 clear h
 have H' := Aside0.mk H
 clear H
 go_enter Try.func32, Try.ntmps32
 go_wp2
 go_loopg [1, 5] k (fun kq v1 v5 w' => ∃ (x1_1 : Int) (x5_1 : Int), v1 = .int .i64 x1_1 ∧ v5 = .int .i64 x5_1 ∧ Aside0 (laws_heldIntS.l0 kq l0 x1_1 x5_1 = some r) ∧ Aside0 (kq ≤ k) ∧ Drawn0 w w')
 case atStart => exact ⟨(a1), (0), (by first | rfl | (simp; done) | (simp [*]; done)), (by first | rfl | (simp; done) | (simp [*]; done)), H', ⟨Nat.le_refl _⟩, by repeat (first | exact Drawn0.refl _ | apply Drawn0.step)⟩
 case round =>
  clear H'
  obtain ⟨x1_1, x5_1, rfl, rfl, HA, HK1, ⟨m1, rfl⟩⟩ := hrel
  cases gk with
  | zero => exact absurd HA.out (by simp [laws_heldIntS.l0])
  | succ k1 =>
   have H := HA.out
   clear HA
   simp only [laws_heldIntS.l0] at H
   by_cases c3 : x5_1 < (l0.length : Int)
   ·rw [if_pos c3] at H
    have c3b0 : decide (x5_1 < (l0.length : Int)) = true := decide_eq_true c3
    clear c3
    by_cases c4 : 0 ≤ x5_1
    ·rw [if_pos c4] at H
     have c4b0 : decide (0 ≤ x5_1) = true := decide_eq_true c4
     clear c4
     by_cases c5 : (rd l0 x5_1) = x1_1
     ·rw [if_pos c5] at H
      have c5b0 : ((rd l0 x5_1) == x1_1) = true := beq_iff_eq.mpr c5
      have c5b1 : ((rd l0 x5_1) != x1_1) = false := bne_eq_false_iff_eq.mpr c5
      clear c5
      have H' := Aside0.mk H
      clear H
      have p135 : 0 ≤ (x5_1 : Int) := of_decide_eq_true (by first | (with_reducible assumption) | assumption)
      have q135 : x5_1 < (l0.length : Int) := of_decide_eq_true (by first | (with_reducible assumption) | assumption)
      obtain ⟨ad135, e135, hx135_0⟩ := Kd.at_int HR0.out x5_1 p135 q135
      cases e135
      replace p135 := eq_true p135
      replace q135 := eq_true q135
      go_wp2
      go_roundg k1
      case measure => have := HK1.out; omega
      case rel => exact ⟨(wrap64 (x1_1 + 1)), (wrap64 (x5_1 + 1)), (by first | rfl | (simp; done) | (simp [*]; done)), (by first | rfl | (simp; done) | (simp [*]; done)), H', ⟨by have := HK1.out; omega⟩, by repeat (first | exact Drawn0.refl _ | apply Drawn0.step)⟩
     rw [if_neg c5] at H
     have c5b0 : ((rd l0 x5_1) == x1_1) = false := beq_eq_false_iff_ne.mpr c5
     have c5b1 : ((rd l0 x5_1) != x1_1) = true := bne_iff_ne.mpr c5
     obtain rfl := Option.some.inj H
     have p135 : 0 ≤ (x5_1 : Int) := of_decide_eq_true (by first | (with_reducible assumption) | assumption)
     have q135 : x5_1 < (l0.length : Int) := of_decide_eq_true (by first | (with_reducible assumption) | assumption)
     obtain ⟨ad135, e135, hx135_0⟩ := Kd.at_int HR0.out x5_1 p135 q135
     cases e135
     replace p135 := eq_true p135
     replace q135 := eq_true q135
     go_wp2
     go_ret
     exact ⟨by first | rfl | (simp; done) | (simp [*]; done), by repeat (first | exact Drawn0.refl _ | apply Drawn0.step)⟩
    rw [if_neg c4] at H
    exact absurd H (by simp)
   rw [if_neg c3] at H
   have c3b0 : decide (x5_1 < (l0.length : Int)) = false := decide_eq_false c3
   clear c3
   obtain rfl := Option.some.inj H
   go_wp2
   go_ret
   exact ⟨by first | rfl | (simp; done) | (simp [*]; done), by repeat (first | exact Drawn0.refl _ | apply Drawn0.step)⟩
end Go.Proofs.Ytnebapnfkolflaa.P
end
section
set_option linter.unusedVariables false
set_option linter.unusedSimpArgs false
namespace Go.Proofs.Ytnebapnfkolflaa.Pure
open Go.RowKit Go.Proofs.Ytnebapnfkolflaa.P Go.Proofs.YtnebapnfkolflaaW.PrintWords Go.Proofs.YtnebapnfkolflaaW.PrintLast Go.Proofs.YtnebapnfkolflaaW.PrintMore Go.Proofs.Ytnebapnfkolflaa.Base Go.Proofs.Ytnebapnfkolflaa.Reduce Go.Proofs.Ytnebapnfkolflaa.Loops Go.Proofs.Ytnebapnfkolflaa.Bits
theorem FnExactChipsAt : StatFnExactChipsAt := by
  intro n l d1 i2 ⟨_, hl, _⟩ ⟨_, _⟩ _
  refine Ev.rounds (r := true) ?_
  unfold laws_FnExactChipsAt.f
  by_cases hd1 : (d1.length : Int) > 1048576
  · repeat (first
      | exact Ev.now _
      | dsimp only
      | with_reducible refine ev_ift (by first | rfl | omega) ?_
      | with_reducible refine ev_ifn (by omega) ?_
      | with_reducible refine ev_ifb ?_
      | with_reducible refine ev_ifnn ?_
      | with_reducible refine ev_iff ?_
      | (refine ev_succ ?_; simp only [if_true, laws_FnExactChipsAt.j0, laws_FnExactChipsAt.j1, laws_FnExactChipsAt.j2, laws_FnExactChipsAt.j3, laws_FnExactChipsAt.j4])
      )
  have hs := szGraph_eq n l hl 1048576 (by omega) (by omega)
  by_cases h : (l.length : Int) ≤ 1048576
  · have es : Ev (fun _ : Nat => laws_szGraph.f n l 1048576) (1048576 - (l.length : Int)) := ev_const fun _ => by rw [hs, if_pos h]
    have tg := toGraph_ev n l (by omega)
    have hm := map_cv_length l
    have hL : (l.map cvE).length < 4611686018427387904 := by omega
    have hLd1 : d1.length < 4611686018427387904 := by omega
    have td1 := toIntS_ev d1 (by omega)
    have ed1 := eqIntS_ev d1 hLd1
    obtain ⟨r, q, g1, g2, _⟩ := chipsAt_both n (l.map cvE) d1 i2 hL hLd1
    have eg := eqGraph_ev n (l.map cvE) hL
    repeat (first
      | exact Ev.now _
      | dsimp only
      | (with_reducible refine Ev.bind es ?_) | (with_reducible refine Ev.bind tg ?_) | (with_reducible refine Ev.bind td1 ?_) | (with_reducible refine Ev.bind ed1 ?_) | (with_reducible refine Ev.bind g1 ?_) | (with_reducible refine Ev.bind g2 ?_) | (with_reducible refine Ev.bind eg ?_)
      | with_reducible refine ev_ift (by first | rfl | omega) ?_
      | with_reducible refine ev_ifn (by omega) ?_
      | with_reducible refine ev_ifb ?_
      | with_reducible refine ev_ifnn ?_
      | with_reducible refine ev_iff ?_
      | (refine ev_succ ?_; simp only [if_true, laws_FnExactChipsAt.j0, laws_FnExactChipsAt.j1, laws_FnExactChipsAt.j2, laws_FnExactChipsAt.j3, laws_FnExactChipsAt.j4])
      )
  · have es : Ev (fun _ : Nat => laws_szGraph.f n l 1048576) (-1) := ev_const fun _ => by rw [hs, if_neg h]
    repeat (first
      | exact Ev.now _
      | dsimp only
      | (with_reducible refine Ev.bind es ?_)
      | with_reducible refine ev_ift (by first | rfl | omega) ?_
      | with_reducible refine ev_ifn (by omega) ?_
      | with_reducible refine ev_ifb ?_
      | with_reducible refine ev_ifnn ?_
      | with_reducible refine ev_iff ?_
      | (refine ev_succ ?_; simp only [if_true, laws_FnExactChipsAt.j0, laws_FnExactChipsAt.j1, laws_FnExactChipsAt.j2, laws_FnExactChipsAt.j3, laws_FnExactChipsAt.j4])
      )
end Go.Proofs.Ytnebapnfkolflaa.Pure
end
