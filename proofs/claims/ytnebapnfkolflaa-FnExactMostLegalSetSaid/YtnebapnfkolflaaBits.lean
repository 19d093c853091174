/- Bits of whole numbers as the program's shifts and masks have them; sets of small numbers as masks. -/
import Derived.Test.YtnebapnfkolflaaBase
import Derived.Laws.BitsLemmas
set_option autoImplicit false
namespace Go.Proofs.Ytnebapnfkolflaa.Bits
open Go.RowKit Go.Proofs.YtnebapnfkolflaaW.PrintWords Go.Proofs.YtnebapnfkolflaaW.PrintLast Go.Proofs.YtnebapnfkolflaaW.PrintMore Go.Proofs.Ytnebapnfkolflaa.Base

theorem wraps62 (n : Int) (h0 : 0 ≤ n) (h1 : n < 2 ^ 62) : IntKind.i64.wrap n = n := by rw [IntKind.wrap_i64]; omega

theorem shr_nat (M v : Nat) (hv : v ≤ 62) : shr .i64 (M : Int) (v : Int) = ((M / 2 ^ v : Nat) : Int) := by
  unfold shr
  rw [Int.toNat_natCast, show IntKind.i64.bits = 64 from rfl, Nat.min_eq_left (by omega)]
  norm_cast

theorem and_one (x : Nat) (hx : x < 2 ^ 62) : Go.bits .and .i64 (x : Int) 1 = ((x % 2 : Nat) : Int) := by
  have := (bits_nat .i64 62 (by decide) wraps62 x 1 hx (by decide)).1
  rw [show ((1 : Nat) : Int) = 1 from rfl] at this
  rw [this, show (x &&& 1) = x % 2 from Nat.and_one_is_mod x]

theorem bit_of (M v : Nat) (hM : M < 2 ^ 62) (hv : v ≤ 62) : Go.bits .and .i64 (shr .i64 (M : Int) (v : Int)) 1 = if M.testBit v = true then 1 else 0 := by
  have hlt : M / 2 ^ v < 2 ^ 62 := Nat.lt_of_le_of_lt (Nat.div_le_self _ _) hM
  rw [shr_nat M v hv, and_one _ hlt]
  have : M.testBit v = decide (M / 2 ^ v % 2 = 1) := by
    rw [Nat.testBit_eq_decide_div_mod_eq]
  rw [this]
  by_cases h : M / 2 ^ v % 2 = 1
  · simp [h]
  · have : M / 2 ^ v % 2 = 0 := by omega
    simp [this]

theorem shl_nat (a : Nat) (ha : a < 62) : shl .i64 1 (a : Int) = ((2 ^ a : Nat) : Int) := by
  unfold shl
  rw [Int.toNat_natCast, show IntKind.i64.bits = 64 from rfl, Nat.min_eq_left (by omega), Int.one_mul]
  have : ((2 : Int) ^ a) = ((2 ^ a : Nat) : Int) := by norm_cast
  rw [this]
  refine wraps62 _ (Int.natCast_nonneg _) ?_
  have : 2 ^ a < 2 ^ 62 := Nat.pow_lt_pow_right (by decide) ha
  exact_mod_cast this

theorem or_nat (x y : Nat) (hx : x < 2 ^ 62) (hy : y < 2 ^ 62) : Go.bits .or .i64 (x : Int) (y : Int) = ((x ||| y : Nat) : Int) :=
  (bits_nat .i64 62 (by decide) wraps62 x y hx hy).2

theorem or_two (M a b : Nat) (hM : M < 2 ^ 62) (ha : a < 62) (hb : b < 62) : Go.bits .or .i64 (M : Int) (Go.bits .or .i64 (shl .i64 1 (a : Int)) (shl .i64 1 (b : Int))) = ((M ||| (2 ^ a ||| 2 ^ b) : Nat) : Int) := by
  have pa : 2 ^ a < 2 ^ 62 := Nat.pow_lt_pow_right (by decide) ha
  have pb : 2 ^ b < 2 ^ 62 := Nat.pow_lt_pow_right (by decide) hb
  rw [shl_nat a ha, shl_nat b hb, or_nat _ _ pa pb, or_nat _ _ hM (Nat.or_lt_two_pow pa pb)]

/-! ### closures of edges as masks -/
def upd (M : Nat) (e : Nat × Nat) : Nat := if (M.testBit e.1 || M.testBit e.2) = true then M ||| (2 ^ e.1 ||| 2 ^ e.2) else M

theorem upd_bit (M : Nat) (e : Nat × Nat) (v : Nat) : (upd M e).testBit v = true ↔ M.testBit v = true ∨ ((M.testBit e.1 = true ∨ M.testBit e.2 = true) ∧ (v = e.1 ∨ v = e.2)) := by
  unfold upd
  by_cases h : (M.testBit e.1 || M.testBit e.2) = true
  · rw [if_pos h]
    simp only [Bool.or_eq_true] at h
    simp only [Nat.testBit_or, Nat.testBit_two_pow, Bool.or_eq_true, decide_eq_true_eq]
    constructor
    · rintro (h1 | h1 | h1)
      · exact Or.inl h1
      · exact Or.inr ⟨h, Or.inl h1.symm⟩
      · exact Or.inr ⟨h, Or.inr h1.symm⟩
    · rintro (h1 | ⟨_, h1 | h1⟩)
      · exact Or.inl h1
      · exact Or.inr (Or.inl h1.symm)
      · exact Or.inr (Or.inr h1.symm)
  · rw [if_neg h]
    simp only [Bool.or_eq_true, not_or] at h
    constructor
    · exact Or.inl
    · rintro (h1 | ⟨h2 | h2, _⟩)
      · exact h1
      · exact absurd h2 h.1
      · exact absurd h2 h.2

theorem upd_lt (M : Nat) (e : Nat × Nat) (n : Nat) (hM : M < 2 ^ n) (h1 : e.1 < n) (h2 : e.2 < n) : upd M e < 2 ^ n := by
  unfold upd
  split
  · exact Nat.or_lt_two_pow hM (Nat.or_lt_two_pow (Nat.pow_lt_pow_right (by decide) h1) (Nat.pow_lt_pow_right (by decide) h2))
  · exact hM

def rnd (es : List (Nat × Nat)) (M : Nat) : Nat := es.foldl upd M

theorem rnd_mono (es : List (Nat × Nat)) : ∀ M v, M.testBit v = true → (rnd es M).testBit v = true := by
  induction es with
  | nil => exact fun M v h => h
  | cons e es ih => exact fun M v h => ih _ v ((upd_bit M e v).2 (Or.inl h))

theorem rnd_lt (es : List (Nat × Nat)) (n : Nat) : ∀ M, M < 2 ^ n → (∀ e ∈ es, e.1 < n ∧ e.2 < n) → rnd es M < 2 ^ n := by
  induction es with
  | nil => exact fun M h _ => h
  | cons e es ih => exact fun M h he => ih _ (upd_lt M e n h (he e (by simp)).1 (he e (by simp)).2) (fun x hx => he x (by simp [hx]))

theorem rnd_min (P : Nat → Prop) (es : List (Nat × Nat)) : ∀ M, (∀ e ∈ es, P e.1 ↔ P e.2) → (∀ v, M.testBit v = true → P v) → ∀ v, (rnd es M).testBit v = true → P v := by
  induction es with
  | nil => exact fun M _ h => h
  | cons e es ih =>
    intro M he h
    refine ih _ (fun x hx => he x (by simp [hx])) (fun v hv => ?_)
    rcases (upd_bit M e v).1 hv with h1 | ⟨h2, h3⟩
    · exact h v h1
    · have hb := he e (by simp)
      have : P e.1 := by
        rcases h2 with h2 | h2
        · exact h _ h2
        · exact hb.2 (h _ h2)
      rcases h3 with rfl | rfl
      · exact this
      · exact hb.1 this

theorem upd_same {M : Nat} {e : Nat × Nat} (h : ∀ v, (upd M e).testBit v = true → M.testBit v = true) : M.testBit e.1 = true ↔ M.testBit e.2 = true :=
  ⟨fun h1 => h _ ((upd_bit M e _).2 (Or.inr ⟨Or.inl h1, Or.inr rfl⟩)), fun h1 => h _ ((upd_bit M e _).2 (Or.inr ⟨Or.inr h1, Or.inl rfl⟩))⟩

theorem rnd_fixed (es : List (Nat × Nat)) : ∀ M, (∀ v, (rnd es M).testBit v = true → M.testBit v = true) → ∀ e ∈ es, (M.testBit e.1 = true ↔ M.testBit e.2 = true) := by
  induction es with
  | nil => intro M _ e he; cases he
  | cons e es ih =>
    intro M h x hx
    have h1 : ∀ v, (upd M e).testBit v = true → M.testBit v = true := fun v hv => h v (rnd_mono es _ v hv)
    rcases List.mem_cons.1 hx with rfl | hx
    · exact upd_same h1
    · have h2 : upd M e = M := Nat.eq_of_testBit_eq fun i => by
        rw [Bool.eq_iff_iff]
        exact ⟨h1 i, fun hi => (upd_bit M e i).2 (Or.inl hi)⟩
      have h3 := ih M (fun v hv => h v (by show (rnd es (upd M e)).testBit v = true; rw [h2]; exact hv))
      exact h3 x hx

/-- How many of the first n bits are set. -/
def pop (M : Nat) : Nat → Nat
  | 0 => 0
  | n + 1 => pop M n + if M.testBit n = true then 1 else 0

theorem pop_le (M n : Nat) : pop M n ≤ n := by
  induction n with
  | zero => exact Nat.le_refl _
  | succ n ih => simp only [pop]; split <;> omega

theorem pop_mono {M M' : Nat} (h : ∀ v, M.testBit v = true → M'.testBit v = true) (n : Nat) : pop M n ≤ pop M' n := by
  induction n with
  | zero => exact Nat.le_refl _
  | succ n ih =>
    simp only [pop]
    by_cases h1 : M.testBit n = true
    · rw [if_pos h1, if_pos (h n h1)]; omega
    · rw [if_neg h1]; omega

theorem pop_lt {M M' : Nat} (h : ∀ v, M.testBit v = true → M'.testBit v = true) (n v : Nat) (hv : v < n) (h0 : ¬ M.testBit v = true) (h1 : M'.testBit v = true) : pop M n < pop M' n := by
  induction n with
  | zero => omega
  | succ n ih =>
    simp only [pop]
    by_cases e : v = n
    · subst e
      rw [if_neg h0, if_pos h1]
      have := pop_mono h v
      omega
    · have := ih (by omega)
      by_cases h2 : M.testBit n = true
      · rw [if_pos h2, if_pos (h n h2)]; omega
      · rw [if_neg h2]; omega

def iter (es : List (Nat × Nat)) : Nat → Nat → Nat
  | 0, M => M
  | j + 1, M => iter es j (rnd es M)

theorem iter_lt (es : List (Nat × Nat)) (n : Nat) (he : ∀ e ∈ es, e.1 < n ∧ e.2 < n) : ∀ j M, M < 2 ^ n → iter es j M < 2 ^ n := by
  intro j
  induction j with
  | zero => exact fun M h => h
  | succ j ih => exact fun M h => ih _ (rnd_lt es n M h he)

theorem iter_mono (es : List (Nat × Nat)) : ∀ j M v, M.testBit v = true → (iter es j M).testBit v = true := by
  intro j
  induction j with
  | zero => exact fun M v h => h
  | succ j ih => exact fun M v h => ih _ v (rnd_mono es M v h)

theorem iter_min (P : Nat → Prop) (es : List (Nat × Nat)) (he : ∀ e ∈ es, P e.1 ↔ P e.2) : ∀ j M, (∀ v, M.testBit v = true → P v) → ∀ v, (iter es j M).testBit v = true → P v := by
  intro j
  induction j with
  | zero => exact fun M h => h
  | succ j ih => exact fun M h => ih _ (rnd_min P es M he h)

theorem iter_fixed (es : List (Nat × Nat)) : ∀ j M, rnd es M = M → iter es j M = M := by
  intro j
  induction j with
  | zero => exact fun M _ => rfl
  | succ j ih => intro M h; simp only [iter]; rw [h]; exact ih M h

theorem iter_closed (es : List (Nat × Nat)) (n : Nat) (he : ∀ e ∈ es, e.1 < n ∧ e.2 < n) : ∀ j M, M < 2 ^ n → n < pop M n + j → rnd es (iter es j M) = iter es j M := by
  intro j
  induction j with
  | zero => intro M _ h; have := pop_le M n; omega
  | succ j ih =>
    intro M hM h
    by_cases hf : rnd es M = M
    · rw [iter_fixed es _ M hf, hf]
    · simp only [iter]
      refine ih _ (rnd_lt es n M hM he) ?_
      have hex : ∃ v, v < n ∧ ¬ M.testBit v = true ∧ (rnd es M).testBit v = true := by
        refine Classical.byContradiction fun hno => hf (Nat.eq_of_testBit_eq fun i => ?_)
        rw [Bool.eq_iff_iff]
        refine ⟨fun hi => Classical.byContradiction fun hn => hno ⟨i, ?_, hn, hi⟩, rnd_mono es M i⟩
        refine Classical.byContradiction fun hge => ?_
        have : (rnd es M) < 2 ^ i := Nat.lt_of_lt_of_le (rnd_lt es n M hM he) (Nat.pow_le_pow_right (by decide) (by omega))
        rw [Nat.testBit_lt_two_pow this] at hi
        cases hi
      obtain ⟨v, hv, h0, h1⟩ := hex
      have := pop_lt (rnd_mono es M) n v hv h0 h1
      omega

/-- After n rounds from the mask 1 the mask is full exactly if whoever is closed and holds 0 holds all. -/
theorem iter_full (es : List (Nat × Nat)) (n : Nat) (hn : 0 < n) (he : ∀ e ∈ es, e.1 < n ∧ e.2 < n) :
    iter es n 1 = 2 ^ n - 1 ↔ ∀ P : Nat → Prop, P 0 → (∀ e ∈ es, P e.1 ↔ P e.2) → ∀ v, v < n → P v := by
  have h1 : (1 : Nat) < 2 ^ n := Nat.one_lt_two_pow (by omega)
  constructor
  · intro h P h0 hP v hv
    refine iter_min P es hP n 1 (fun v hv => ?_) v (by rw [h, Nat.testBit_two_pow_sub_one]; simpa using hv)
    have : v = 0 := by
      rw [show (1 : Nat) = 2 ^ 0 from rfl, Nat.testBit_two_pow] at hv
      simp at hv
      exact hv.symm
    rw [this]; exact h0
  · intro h
    have hc := iter_closed es n he n 1 h1 (by
      have : ∀ m, 0 < m → 1 ≤ pop 1 m := by
        intro m
        induction m with
        | zero => intro h; omega
        | succ m ih =>
          intro _
          simp only [pop]
          by_cases e : m = 0
          · subst e; decide
          · have := ih (by omega); omega
      have := this n hn
      omega)
    have hall := h (fun v => (iter es n 1).testBit v = true) (iter_mono es n 1 0 (by decide)) (rnd_fixed es _ (fun v hv => by rw [hc] at hv; exact hv))
    refine Nat.eq_of_testBit_eq fun i => ?_
    rw [Nat.testBit_two_pow_sub_one, Bool.eq_iff_iff, decide_eq_true_eq]
    refine ⟨fun hi => Classical.byContradiction fun hge => ?_, hall i⟩
    have : iter es n 1 < 2 ^ i := Nat.lt_of_lt_of_le (iter_lt es n he n 1 h1) (Nat.pow_le_pow_right (by decide) (by omega))
    rw [Nat.testBit_lt_two_pow this] at hi
    cases hi

end Go.Proofs.Ytnebapnfkolflaa.Bits
