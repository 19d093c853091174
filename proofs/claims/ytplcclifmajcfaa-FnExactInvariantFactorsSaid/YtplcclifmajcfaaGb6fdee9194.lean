/- Functions of the program as plain Lean functions and that the machine's calls answer as they do, the words of the print that these use, lemmas and plain proofs of laws. Put together by a program of this work that leaves out what nothing uses; Lean checks it. -/
import Derived.Deep.Slices
import Derived.ChangeSame
import Derived.ChangeMaps5
import Derived.Test.YtplcclifmajcfaaG0578f0b4fd
section
set_option autoImplicit false
namespace Go.Proofs.Ytplcclifmajcfaa.Minor
open Go.RowKit Go.Proofs.YtplcclifmajcfaaW.PrintWords Go.Proofs.YtplcclifmajcfaaW.PrintLast Go.Proofs.YtplcclifmajcfaaW.PrintMore Go.Proofs.Ytplcclifmajcfaa.Base Go.Proofs.Ytplcclifmajcfaa.Loops Go.Proofs.Ytplcclifmajcfaa.Bits Go.Proofs.Ytplcclifmajcfaa.Det
def zSum (x : Int → Int) (F : List Int → Int) : List Int → List Int → Int → Int
  | _, [], _ => 0
  | pre, c :: post, g => g * x c * F (pre ++ post) + zSum x F (pre ++ [c]) post (-g)
def dZ (row : Int → Int → Int) : List Int → List Int → Int
  | [], _ => 1
  | r :: R, C => zSum (row r) (dZ row R) [] C 1
theorem wrap_id {y : Int} (h : y.natAbs < 9223372036854775808) : wrap64 y = y := by unfold wrap64; omega
theorem term_bound {g x y : Int} {M : Nat} (hg : g = 1 ∨ g = -1) (hx : x.natAbs ≤ 500) (hy : y.natAbs ≤ M) : (g * x * y).natAbs ≤ 500 * M := by
  rw [Int.natAbs_mul, Int.natAbs_mul]
  have : g.natAbs = 1 := by omega
  rw [this, Nat.one_mul]
  exact Nat.mul_le_mul hx hy
theorem zSum_bound (x : Int → Int) (F : List Int → Int) (P : Int → Prop) (N M : Nat) (hx : ∀ c, P c → (x c).natAbs ≤ 500) (hF : ∀ L : List Int, L.length = N → (∀ c ∈ L, P c) → (F L).natAbs ≤ M) :
    ∀ (post pre : List Int) (g : Int), (g = 1 ∨ g = -1) → pre.length + post.length = N + 1 → (∀ c ∈ pre ++ post, P c) → (zSum x F pre post g).natAbs ≤ post.length * (500 * M) := by
  intro post
  induction post with
  | nil => intro pre g _ _ _; simp [zSum]
  | cons c post ih =>
    intro pre g hg hl hm
    have h1 := ih (pre ++ [c]) (-g) (by omega) (by simp only [List.length_append, List.length_cons, List.length_nil] at hl ⊢; omega) (by simpa using hm)
    have h2 := term_bound hg (hx c (hm c (by simp))) (hF (pre ++ post) (by simp only [List.length_append, List.length_cons] at hl ⊢; omega) (fun c' h' => hm c' (by simp only [List.mem_append, List.mem_cons] at h' ⊢; rcases h' with h | h; exact Or.inl h; exact Or.inr (Or.inr h))))
    simp only [zSum, List.length_cons, Nat.add_mul, Nat.one_mul]
    exact Nat.le_trans (Int.natAbs_add_le _ _) (by omega)
theorem zSum_congr (x : Int → Int) (F G : List Int → Int) (P : Int → Prop) (N : Nat) (hF : ∀ L : List Int, L.length = N → (∀ c ∈ L, P c) → F L = G L) :
    ∀ (post pre : List Int) (g : Int), pre.length + post.length = N + 1 → (∀ c ∈ pre ++ post, P c) → zSum x F pre post g = zSum x G pre post g := by
  intro post
  induction post with
  | nil => intro pre g _ _; simp [zSum]
  | cons c post ih =>
    intro pre g hl hm
    have h1 := ih (pre ++ [c]) (-g) (by simp only [List.length_append, List.length_cons, List.length_nil] at hl ⊢; omega) (by simpa using hm)
    have h2 := hF (pre ++ post) (by simp only [List.length_append, List.length_cons] at hl ⊢; omega) (fun c' h' => hm c' (by simp only [List.mem_append, List.mem_cons] at h' ⊢; rcases h' with h | h; exact Or.inl h; exact Or.inr (Or.inr h)))
    simp only [zSum, h1, h2]
theorem dLoop_zSum (x : Int → Int) (F : List Int → Int) (P : Int → Prop) (N M : Nat) (hx : ∀ c, P c → (x c).natAbs ≤ 500) (hF : ∀ L : List Int, L.length = N → (∀ c ∈ L, P c) → (F L).natAbs ≤ M) :
    ∀ (post pre : List Int) (s g : Int), (g = 1 ∨ g = -1) → pre.length + post.length = N + 1 → (∀ c ∈ pre ++ post, P c) → s.natAbs + post.length * (500 * M) < 9223372036854775808 → dLoop x F pre post s g = s + zSum x F pre post g := by
  intro post
  induction post with
  | nil => intro pre s g _ _ _ _; simp [zSum, dLoop]
  | cons c post ih =>
    intro pre s g hg hl hm hs
    have h2 := term_bound hg (hx c (hm c (by simp))) (hF (pre ++ post) (by simp only [List.length_append, List.length_cons] at hl ⊢; omega) (fun c' h' => hm c' (by simp only [List.mem_append, List.mem_cons] at h' ⊢; rcases h' with h | h; exact Or.inl h; exact Or.inr (Or.inr h))))
    rw [List.length_cons, Nat.add_mul, Nat.one_mul] at hs
    have hx1 := hx c (hm c (by simp))
    have e1 : wrap64 (g * x c) = g * x c := wrap_id (by rcases hg with rfl | rfl <;> omega)
    have e2 : wrap64 (g * x c * F (pre ++ post)) = g * x c * F (pre ++ post) := wrap_id (by omega)
    have e3 : wrap64 (s + g * x c * F (pre ++ post)) = s + g * x c * F (pre ++ post) := wrap_id (Nat.lt_of_le_of_lt (Int.natAbs_add_le _ _) (by omega))
    have e4 : wrap64 (-g) = -g := wrap_id (by omega)
    have e5 : (if x c = 0 then s else wrap64 (s + wrap64 (wrap64 (g * x c) * F (pre ++ post)))) = s + g * x c * F (pre ++ post) := by
      split
      · rename_i h; rw [h]; simp
      · rw [e1, e2, e3]
    have h1 := ih (pre ++ [c]) (s + g * x c * F (pre ++ post)) (-g) (by omega) (by simp only [List.length_append, List.length_cons, List.length_nil] at hl ⊢; omega) (by simpa using hm) (by have := Int.natAbs_add_le s (g * x c * F (pre ++ post)); omega)
    simp only [dLoop, zSum, e4, e5, h1]
    omega
theorem mle {p q : Int} (h : p.natAbs ≤ 500) : p * q ≤ 500 * (q.natAbs : Int) := by
  have h1 : (p * q).natAbs ≤ 500 * q.natAbs := by rw [Int.natAbs_mul]; exact Nat.mul_le_mul_right _ h
  omega
theorem two_side {x : Int} (h : x.natAbs ≤ 500) : -500 ≤ x ∧ x ≤ 500 := by omega
theorem three_abs1 (d e f : Int) (d1 : -500 ≤ d) (d2 : d ≤ 500) (e1 : -500 ≤ e) (e2 : e ≤ 500) (f1 : -500 ≤ f) (f2 : f ≤ 500) : (e + d).natAbs + (d - f).natAbs + (f + e).natAbs ≤ 2000 := by omega
theorem three_abs (d e f : Int) (d1 : -500 ≤ d) (d2 : d ≤ 500) (e1 : -500 ≤ e) (e2 : e ≤ 500) (f1 : -500 ≤ f) (f2 : f ≤ 500) (s1 s2 s3 : Int) (h1 : s1 = 1 ∨ s1 = -1) (h2 : s2 = 1 ∨ s2 = -1) (h3 : s3 = 1 ∨ s3 = -1) :
    (s1 * e + s2 * d).natAbs + (s3 * d - s1 * f).natAbs + (s2 * f + s3 * e).natAbs ≤ 2000 := by
  have n : ∀ x y : Int, x = -y → x.natAbs = y.natAbs := fun x y h => by rw [h, Int.natAbs_neg]
  rcases h1 with rfl | rfl <;> rcases h2 with rfl | rfl <;> rcases h3 with rfl | rfl <;> simp only [Int.one_mul, Int.neg_mul]
  · exact three_abs1 d e f d1 d2 e1 e2 f1 f2
  · have := three_abs1 d (-e) (-f) d1 d2 (by omega) (by omega) (by omega) (by omega); omega
  · omega
  · omega
  · omega
  · omega
  · omega
  · omega
theorem two_rows {d e f g h i : Int} (hd : d.natAbs ≤ 500) (he : e.natAbs ≤ 500) (hf : f.natAbs ≤ 500) (hg : g.natAbs ≤ 500) (hh : h.natAbs ≤ 500) (hi : i.natAbs ≤ 500) :
    (e * i - f * h).natAbs + (d * i - f * g).natAbs + (d * h - e * g).natAbs ≤ 1000000 := by
  have key : ∀ s1 s2 s3 : Int, (s1 = 1 ∨ s1 = -1) → (s2 = 1 ∨ s2 = -1) → (s3 = 1 ∨ s3 = -1) → s1 * (e * i - f * h) + s2 * (d * i - f * g) + s3 * (d * h - e * g) ≤ 1000000 := by
    intro s1 s2 s3 h1 h2 h3
    have a1 := mle (q := s1 * e + s2 * d) hi
    have a2 := mle (q := s3 * d - s1 * f) hh
    have a3 := mle (q := s2 * f + s3 * e) (show (-g).natAbs ≤ 500 by rw [Int.natAbs_neg]; exact hg)
    have e1 : s1 * (e * i - f * h) + s2 * (d * i - f * g) + s3 * (d * h - e * g) = i * (s1 * e + s2 * d) + h * (s3 * d - s1 * f) + (-g) * (s2 * f + s3 * e) := by grind
    rw [e1]
    have t : (s1 * e + s2 * d).natAbs + (s3 * d - s1 * f).natAbs + (s2 * f + s3 * e).natAbs ≤ 2000 := by
      exact three_abs d e f (two_side hd).1 (two_side hd).2 (two_side he).1 (two_side he).2 (two_side hf).1 (two_side hf).2 s1 s2 s3 h1 h2 h3
    clear e1 hd he hf hg hh hi h1 h2 h3
    generalize i * (s1 * e + s2 * d) = A at *
    generalize h * (s3 * d - s1 * f) = B at *
    generalize (-g) * (s2 * f + s3 * e) = C at *
    generalize (s1 * e + s2 * d).natAbs = A' at *
    generalize (s3 * d - s1 * f).natAbs = B' at *
    generalize (s2 * f + s3 * e).natAbs = C' at *
    omega
  clear hd he hf hg hh hi
  have k1 := key 1 1 1 (by omega) (by omega) (by omega)
  have k2 := key 1 1 (-1) (by omega) (by omega) (by omega)
  have k3 := key 1 (-1) 1 (by omega) (by omega) (by omega)
  have k4 := key 1 (-1) (-1) (by omega) (by omega) (by omega)
  have k5 := key (-1) 1 1 (by omega) (by omega) (by omega)
  have k6 := key (-1) 1 (-1) (by omega) (by omega) (by omega)
  have k7 := key (-1) (-1) 1 (by omega) (by omega) (by omega)
  have k8 := key (-1) (-1) (-1) (by omega) (by omega) (by omega)
  omega
theorem det3_bound {a b c d e f g h i : Int} (ha : a.natAbs ≤ 500) (hb : b.natAbs ≤ 500) (hc : c.natAbs ≤ 500) (hd : d.natAbs ≤ 500) (he : e.natAbs ≤ 500) (hf : f.natAbs ≤ 500) (hg : g.natAbs ≤ 500) (hh : h.natAbs ≤ 500) (hi : i.natAbs ≤ 500) :
    (a * (e * i - f * h) - b * (d * i - f * g) + c * (d * h - e * g)).natAbs ≤ 500000000 := by
  have t := two_rows hd he hf hg hh hi
  have b1 : (a * (e * i - f * h)).natAbs ≤ 500 * (e * i - f * h).natAbs := by rw [Int.natAbs_mul]; exact Nat.mul_le_mul_right _ ha
  have b2 : (b * (d * i - f * g)).natAbs ≤ 500 * (d * i - f * g).natAbs := by rw [Int.natAbs_mul]; exact Nat.mul_le_mul_right _ hb
  have b3 : (c * (d * h - e * g)).natAbs ≤ 500 * (d * h - e * g).natAbs := by rw [Int.natAbs_mul]; exact Nat.mul_le_mul_right _ hc
  generalize a * (e * i - f * h) = A at *
  generalize b * (d * i - f * g) = B at *
  generalize c * (d * h - e * g) = C at *
  omega
def bd : Nat → Nat
  | 0 => 1
  | 1 => 500
  | 2 => 500000
  | 3 => 500000000
  | 4 => 1000000000000
  | 5 => 2500000000000000
  | _ => 7500000000000000000
theorem dF_eq (row : Int → Int → Int) (P Q : Int → Prop) (hrow : ∀ r c, P r → Q c → (row r c).natAbs ≤ 500) :
    ∀ (R C : List Int), R.length = C.length → R.length ≤ 6 → (∀ r ∈ R, P r) → (∀ c ∈ C, Q c) → dF row R C = dZ row R C ∧ (dZ row R C).natAbs ≤ bd R.length := by
  intro R
  induction R with
  | nil => intro C _ _ _ _; exact ⟨rfl, by simp [dZ, bd]⟩
  | cons r R ih =>
    intro C hl h6 hR hC
    rw [List.length_cons] at hl h6
    have hP := hR r List.mem_cons_self
    have ih1 : ∀ L : List Int, L.length = R.length → (∀ c ∈ L, Q c) → dF row R L = dZ row R L ∧ (dZ row R L).natAbs ≤ bd R.length := fun L h1 h2 => ih L h1.symm (by omega) (fun r' h' => hR r' (List.mem_cons_of_mem _ h')) h2
    have b1 := zSum_bound (row r) (dZ row R) Q R.length (bd R.length) (fun c hc => hrow r c hP hc) (fun L h1 h2 => (ih1 L h1 h2).2) C [] 1 (Or.inl rfl) (by simp; omega) (by simpa using hC)
    have hb : C.length * (500 * bd R.length) < 9223372036854775808 := by
      rw [← hl]
      have h : ∀ k : Fin 6, (k.val + 1) * (500 * bd k.val) < 9223372036854775808 := by decide
      exact h ⟨R.length, by omega⟩
    have e1 := dLoop_zSum (row r) (dF row R) Q R.length (bd R.length) (fun c hc => hrow r c hP hc) (fun L h1 h2 => by have := ih1 L h1 h2; rw [this.1]; exact this.2) C [] 0 1 (Or.inl rfl) (by simp; omega) (by simpa using hC) (by simpa using hb)
    have e2 := zSum_congr (row r) (dF row R) (dZ row R) Q R.length (fun L h1 h2 => (ih1 L h1 h2).1) C [] 1 (by simp; omega) (by simpa using hC)
    refine ⟨by simp only [dF, dZ]; rw [e1, e2]; omega, ?_⟩
    by_cases h3 : R.length = 2
    · match R, C, h3, hl with
      | [r2, r3], [c1, c2, c3], _, _ =>
        have q := fun x y hx hy => hrow x y (hR x hx) (hC y hy)
        have := det3_bound (q r c1 (by simp) (by simp)) (q r c2 (by simp) (by simp)) (q r c3 (by simp) (by simp)) (q r2 c1 (by simp) (by simp)) (q r2 c2 (by simp) (by simp)) (q r2 c3 (by simp) (by simp)) (q r3 c1 (by simp) (by simp)) (q r3 c2 (by simp) (by simp)) (q r3 c3 (by simp) (by simp))
        have e : dZ row [r, r2, r3] [c1, c2, c3] = row r c1 * (row r2 c2 * row r3 c3 - row r2 c3 * row r3 c2) - row r c2 * (row r2 c1 * row r3 c3 - row r2 c3 * row r3 c1) + row r c3 * (row r2 c1 * row r3 c2 - row r2 c2 * row r3 c1) := by
          simp only [dZ, zSum, List.nil_append, List.append_nil, List.cons_append]
          grind
        rw [e]
        exact this
    · simp only [dZ, List.length_cons]
      refine Nat.le_trans b1 ?_
      rw [← hl]
      have h : ∀ k : Fin 6, k.val ≠ 2 → (k.val + 1) * (500 * bd k.val) ≤ bd (k.val + 1) := by decide
      exact h ⟨R.length, by omega⟩ h3
def gl : List Int → Nat
  | [] => 0
  | x :: l => Nat.gcd x.natAbs (gl l)
theorem dvd_gl (d : Nat) : ∀ l : List Int, d ∣ gl l ↔ ∀ x ∈ l, d ∣ x.natAbs := by
  intro l
  induction l with
  | nil => simp [gl]
  | cons x l ih =>
    simp only [gl, Nat.dvd_gcd_iff, ih]
    simp
theorem gl_zero {l : List Int} : gl l = 0 ↔ ∀ x ∈ l, x = 0 := by
  rw [← Nat.zero_dvd, dvd_gl]
  simp [Nat.zero_dvd, Int.natAbs_eq_zero]
theorem gl_le {l : List Int} {M : Nat} (h : ∀ x ∈ l, x.natAbs ≤ M) : gl l ≤ M := by
  by_cases c : gl l = 0
  · omega
  · have : ¬ ∀ x ∈ l, x = 0 := fun h' => c (gl_zero.2 h')
    obtain ⟨x, hx⟩ := Classical.not_forall.1 this
    obtain ⟨hx, h0⟩ := Classical.not_imp.1 hx
    have := Nat.le_of_dvd (by omega) ((dvd_gl (gl l) l).1 (Nat.dvd_refl _) x hx)
    exact Nat.le_trans this (h x hx)
theorem gcd_lt {a b M : Nat} (ha : a < M) (hb : b < M) : Nat.gcd a b < M := by
  rcases Nat.eq_zero_or_pos a with rfl | h
  · rwa [Nat.gcd_zero_left]
  · exact Nat.lt_of_le_of_lt (Nat.gcd_le_left b h) ha
def nextOf (s : List Int) : Nat := if s.length = 0 then 0 else (rd s ((s.length : Int) - 1) + 1).toNat
def ext (n : Nat) (s : List Int) : List (List Int) := (List.range' (nextOf s) (n - nextOf s)).map fun i : Nat => s ++ [(i : Int)]
def setsL (n : Nat) : Nat → List (List Int)
  | 0 => [[]]
  | k + 1 => (setsL n k).flatMap (ext n)
theorem sets_facts (n k : Nat) (hn : n ≤ 6) (hk : k ≤ 6) : (setsL n k).length ≤ 20 ∧ (∀ s ∈ setsL n k, s.length = k ∧ (∀ c ∈ s, 0 ≤ c ∧ c < (n : Int)) ∧ ∃ S, S < 2 ^ n ∧ colsR S 0 n = s) ∧ ∀ S, S < 2 ^ n → (colsR S 0 n).length = k → colsR S 0 n ∈ setsL n k := by
  have h : ∀ n k : Fin 7, (setsL n.val k.val).length ≤ 20 ∧ (∀ s ∈ setsL n.val k.val, s.length = k.val ∧ (∀ c ∈ s, 0 ≤ c ∧ c < (n.val : Int)) ∧ (List.range (2 ^ n.val)).any fun S => decide (colsR S 0 n.val = s)) ∧ (List.range (2 ^ n.val)).all fun S => decide ((colsR S 0 n.val).length = k.val → colsR S 0 n.val ∈ setsL n.val k.val) := by decide +kernel
  obtain ⟨h1, h2, h3⟩ := h ⟨n, by omega⟩ ⟨k, by omega⟩
  refine ⟨h1, fun s hs => ?_, fun S hS hl => ?_⟩
  · obtain ⟨a, b, c⟩ := h2 s hs
    rw [List.any_eq_true] at c
    obtain ⟨S, hS, e⟩ := c
    exact ⟨a, b, S, List.mem_range.1 hS, of_decide_eq_true e⟩
  · rw [List.all_eq_true] at h3
    exact of_decide_eq_true (h3 S (List.mem_range.2 hS)) hl
theorem sets_less (n k : Nat) (hn : n ≤ 6) (hk : k < 6) : ∀ s ∈ setsL n (k + 1), s.drop 1 ∈ setsL n k ∧ ∀ i, i < k + 1 → s.take i ++ s.drop (i + 1) ∈ setsL n k := by
  have h : ∀ n : Fin 7, ∀ k : Fin 6, ∀ s ∈ setsL n.val (k.val + 1), s.drop 1 ∈ setsL n.val k.val ∧ ∀ i, i < k.val + 1 → s.take i ++ s.drop (i + 1) ∈ setsL n.val k.val := by decide +kernel
  exact h ⟨n, by omega⟩ ⟨k, hk⟩
theorem cols6 (n S : Nat) (hn : n ≤ 6) (hS : S < 2 ^ n) : colsR S 0 6 = colsR S 0 n := by
  have h : ∀ n : Fin 7, ∀ S, S < 2 ^ n.val → colsR S 0 6 = colsR S 0 n.val := by decide +kernel
  exact h ⟨n, by omega⟩ S hS
def gFold {α : Type} (f : α → Nat) : Nat → List α → Nat
  | g, [] => g
  | g, a :: l => gFold f (Nat.gcd g (f a)) l
def gFold2 {α β : Type} (f : α → β → Nat) (S : List β) : Nat → List α → Nat
  | g, [] => g
  | g, a :: l => gFold2 f S (gFold (f a) g S) l
theorem dvd_gFold {α : Type} (f : α → Nat) (d : Nat) : ∀ (l : List α) (g : Nat), d ∣ gFold f g l ↔ d ∣ g ∧ ∀ a ∈ l, d ∣ f a := by
  intro l
  induction l with
  | nil => intro g; simp [gFold]
  | cons a l ih => intro g; simp only [gFold, ih, Nat.dvd_gcd_iff, List.mem_cons, forall_eq_or_imp, and_assoc]
theorem dvd_gFold2 {α β : Type} (f : α → β → Nat) (S : List β) (d : Nat) : ∀ (l : List α) (g : Nat), d ∣ gFold2 f S g l ↔ d ∣ g ∧ ∀ a ∈ l, ∀ b ∈ S, d ∣ f a b := by
  intro l
  induction l with
  | nil => intro g; simp [gFold2]
  | cons a l ih => intro g; simp only [gFold2, ih, dvd_gFold, List.mem_cons, forall_eq_or_imp, and_assoc]
theorem gFold_lt {α : Type} (f : α → Nat) (M : Nat) : ∀ (l : List α) (g : Nat), g < M → (∀ a ∈ l, f a < M) → gFold f g l < M := by
  intro l
  induction l with
  | nil => intro g hg _; exact hg
  | cons a l ih => intro g hg h; exact ih _ (gcd_lt hg (h a (by simp))) (fun b hb => h b (by simp [hb]))
def minors (row : Int → Int → Int) (n k : Nat) : List Int := (setsL n k).flatMap fun R => (setsL n k).map fun C => dF row R C
def gk (row : Int → Int → Int) (n k : Nat) : Nat := gl (minors row n k)
theorem mem_minors {row : Int → Int → Int} {n k : Nat} {x : Int} : x ∈ minors row n k ↔ ∃ R ∈ setsL n k, ∃ C ∈ setsL n k, dF row R C = x := by
  simp [minors, List.mem_flatMap, List.mem_map]
theorem dvd_gk (row : Int → Int → Int) (n k d : Nat) : d ∣ gk row n k ↔ ∀ R ∈ setsL n k, ∀ C ∈ setsL n k, d ∣ (dF row R C).natAbs := by
  unfold gk
  rw [dvd_gl]
  constructor
  · intro h R hR C hC
    exact h _ (mem_minors.2 ⟨R, hR, C, hC, rfl⟩)
  · intro h x hx
    obtain ⟨R, hR, C, hC, rfl⟩ := mem_minors.1 hx
    exact h R hR C hC
theorem dvd_masks (row : Int → Int → Int) (n k d : Nat) (hn : n ≤ 6) (hk : k ≤ 6) : d ∣ gk row n k ↔ ∀ a b, a < 2 ^ n → b < 2 ^ n → (colsR a 0 n).length = k → (colsR b 0 n).length = k → d ∣ (dF row (colsR a 0 n) (colsR b 0 n)).natAbs := by
  rw [dvd_gk]
  obtain ⟨_, f1, f2⟩ := sets_facts n k hn hk
  constructor
  · intro h a b ha hb la lb
    exact h _ (f2 a ha la) _ (f2 b hb lb)
  · intro h R hR C hC
    obtain ⟨l1, _, a, ha, rfl⟩ := f1 R hR
    obtain ⟨l2, _, b, hb, rfl⟩ := f1 C hC
    exact h a b ha hb l1 l2
theorem gk_fold (row : Int → Int → Int) (n k : Nat) : gFold2 (fun R C => (dF row R C).natAbs) (setsL n k) 0 (setsL n k) = gk row n k := by
  refine Nat.dvd_antisymm ((dvd_gk _ _ _ _).2 fun R hR C hC => ?_) ((dvd_gFold2 _ _ _ _ _).2 ⟨Nat.dvd_zero _, fun R hR C hC => ?_⟩)
  · exact ((dvd_gFold2 _ _ _ _ _).1 (Nat.dvd_refl _)).2 R hR C hC
  · exact (dvd_gk _ _ _ _).1 (Nat.dvd_refl _) R hR C hC
theorem gk_zero {row : Int → Int → Int} {n k : Nat} : gk row n k = 0 ↔ ∀ R ∈ setsL n k, ∀ C ∈ setsL n k, dF row R C = 0 := by
  rw [← Nat.zero_dvd, dvd_gk]
  simp [Nat.zero_dvd, Int.natAbs_eq_zero]
def ifL (row : Int → Int → Int) (n : Nat) : List Int := (List.range n).map fun k => if gk row n (k + 1) = 0 then 0 else ((gk row n (k + 1) / gk row n k : Nat) : Int)
theorem dLoop_zero (x : Int → Int) (F : List Int → Int) (P : List Int → Prop) (hF : ∀ L, P L → F L = 0) : ∀ (post pre : List Int) (g : Int), (∀ p c q, pre ++ post = p ++ c :: q → P (p ++ q)) → dLoop x F pre post 0 g = 0 := by
  intro post
  induction post with
  | nil => intro pre g _; simp [dLoop]
  | cons c post ih =>
    intro pre g hp
    have h1 := ih (pre ++ [c]) (wrap64 (-g)) (by simpa using hp)
    have h2 := hF _ (hp pre c post rfl)
    simp only [dLoop, h2, Int.mul_zero]
    rw [show (if x c = 0 then (0 : Int) else wrap64 (0 + wrap64 0)) = 0 by split <;> first | rfl | (unfold wrap64; omega)]
    exact h1
theorem gk_next {row : Int → Int → Int} {n k : Nat} (hn : n ≤ 6) (hk : k < 6) (h : gk row n k = 0) : gk row n (k + 1) = 0 := by
  rw [gk_zero] at h ⊢
  intro R hR C hC
  obtain ⟨_, f1, _⟩ := sets_facts n (k + 1) hn (by omega)
  have lR := (f1 R hR).1
  have lC := (f1 C hC).1
  have hR1 := (sets_less n k hn hk R hR).1
  have hC1 := (sets_less n k hn hk C hC).2
  cases R with
  | nil => simp at lR
  | cons r R =>
    simp only [dF]
    refine dLoop_zero (row r) (dF row R) (fun L => L ∈ setsL n k) (fun L hL => h R (by simpa using hR1) L hL) C [] 1 fun p c q e => ?_
    have e' : C = p ++ c :: q := by simpa using e
    have := hC1 p.length (by rw [e', List.length_append, List.length_cons] at lC; omega)
    rw [e'] at this
    rw [List.take_left' rfl, ← List.drop_drop, List.drop_left' rfl] at this
    simpa using this
theorem ifL_get (row : Int → Int → Int) (n k : Nat) (hk : k < n) : (ifL row n).take (k + 1) = (ifL row n).take k ++ [if gk row n (k + 1) = 0 then (0 : Int) else ((gk row n (k + 1) / gk row n k : Nat) : Int)] := by
  unfold ifL
  rw [← List.map_take, ← List.map_take, List.take_range, List.take_range, Nat.min_eq_left (by omega), Nat.min_eq_left (by omega), List.range_succ, List.map_append]
  rfl
theorem ifL_len (row : Int → Int → Int) (n : Nat) : (ifL row n).length = n := by simp [ifL]
end Go.Proofs.Ytplcclifmajcfaa.Minor
end
section
set_option autoImplicit false
set_option linter.unusedVariables false
namespace Go.Proofs.Ytplcclifmajcfaa.Opens
open Go.RowKit Go.ChangeShapes Go.WideShapes Go.Deep
open Go.Proofs.YtplcclifmajcfaaW.PrintWords Go.Proofs.YtplcclifmajcfaaW.PrintLast Go.Proofs.YtplcclifmajcfaaW.PrintMore
def Opens {α : Type} (P : Program) (t : TypeId) (d : Kd α) (wf : α → Prop) : Prop :=
  ∀ {H : Type} {enc : TypeId × Value → H} {w : World} {base : Nat} {spare : Nat → Bool} {held : Bool} {fuel : Nat} {cs : List Value} {x : DataW H × List MemPlace},
    DataW.trod enc P w base spare held fuel t cs = some x → ∃ a, d.K w a cs ∧ wf a
theorem opens_int {P : Program} {t : TypeId} {k : IntKind} (ht : P.underlying t = some (.int k)) : Opens P t (Kd.int k) (fun n => (Lit.int k n).wf = true) := by
  intro H enc w base spare held fuel cs x h
  obtain ⟨n, rfl, _, hw⟩ := DataW.trod_int ht h
  exact ⟨n, rfl, hw⟩
theorem pick {α : Type} {p : Nat → α → Prop} : ∀ n : Nat, (∀ i, i < n → ∃ a, p i a) → ∃ l : List α, l.length = n ∧ ∀ (i : Nat) (a : α), l[i]? = some a → p i a := by
  intro n
  induction n with
  | zero => intro _; exact ⟨[], rfl, fun i a h => by simp at h⟩
  | succ n ih =>
    intro h
    obtain ⟨l, hl, hp⟩ := ih (fun i hi => h i (by omega))
    obtain ⟨a, ha⟩ := h n (by omega)
    refine ⟨l ++ [a], by simp [hl], fun i b hb => ?_⟩
    by_cases e : i < n
    · rw [List.getElem?_append_left (by omega)] at hb
      exact hp i b hb
    · have e' : i = n := by
        have := (List.getElem?_eq_some_iff.1 hb).1
        simp [hl] at this
        omega
      subst e'
      rw [List.getElem?_append_right (by omega), hl] at hb
      simp at hb
      subst hb
      exact ha
theorem opens_slice {α : Type} {P : Program} {t e : TypeId} {d : Kd α} {wf : α → Prop} (ht : P.underlying t = some (.slice e)) (hs : P.cellsOf e = d.sz) (he : Opens P e d wf) :
    Opens P t (Kd.slice e d) (fun l => l.length ≤ maxLen ∧ ∀ x ∈ l, wf x) := by
  intro H enc w base spare held fuel cs x h
  rcases open_slice ht h with ⟨rfl, _⟩ | ⟨a, len, cap, m, n, D, Pl, rfl, hb, hl, hm, hmm, rfl, hx⟩
  · exact ⟨[], ⟨none, 0, rfl, Nat.le_refl _, rfl, Nat.zero_le _, fun h => absurd h (Nat.lt_irrefl 0)⟩, Nat.zero_le _, fun x hx => by cases hx⟩
  · have hlm : len ≤ m := by rw [hmm]; split <;> omega
    obtain ⟨l, hlen, hp⟩ := pick (p := fun i y => (∃ c : List Value, c.length = d.sz ∧ d.K w y c ∧ ∀ (j : Nat) (u : Value), c[j]? = some u → w.cell? (a.add (i * d.sz + j)) = some u) ∧ wf y) len (fun i hi => by
      obtain ⟨cs', h1, h2⟩ := hx i (by omega)
      obtain ⟨_, hlen, hcell⟩ := World.cells?_some h1
      obtain ⟨y, ky, wy⟩ := he h2
      refine ⟨y, ⟨cs', by rw [hlen, hs], ky, fun j u hu => ?_⟩, wy⟩
      have hj : j < P.cellsOf e := by
        have := (List.getElem?_eq_some_iff.1 hu).1
        omega
      have := hcell j hj
      rw [Deep.add_add, hs] at this
      rw [this, hu])
    subst hlen
    have hM : l.length ≤ maxLen := Nat.le_trans hl hm
    refine ⟨l, ⟨some a, cap, rfl, hl, rfl, by unfold maxLen at hM; exact hM, fun _ => ⟨a, rfl, fun j p hj => ?_⟩⟩, hM, fun x hx => ?_⟩
    · obtain ⟨⟨c, h1, h2, h3⟩, _⟩ := hp j p hj
      exact ⟨c, h1, h2, h3⟩
    · obtain ⟨i, hi⟩ := List.mem_iff_getElem?.1 hx
      exact (hp i x hi).2
theorem arg_slice {α : Type} {P : Program} {t e : TypeId} {d : Kd α} {wf : List α → Prop} {H : Type} {enc : TypeId × Value → H} {w : World} {base : Nat} {spare : Nat → Bool} {held : Bool} {r : Reach} {b0 : Nat} {v : Value} {x : DataW H} {ps : List MemPlace}
    (ht : P.underlying t = some (.slice e)) (ho : Opens P t (Kd.slice e d) wf) (hval : Value.okWide P w r b0 t v) (h : DataW.Trod enc P w base spare held t v x ps) :
    ∃ (A : Option Addr) (c : Nat) (l : List α), v = .slice A l.length c ∧ l.length ≤ c ∧ Kd.C d w A l.length l ∧ wf l := by
  obtain ⟨A, n, c, rfl⟩ := okWide_slice ht hval
  obtain ⟨fuel, hf⟩ := h
  obtain ⟨l, ⟨A', c', hcs, hl, hC⟩, hw⟩ := ho hf
  simp [Value.cells] at hcs
  obtain ⟨rfl, rfl, rfl⟩ := hcs
  exact ⟨A, c, l, rfl, hl, hC, hw⟩
end Go.Proofs.Ytplcclifmajcfaa.Opens
end
