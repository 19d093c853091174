/- Functions of the program as plain Lean functions and that the machine's calls answer as they do, the words of the print that these use, lemmas and plain proofs of laws. Put together by a program of this work that leaves out what nothing uses; Lean checks it. -/
import Derived.Test.YtplcclifmajcfaaGadccbf711f
import Derived.Test.YtplcclifmajcfaaG93f7dcd6b6
import Derived.Test.YtplcclifmajcfaaG0fda13519b
import Derived.Test.YtplcclifmajcfaaG804bd74855
import Derived.Test.YtplcclifmajcfaaGdd3f1ca6c1
import Derived.Test.YtplcclifmajcfaaG55ba419656
section
set_option linter.unusedVariables false
set_option linter.unusedSimpArgs false
namespace Go.Proofs.Ytplcclifmajcfaa.Pure
open Go.RowKit Go.Proofs.Ytplcclifmajcfaa.P Go.Proofs.YtplcclifmajcfaaW.PrintWords Go.Proofs.YtplcclifmajcfaaW.PrintLast Go.Proofs.YtplcclifmajcfaaW.PrintMore Go.Proofs.Ytplcclifmajcfaa.Base Go.Proofs.Ytplcclifmajcfaa.Bits Go.Proofs.Ytplcclifmajcfaa.Loops
def treeT (av : List Nat) : List S57 := (List.range av.length).map fun i : Nat => ⟨(av.getD i 0 : Int), ((i + 1 : Nat) : Int)⟩
def treeOk (av : List Nat) : Prop := ∀ i, i < av.length → av.getD i 0 ≤ i
def repE (n : Nat) (T : List S57) (a b : Nat) : List S57 := List.replicate (multI n T a b).toNat ⟨(a : Int), (b : Int)⟩
def rowE (n : Nat) (T : List S57) (a b d : Nat) : List S57 := (List.range' b d).flatMap fun b => repE n T a b
def allE (n : Nat) (T : List S57) (a d : Nat) : List S57 := (List.range' a d).flatMap fun a => rowE n T a (a + 1) (n - (a + 1))
theorem treeT_snoc (av : List Nat) (a : Nat) : treeT (av ++ [a]) = treeT av ++ [⟨(a : Int), ((av.length + 1 : Nat) : Int)⟩] := by
  unfold treeT
  rw [List.length_append, List.length_singleton, List.range_succ, List.map_append]
  congr 1
  · refine List.map_congr_left fun i hi => ?_
    have := List.mem_range.1 hi
    rw [List.getD_eq_getElem?_getD, List.getD_eq_getElem?_getD, List.getElem?_append_left this]
  · simp
def goodG (n : Nat) (es : List S57) : Bool := edgesB n es && ((List.range es.length).all fun i => decide (i + 1 < es.length → ¬ ltE (es.getD (i + 1) z57) (es.getD i z57))) && ((List.range n).all fun v => decide (v = 0) || es.any fun e => decide (e.f1 = (v : Int)) && decide (0 ≤ e.f0) && decide (e.f0 < e.f1))
theorem goodG_graph {n : Nat} {es : List S57} (h : goodG n es = true) : GraphP n es := by
  simp only [goodG, Bool.and_eq_true, List.all_eq_true, List.mem_range, decide_eq_true_eq, Bool.or_eq_true, List.any_eq_true] at h
  obtain ⟨⟨h1, h2⟩, h3⟩ := h
  refine ⟨h1, fun i hi => h2 i (by omega) hi, fun P h0 hP v hv0 hv => ?_⟩
  have main : ∀ (u : Nat), u < n → P u := by
    intro u
    induction u using Nat.strongRecOn with
    | _ u ih =>
      intro hu
      rcases h3 u hu with rfl | ⟨e, he, ⟨e1, e2⟩, e3⟩
      · exact h0
      · rw [← e1]
        refine (hP e he).1 ?_
        have := ih e.f0.toNat (by omega) (by omega)
        rwa [Int.toNat_of_nonneg e2] at this
  have := main v.toNat (by omega)
  rwa [Int.toNat_of_nonneg hv0] at this
def goodT (av : List Nat) : Bool := goodG (av.length + 1) (allE (av.length + 1) (treeT av) 0 (av.length + 1)) && decide ((allE (av.length + 1) (treeT av) 0 (av.length + 1)).length ≤ 4)
theorem good_all (av : List Nat) (h : treeOk av) (h1 : 1 ≤ av.length) (h4 : av.length ≤ 4) : goodT av = true := by
  have g1 : ∀ a : Fin 1, goodT [a.val] = true := by decide +kernel
  have g2 : ∀ a : Fin 1, ∀ b : Fin 2, goodT [a.val, b.val] = true := by decide +kernel
  have g3 : ∀ a : Fin 1, ∀ b : Fin 2, ∀ c : Fin 3, goodT [a.val, b.val, c.val] = true := by decide +kernel
  have g4 : ∀ a : Fin 1, ∀ b : Fin 2, ∀ c : Fin 3, ∀ d : Fin 4, goodT [a.val, b.val, c.val, d.val] = true := by decide +kernel
  match av, h1, h4 with
  | [a], _, _ => exact g1 ⟨a, by have := h 0 (by simp); simp at this; omega⟩
  | [a, b], _, _ => exact g2 ⟨a, by have := h 0 (by simp); simp at this; omega⟩ ⟨b, by have := h 1 (by simp); simp at this; omega⟩
  | [a, b, c], _, _ => exact g3 ⟨a, by have := h 0 (by simp); simp at this; omega⟩ ⟨b, by have := h 1 (by simp); simp at this; omega⟩ ⟨c, by have := h 2 (by simp); simp at this; omega⟩
  | [a, b, c, d], _, _ => exact g4 ⟨a, by have := h 0 (by simp); simp at this; omega⟩ ⟨b, by have := h 1 (by simp); simp at this; omega⟩ ⟨c, by have := h 2 (by simp); simp at this; omega⟩ ⟨d, by have := h 3 (by simp); simp at this; omega⟩
  | _ :: _ :: _ :: _ :: _ :: _, _, h4 => exact absurd h4 (by simp)
theorem good_graph (av : List Nat) (h : treeOk av) (h1 : 1 ≤ av.length) (h4 : av.length ≤ 4) : GraphP ((av.length + 1 : Nat) : Int) (allE (av.length + 1) (treeT av) 0 (av.length + 1)) ∧ (allE (av.length + 1) (treeT av) 0 (av.length + 1)).length ≤ 4 := by
  have g := good_all av h h1 h4
  simp only [goodT, Bool.and_eq_true, decide_eq_true_eq] at g
  exact ⟨goodG_graph g.1, g.2⟩
structure DrawnG (n : Int) (es : List S57) : Prop where
  g : GraphP n es
  lo : 2 ≤ n
  hi : n ≤ 5
  len : es.length ≤ 8
theorem drawMore (s : List Int) (hs : s.length < 4611686018427387904) (n : Nat) (h2 : 2 ≤ n) (h5 : n ≤ 5) : ∀ (c : Nat) (i h : Int) (es : List S57), 0 ≤ i → GraphP n es → es.length + c ≤ 8 →
    ∃ es' i' h', Ev (fun k => spec_l02Draw.l4 k (n : Int) (c : Int) s i h (n : Int) es) ((n : Int), es', i', h') ∧ DrawnG n es' ∧ 0 ≤ i' := by
  intro c
  induction c with
  | zero =>
    intro i h es hi hg hl
    refine ⟨es, i, h, ev_succ ?_, ⟨hg, by omega, by omega, by omega⟩, hi⟩
    simp only [spec_l02Draw.l4]
    exact ev_ifn (by omega) (Ev.now _)
  | succ c ih =>
    intro i h es hi hg hl
    obtain ⟨x, i1, h1, e1, x0, x1, hi1⟩ := below_ex s hs i h hi n (by omega) (by omega)
    obtain ⟨y, i2, h2', e2, y0, y1, hi2⟩ := below_ex s hs i1 h1 hi1 (wrap64 ((n : Int) - 1)) (by unfold wrap64; omega) (by unfold wrap64; omega)
    have ew : wrap64 (((c + 1 : Nat) : Int) - 1) = (c : Int) := by unfold wrap64; omega
    rcases specAdd_ev n es x (Int.tmod (wrap64 ((wrap64 (x + 1)) + y)) n) (by omega) with ⟨_, _, _, _, h12, he, hg'⟩ | ⟨_, he⟩
    · obtain ⟨es', i', h', r1, r2, r3⟩ := ih i2 h2' _ hi2 hg' (by rw [insE_len]; omega)
      refine ⟨es', i', h', ev_succ ?_, r2, r3⟩
      simp only [spec_l02Draw.l4, e1, e2, Option.bind_some, ew]
      refine ev_ift (by omega) (ev_ifn (by omega) ?_)
      refine Ev.bind he ?_
      exact ev_ift rfl r1
    · obtain ⟨es', i', h', r1, r2, r3⟩ := ih i2 h2' es hi2 hg (by omega)
      refine ⟨es', i', h', ev_succ ?_, r2, r3⟩
      simp only [spec_l02Draw.l4, e1, e2, Option.bind_some, ew]
      refine ev_ift (by omega) (ev_ifn (by omega) ?_)
      refine Ev.bind he ?_
      exact ev_iff r1
section
variable (n : Nat) (s : List Int) (i h : Int) (T : List S57) (hT : T.length ≤ 4)
theorem draw3 (a b : Nat) (acc : List S57) (r : Int × List S57 × Int × Int) : ∀ (c : Nat) (acc : List S57), acc.length + c ≤ 1000 → Ev (fun k => spec_l02Draw.l2 k (n : Int) (a : Int) (wrap64 ((b : Int) + 1)) s i h (n : Int) T (n : Int) (acc ++ List.replicate c ⟨(a : Int), (b : Int)⟩)) r →
    Ev (fun k => spec_l02Draw.l3 k (n : Int) (a : Int) (b : Int) (c : Int) s i h (n : Int) T (n : Int) acc) r := by
  intro c
  induction c with
  | zero =>
    intro acc ha hr
    rw [List.replicate_zero, List.append_nil] at hr
    refine ev_succ ?_
    simp only [spec_l02Draw.l3]
    exact ev_ifn (by omega) hr
  | succ c ih =>
    intro acc ha hr
    have h1 := ih (acc ++ [⟨(a : Int), (b : Int)⟩]) (by simp; omega) (by rw [List.replicate_succ] at hr; simpa using hr)
    have ew : wrap64 (((c + 1 : Nat) : Int) - 1) = (c : Int) := by unfold wrap64; omega
    refine ev_succ ?_
    simp only [spec_l02Draw.l3, ew]
    exact ev_ift (by omega) (ev_ift (by omega) h1)
end
theorem multI_le (n : Int) (T : List S57) (a b : Int) : 0 ≤ multI n T a b ∧ multI n T a b ≤ T.length := by
  unfold multI
  split
  · unfold multN
    have := List.countP_le_length (p := fun e : S57 => decide (e.f0 = mn a b) && decide (e.f1 = mx a b)) (l := T)
    omega
  · omega
theorem rowE_succ (n : Nat) (T : List S57) (a b d : Nat) : rowE n T a b (d + 1) = repE n T a b ++ rowE n T a (b + 1) d := by
  unfold rowE
  rw [List.range'_succ, List.flatMap_cons]
theorem allE_succ (n : Nat) (T : List S57) (a d : Nat) : allE n T a (d + 1) = rowE n T a (a + 1) (n - (a + 1)) ++ allE n T (a + 1) d := by
  unfold allE
  rw [List.range'_succ, List.flatMap_cons]
theorem repE_len (n : Nat) (T : List S57) (hT : T.length ≤ 4) (a b : Nat) : (repE n T a b).length ≤ 4 := by
  have := multI_le n T a b
  unfold repE
  rw [List.length_replicate]
  omega
theorem rowE_len (n : Nat) (T : List S57) (hT : T.length ≤ 4) (a : Nat) : ∀ d b, (rowE n T a b d).length ≤ 4 * d := by
  intro d
  induction d with
  | zero => intro b; simp [rowE]
  | succ d ih =>
    intro b
    rw [rowE_succ, List.length_append]
    have := ih (b + 1)
    have := repE_len n T hT a b
    omega
theorem draw2 (n : Nat) (s : List Int) (i h : Int) (T : List S57) (hT : T.length ≤ 4) (hn : n ≤ 5) (a : Nat) (r : Int × List S57 × Int × Int) : ∀ (d b : Nat) (acc : List S57), b + d = n → acc.length + 4 * d ≤ 900 →
    Ev (fun k => spec_l02Draw.l1 k (n : Int) (wrap64 ((a : Int) + 1)) s i h (n : Int) T (n : Int) (acc ++ rowE n T a b d)) r → Ev (fun k => spec_l02Draw.l2 k (n : Int) (a : Int) (b : Int) s i h (n : Int) T (n : Int) acc) r := by
  intro d
  induction d with
  | zero =>
    intro b acc hb hl hr
    have e : rowE n T a b 0 = [] := rfl
    rw [e, List.append_nil] at hr
    refine ev_succ ?_
    simp only [spec_l02Draw.l2]
    exact ev_ifn (by omega) hr
  | succ d ih =>
    intro b acc hb hl hr
    have hm := multI_le n T a b
    have hc : ((multI n T a b).toNat : Int) = multI n T a b := Int.toNat_of_nonneg hm.1
    have me := spec_mult_ev n T (by omega) a b
    rw [← hc] at me
    rw [rowE_succ, ← List.append_assoc] at hr
    have h1 := ih (b + 1) (acc ++ repE n T a b) (by omega) (by have := repE_len n T hT a b; rw [List.length_append]; omega) hr
    rw [← wrap_succ (show b < 4611686018427387904 by omega)] at h1
    have h3 := draw3 n s i h T a b [] r (multI n T a b).toNat acc (by omega) h1
    refine ev_succ ?_
    simp only [spec_l02Draw.l2]
    exact ev_ift (by omega) (Ev.bind me h3)
theorem draw1 (n : Nat) (s : List Int) (hs : s.length < 4611686018427387904) (i h : Int) (hi : 0 ≤ i) (T : List S57) (hT : T.length ≤ 4) (h2 : 2 ≤ n) (hn : n ≤ 5) : ∀ (d a : Nat) (acc : List S57), a + d = n → acc.length + 20 * d ≤ 500 →
    GraphP n (acc ++ allE n T a d) → (acc ++ allE n T a d).length ≤ 4 → ∃ es' i' h', Ev (fun k => spec_l02Draw.l1 k (n : Int) (a : Int) s i h (n : Int) T (n : Int) acc) ((n : Int), es', i', h') ∧ DrawnG n es' ∧ 0 ≤ i' := by
  intro d
  induction d with
  | zero =>
    intro a acc ha hl hg h4
    have e : allE n T a 0 = [] := rfl
    rw [e, List.append_nil] at hg h4
    obtain ⟨x, i1, h1, e1, x0, x1, hi1⟩ := below_ex s hs i h hi 5 (by omega) (by omega)
    obtain ⟨es', i', h', r1, r2, r3⟩ := drawMore s hs n h2 hn x.toNat i1 h1 acc hi1 hg (by omega)
    rw [Int.toNat_of_nonneg x0] at r1
    refine ⟨es', i', h', ev_succ ?_, r2, r3⟩
    simp only [spec_l02Draw.l1, e1, Option.bind_some]
    exact ev_ifn (by omega) r1
  | succ d ih =>
    intro a acc ha hl hg h4
    rw [allE_succ, ← List.append_assoc] at hg h4
    have hrl := rowE_len n T hT a (n - (a + 1)) (a + 1)
    obtain ⟨es', i', h', r1, r2, r3⟩ := ih (a + 1) (acc ++ rowE n T a (a + 1) (n - (a + 1))) (by omega) (by rw [List.length_append]; omega) hg h4
    refine ⟨es', i', h', ev_succ ?_, r2, r3⟩
    rw [← wrap_succ (show a < 4611686018427387904 by omega)] at r1
    have hd := draw2 n s i h T hT hn a _ (n - (a + 1)) (a + 1) acc (by omega) (by omega) r1
    simp only [spec_l02Draw.l1, wrap_succ (show a < 4611686018427387904 by omega)]
    exact ev_ift (by omega) hd
theorem treeT_len (av : List Nat) : (treeT av).length = av.length := by simp [treeT]
theorem draw0 (n : Nat) (s : List Int) (hs : s.length < 4611686018427387904) (h2 : 2 ≤ n) (hn : n ≤ 5) : ∀ (d : Nat) (av : List Nat) (i h : Int), 0 ≤ i → av.length + 1 + d = n → treeOk av →
    ∃ es' i' h', Ev (fun k => spec_l02Draw.l0 k (n : Int) ((av.length + 1 : Nat) : Int) s i h ((av.length + 1 : Nat) : Int) (treeT av)) ((n : Int), es', i', h') ∧ DrawnG n es' ∧ 0 ≤ i' := by
  intro d
  induction d with
  | zero =>
    intro av i h hi ha ht
    obtain rfl : av.length + 1 = n := by omega
    obtain ⟨g1, g2⟩ := good_graph av ht (by omega) (by omega)
    obtain ⟨es', i', h', r1, r2, r3⟩ := draw1 (av.length + 1) s hs i h hi (treeT av) (by rw [treeT_len]; omega) h2 hn (av.length + 1) 0 [] (by omega) (by simp; omega) g1 g2
    refine ⟨es', i', h', ev_succ ?_, r2, r3⟩
    simp only [spec_l02Draw.l0]
    exact ev_ifn (by omega) r1
  | succ d ih =>
    intro av i h hi ha ht
    obtain ⟨x, i1, h1, e1, x0, x1, hi1⟩ := below_ex s hs i h hi ((av.length + 1 : Nat) : Int) (by omega) (by omega)
    obtain ⟨es', i', h', r1, r2, r3⟩ := ih (av ++ [x.toNat]) i1 h1 hi1 (by simp; omega) (fun j hj => by
      rw [List.length_append, List.length_singleton] at hj
      by_cases c : j < av.length
      · rw [List.getD_eq_getElem?_getD, List.getElem?_append_left c, ← List.getD_eq_getElem?_getD]
        exact ht j c
      · obtain rfl : j = av.length := by omega
        simp
        omega)
    refine ⟨es', i', h', ev_succ ?_, r2, r3⟩
    rw [treeT_snoc, Int.toNat_of_nonneg x0, List.length_append, List.length_singleton, ← wrap_succ (show av.length + 1 < 4611686018427387904 by omega)] at r1
    simp only [spec_l02Draw.l0, e1, Option.bind_some]
    have hl := treeT_len av
    exact ev_ift (by omega) (ev_ift (by omega) r1)
theorem makeGraph_ex (code : List Int) (hc : code.length < 4611686018427387904) : ∃ n es, Ev (fun k => spec_MakeGraph.f k code) (n, es) ∧ DrawnG n es := by
  obtain ⟨h, hn⟩ := new_ex code hc
  obtain ⟨t, i1, h1, e1, t0, t1, hi1⟩ := below_ex code hc 0 h (by omega) (wrap64 (5 - 1)) (by unfold wrap64; omega) (by unfold wrap64; omega)
  have ew : wrap64 (5 - 1) = 4 := by unfold wrap64; omega
  rw [ew] at e1 t1
  obtain ⟨es', i', h', r1, r2, r3⟩ := draw0 (2 + t.toNat) code hc (by omega) (by omega) (1 + t.toNat) [] i1 h1 hi1 (by simp; omega) (fun j hj => by simp at hj)
  have et : wrap64 (2 + t) = ((2 + t.toNat : Nat) : Int) := by unfold wrap64; omega
  refine ⟨_, es', ?_, r2⟩
  simp only [spec_MakeGraph.f, spec_l02Graph.f, spec_l02Draw.f]
  refine Ev.bind hn ?_
  have d1 : Ev (fun k => (spec_l01Below.f code 0 h (wrap64 (5 - 1))).bind fun bt => spec_l02Draw.l0 k (wrap64 (2 + bt.1)) 1 code bt.2.1 bt.2.2 1 []) (((2 + t.toNat : Nat) : Int), es', i', h') := by
    simp only [ew, e1, Option.bind_some, et]
    exact r1
  exact Ev.bind (Ev.bind d1 (Ev.now _)) (Ev.now _)
end Go.Proofs.Ytplcclifmajcfaa.Pure
end
section
set_option linter.unusedVariables false
set_option linter.unusedSimpArgs false
namespace Go.Proofs.Ytplcclifmajcfaa.Pure
open Go.RowKit Go.Proofs.Ytplcclifmajcfaa.P Go.Proofs.YtplcclifmajcfaaW.PrintWords Go.Proofs.YtplcclifmajcfaaW.PrintLast Go.Proofs.YtplcclifmajcfaaW.PrintMore Go.Proofs.Ytplcclifmajcfaa.Base Go.Proofs.Ytplcclifmajcfaa.Trees Go.Proofs.Ytplcclifmajcfaa.Factors Go.Proofs.Ytplcclifmajcfaa.Smith Go.Proofs.Ytplcclifmajcfaa.Minor Go.Proofs.Ytplcclifmajcfaa.Det Go.Proofs.Ytplcclifmajcfaa.Reduce Go.Proofs.Ytplcclifmajcfaa.Loops Go.Proofs.Ytplcclifmajcfaa.Bits
theorem implDetVal (m : List (List Int)) (e : matB m = true) : Ev (fun k => impl_Determinant.f k m) (dF (rowX m) (rangeZ m.length) (rangeZ m.length)) := by
  obtain ⟨h6, hr⟩ := matB_facts e
  have h1 := implMat_ev m (by omega) (fun r h => by have := hr r h; omega)
  rw [e] at h1
  simp only [impl_Determinant.f]
  obtain ⟨f1, f2, f3⟩ := full_bits m.length h6
  have hb := bitsOf_ev (2 ^ m.length - 1) f3
  rw [f1] at hb
  have hmem : ∀ r ∈ (List.range m.length).map (fun i : Nat => (i : Int)), 0 ≤ r ∧ r < (m.length : Int) := by
    intro r hr
    rw [List.mem_map] at hr
    obtain ⟨i, hi, rfl⟩ := hr
    rw [List.mem_range] at hi
    omega
  have hi := implDet_ev m m.length h6 rfl (fun r a b => rowLen e r a b) ((List.range m.length).map (fun i : Nat => (i : Int))) (2 ^ m.length - 1) hmem f3 (by simp; omega)
  rw [f2] at hi
  rw [shl_full m.length h6]
  exact Ev.bind h1 (ev_ift rfl (Ev.bind hb (Ev.bind hi (Ev.now _))))
theorem big_loop (l : List Int) (hl : l.length ≤ 100) : ∀ (rest : List Int) (i : Nat) (acc : List Int), l.drop i = rest → i ≤ l.length → acc.length ≤ i →
    Ev (fun k => impl_GroupFactors.l0 k acc l (l.length : Int) (i : Int)) (acc ++ rest.filter fun x => decide (1 < x)) := by
  intro rest
  induction rest with
  | nil =>
    intro i acc hd hi ha
    have := drop_nil hd
    refine ev_succ ?_
    simp only [impl_GroupFactors.l0, List.filter_nil, List.append_nil]
    exact ev_ifn (by omega) (Ev.now _)
  | cons x rest ih =>
    intro i acc hd hi ha
    have hlt := drop_lt hd
    refine ev_succ ?_
    simp only [impl_GroupFactors.l0, rd_drop hd, wrap_succ (show i < 4611686018427387904 by omega), List.filter_cons]
    refine ev_ift (by omega) (ev_ift (by omega) (ev_ift (by omega) ?_))
    by_cases c : 1 < x
    · have h1 := ih (i + 1) (acc ++ [x]) (drop_next hd) (by omega) (by simp; omega)
      rw [if_pos (decide_eq_true c)]
      rw [List.append_assoc, List.singleton_append] at h1
      exact ev_ift (by omega) (ev_ift (by omega) h1)
    · rw [if_neg (by simpa using c)]
      exact ev_ifn (by omega) (ih (i + 1) acc (drop_next hd) (by omega) (by omega))
theorem cast_drop {l : List Nat} {i : Nat} {a : Nat} {r : List Nat} (h : l.drop i = a :: r) : rd (l.map fun a : Nat => (a : Int)) (i : Int) = (a : Int) := by
  have : (l.map fun a : Nat => (a : Int)).drop i = (a : Int) :: r.map fun a : Nat => (a : Int) := by rw [← List.map_drop, h]; rfl
  exact rd_drop this
theorem fac_loop (l : List Nat) (hl : l.length ≤ 6) (hp : l.Pairwise (· ∣ ·)) (h2 : ∀ a ∈ l, 1 < a) (T : Nat) (hT : T < 9223372036854775808) (n : Int) (es : List S57)
    (hend : Ev (fun k => laws_FnFactors.l0 k (l.map fun a : Nat => (a : Int)) (T : Int) (l.map fun a : Nat => (a : Int)) (l.length : Int) (l.length : Int) n es) true) :
    ∀ (rest : List Nat) (i p : Nat), l.drop i = rest → i ≤ l.length → p * prodN rest = T → Ev (fun k => laws_FnFactors.l0 k (l.map fun a : Nat => (a : Int)) (p : Int) (l.map fun a : Nat => (a : Int)) (l.length : Int) (i : Int) n es) true := by
  intro rest
  induction rest with
  | nil =>
    intro i p hd hi hpT
    have := drop_nil hd
    obtain rfl : i = l.length := by omega
    simp only [prodN, Nat.mul_one] at hpT
    subst hpT
    exact hend
  | cons a rest ih =>
    intro i p hd hi hpT
    have hlt := drop_lt hd
    have hm : ∀ b ∈ a :: rest, b ∈ l := fun b hb => List.mem_of_mem_drop (by rw [hd]; exact hb)
    have ha := h2 a (hm a (by simp))
    have hpos := prod_pos rest fun b hb => by have := h2 b (hm b (by simp [hb])); omega
    simp only [prodN] at hpT
    have hpa : p * a < 9223372036854775808 := by
      refine Nat.lt_of_le_of_lt ?_ hT
      rw [← hpT, ← Nat.mul_assoc]
      exact Nat.le_mul_of_pos_right _ hpos
    have ew : wrap64 ((p : Int) * (a : Int)) = ((p * a : Nat) : Int) := by
      rw [← Int.natCast_mul]
      generalize p * a = q at *
      unfold wrap64
      omega
    have h1 := ih (i + 1) (p * a) (drop_next hd) (by omega) (by rw [← hpT, Nat.mul_assoc])
    rw [← ew, ← wrap_succ (show i < 4611686018427387904 by omega)] at h1
    have hlm : (l.map fun a : Nat => (a : Int)).length = l.length := by simp
    refine ev_succ ?_
    simp only [laws_FnFactors.l0]
    refine ev_ift (by omega) (ev_succ ?_)
    simp only [laws_FnFactors.j2, cast_drop hd, hlm]
    refine ev_ift (by omega) (ev_ift (by omega) (ev_ifn (by omega) ?_))
    cases i with
    | zero =>
      refine ev_ifn (by omega) (ev_succ ?_)
      simp only [laws_FnFactors.j3]
      exact ev_iff h1
    | succ j =>
      have ej : wrap64 (((j + 1 : Nat) : Int) - 1) = (j : Int) := by unfold wrap64; omega
      have hj : l.drop j = l[j]'(by omega) :: a :: rest := by rw [List.drop_eq_getElem_cons (by omega), hd]
      have hdv := pair_next hp hj
      have hb := h2 (l[j]'(by omega)) (List.getElem_mem _)
      rw [ej, cast_drop hj]
      generalize l[j]'(by omega) = b at *
      refine ev_ift (by omega) (ev_ift (by omega) (ev_ift (by omega) (ev_ifn (by omega) (ev_succ ?_))))
      have et : (Int.tmod (a : Int) (b : Int) != 0) = false := by
        rw [tmod_abs, Nat.mod_eq_zero_of_dvd hdv]; rfl
      simp only [laws_FnFactors.j3, et]
      exact ev_iff h1
theorem lawFactors (code : List Int) (hc : code.length ≤ 9223372036854775807) : Ev (fun k => laws_FnFactors.f k code) true := by
  simp only [laws_FnFactors.f]
  by_cases h20 : (code.length : Int) > 1048576
  · exact ev_ift h20 (Ev.now _)
  refine ev_ifn h20 ?_
  obtain ⟨n, es, hg, G⟩ := makeGraph_ex code (by omega)
  obtain ⟨m, rfl⟩ : ∃ m : Nat, n = ((m + 1 : Nat) : Int) := ⟨(n - 1).toNat, by have := G.lo; omega⟩
  have glo := G.lo
  have ghi := G.hi
  have h8 := G.len
  have hL : es.length < 4611686018427387904 := by omega
  obtain ⟨f, F1, F2, F3, F4, F5, F6⟩ := factors_ex m (by omega) (by omega) es G.g
  obtain ⟨b, k1, _, kq⟩ := graphOk_both ((m + 1 : Nat) : Int) es hL
  obtain rfl : b = true := kq.2 G.g
  have tt : true = true := rfl
  obtain ⟨r, r1, _, ⟨_, r4⟩, r5⟩ := reducedLap_both ((m + 1 : Nat) : Int) es 0 hL
  obtain rfl : r = redFrom 0 0 (lapM (m + 1) es (m + 1)) := by
    have := r5 G.g (by omega) (by omega)
    simpa using this
  have hB := redB G.g
  have hlen : (redFrom 0 0 (lapM (m + 1) es (m + 1))).length = m := by rw [redM_eq]; simp
  have hdet := implDetVal _ hB
  rw [hlen, ← F4] at hdet
  obtain ⟨xs, l1, _, _, l5⟩ := laplacian_both ((m + 1 : Nat) : Int) es hL
  obtain rfl : xs = lapM (m + 1) es (m + 1) := by
    rcases l5 with ⟨_, hno⟩ | ⟨_, m', hm', e⟩
    · exact absurd G.g hno
    · obtain rfl : m' = m + 1 := by omega
      exact e
  have hLB := lapB G.g
  have hLl := lapM_len (m + 1) es (m + 1)
  have hev := implInv_ev hLB (by omega) (fun r hr => by have := (matB_facts hLB).2 r hr; omega)
  have hH := dFZ hLB
  have hz := lapZero (m + 1) (by omega) (by omega) es G.g
  generalize redFrom 0 0 (lapM (m + 1) es (m + 1)) = Rd at *
  generalize lapM (m + 1) es (m + 1) = Lp at *
  rw [hLl] at hev hH
  have hzero : gk (rowX Lp) (m + 1) (m + 1) = 0 := by
    rw [gk_top _ _ (by omega), hH (m + 1) (by omega) _ (by rw [sets_top _ (by omega)]; simp) _ (by rw [sets_top _ (by omega)]; simp), hz]
    rfl
  have hlast : rd (ifL (rowX Lp) (m + 1)) (m : Int) = 0 := by
    unfold rd ifL
    rw [Int.toNat_natCast, getD_range _ _ _ (by omega), if_pos hzero]
  have big := big_loop (f.map fun a : Nat => (a : Int)) (by simp; omega) _ 0 [] rfl (by omega) (by simp)
  rw [List.drop_zero, filter_cast, List.nil_append] at big
  have hgf : Ev (fun k => impl_GroupFactors.f k ((m + 1 : Nat) : Int) es) ((f.filter fun a => decide (1 < a)).map fun a : Nat => (a : Int)) := by
    simp only [impl_GroupFactors.f]
    exact Ev.bind k1 (ev_ift tt (Ev.bind r1 (Ev.bind F1 big)))
  have hpf := prod_filter f F3
  have hff : ∀ a ∈ f.filter fun a => decide (1 < a), 1 < a := fun a ha => by
    rw [List.mem_filter] at ha
    exact of_decide_eq_true ha.2
  have hfl : (f.filter fun a => decide (1 < a)).length ≤ 6 := by
    have := List.length_filter_le (fun a => decide (1 < a)) f
    omega
  have hfp := F2.filter (fun a => decide (1 < a))
  generalize f.filter (fun a => decide (1 < a)) = l at *
  have htr : Ev (fun k => impl_CountTrees.f k ((m + 1 : Nat) : Int) es) ((prodN f : Nat) : Int) := by
    simp only [impl_CountTrees.f]
    exact Ev.bind k1 (ev_ift tt (Ev.bind r1 (Ev.bind hdet (Ev.now _))))
  have hgo : Ev (fun k => impl_GroupOrder.f k ((m + 1 : Nat) : Int) es) ((prodN f : Nat) : Int) := by
    simp only [impl_GroupOrder.f]
    exact Ev.bind htr (Ev.now _)
  have hcy : Ev (fun k => impl_IsCyclic.f k ((m + 1 : Nat) : Int) es) (decide (((l.map fun a : Nat => (a : Int)).length : Int) ≤ 1)) := by
    simp only [impl_IsCyclic.f]
    exact Ev.bind k1 (ev_ift tt (Ev.bind hgf (Ev.now _)))
  refine ev_succ ?_
  simp only [laws_FnFactors.j0]
  refine Ev.bind hg ?_
  dsimp only
  refine Ev.bind hgf ?_
  have el : (l.map fun a : Nat => (a : Int)).length = l.length := by simp
  rw [el] at hcy ⊢
  refine fac_loop l hfl hfp hff (prodN f) F5 _ es ?_ l 0 1 rfl (by omega) (by rw [Nat.one_mul, hpf])
  refine ev_succ ?_
  have ew : wrap64 (((m + 1 : Nat) : Int) - 1) = (m : Int) := by unfold wrap64; omega
  simp only [laws_FnFactors.l0, el, ew]
  refine ev_ifn (by omega) (Ev.bind l1 (Ev.bind hev (Ev.bind k1 (ev_ift tt (Ev.bind hgo (ev_ift rfl (Ev.bind htr (ev_ift rfl ?_))))))))
  rw [ifL_len, hlast]
  refine ev_ift rfl (ev_ift (by omega) (ev_ift (by omega) (ev_ift rfl (Ev.bind hcy ?_))))
  simp only [beq_self_eq_true]
  exact Ev.now _
theorem FnFactors : StatFnFactors := by
  intro code ⟨hc, _⟩
  have hc' : code.length ≤ 9223372036854775807 := by unfold maxLen at hc; omega
  exact Ev.rounds (r := true) (lawFactors code hc')
end Go.Proofs.Ytplcclifmajcfaa.Pure
end
