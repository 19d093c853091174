/- Lemmas on what the program's functions compute (graphin). -/
import Derived.Test.YtkdhjeimcnackaaPx10
import Derived.Test.YtkdhjeimcnackaaPx11
import Derived.Test.YtkdhjeimcnackaaPx12
import Derived.Test.YtkdhjeimcnackaaPx2
import Derived.Test.YtkdhjeimcnackaaPx3
import Derived.Test.YtkdhjeimcnackaaPx5
import Derived.Test.YtkdhjeimcnackaaPx6
import Derived.Test.YtkdhjeimcnackaaPx7
import Derived.Test.YtkdhjeimcnackaaPx0
import Derived.Test.YtkdhjeimcnackaaBase
import Derived.Test.YtkdhjeimcnackaaLoops
set_option linter.unusedVariables false
set_option linter.unusedSimpArgs false
namespace Go.Proofs.Ytkdhjeimcnackaa.Pure
open Go.RowKit Go.Proofs.Ytkdhjeimcnackaa.P Go.Proofs.YtkdhjeimcnackaaW.PrintWords Go.Proofs.YtkdhjeimcnackaaW.PrintLast Go.Proofs.YtkdhjeimcnackaaW.PrintMore Go.Proofs.Ytkdhjeimcnackaa.Base Go.Proofs.Ytkdhjeimcnackaa.Loops

def cvE (e : S73) : S57 := ⟨e.f0, e.f1⟩

theorem rd_IE {l : List S57} {i : Nat} {a : S57} {r : List S57} (h : l.drop i = a :: r) : rd_T57 l (i : Int) = a := by
  unfold rd_T57
  rw [Int.toNat_natCast]
  exact get_drop h _

theorem rd_LE {l : List S73} {i : Nat} {a : S73} {r : List S73} (h : l.drop i = a :: r) : rd_T73 l (i : Int) = a := by
  unfold rd_T73
  rw [Int.toNat_natCast]
  exact get_drop h _

theorem szGraph_eq (a : Int) (l : List S73) (hl : l.length ≤ maxLen) (n : Int) (h0 : 0 ≤ n) (h1 : n ≤ 1048576) : laws_szGraph.f a l n = some (if (l.length : Int) ≤ n then n - l.length else -1) := by
  unfold maxLen at hl
  unfold laws_szGraph.f laws_szEdgeS.f
  have e : wrap64 (n - (l.length : Int)) = n - l.length := by unfold wrap64; omega
  rw [e]
  by_cases h : (l.length : Int) ≤ n
  · rw [if_neg (by omega), if_pos h]
    simp only [Option.bind_some]
    rw [if_neg (by omega)]
  · rw [if_pos (by omega), if_neg h]
    rfl

theorem toEdgeS_l0 (l : List S73) (hl : l.length < 4611686018427387904) : ∀ (d k i : Nat) (x : List S57), i + d = l.length → x.length = l.length → x.take i = (l.map cvE).take i → d < k → laws_toEdgeS.l0 k l x (i : Int) = some (l.map cvE) := by
  intro d
  induction d with
  | zero =>
    intro k i x hi hx ht hk
    obtain ⟨k, rfl⟩ := succ_of_lt hk
    simp only [laws_toEdgeS.l0]
    rw [if_neg (by omega), fill_end (x := x) (y := l.map cvE) (by simpa using hx) (by rw [List.length_map, show l.length = i by omega]; exact ht)]
  | succ d ih =>
    intro k i x hi hx ht hk
    obtain ⟨k, rfl⟩ := succ_of_lt hk
    have hlt : i < l.length := by omega
    have hd := List.drop_eq_getElem_cons hlt
    simp only [laws_toEdgeS.l0, laws_toEdge.f, Option.bind_some]
    rw [if_pos (by omega), if_pos (by omega), if_pos (by omega), wrap_succ (by omega), rd_LE hd, Int.toNat_natCast]
    refine ih k (i + 1) _ (by omega) (by simpa using hx) ?_ (by omega)
    refine fill_step (rest := (l.map cvE).drop (i + 1)) (by simpa using hx) ht ?_
    rw [List.drop_eq_getElem_cons (by simpa using hlt)]
    simp [cvE]

theorem toGraph_ev (a : Int) (l : List S73) (hl : l.length ≤ 1048576) : Ev (fun k => laws_toGraph.f k a l) (a, l.map cvE) := by
  refine ev_k l.length fun k hk => ?_
  unfold laws_toGraph.f laws_toEdgeS.f
  rw [if_pos (by omega), if_pos (by omega), show (0 : Int) = ((0 : Nat) : Int) from rfl, toEdgeS_l0 l (by omega) l.length k 0 _ (by omega) (by simp) (by simp) hk]
  rfl

theorem eqEdgeS_ev (l : List S57) (hl : l.length < 4611686018427387904) : Ev (fun k => laws_eqEdgeS.f k l l) true := by
  simp only [laws_eqEdgeS.f, if_true]
  refine ev_list0 l (fun k (_ : Unit) i => laws_eqEdgeS.l0 k l l i) (fun _ _ => true) (fun _ _ => True) (fun s _ => ev1 fun k => ?_) (fun s a rest i hlt hd _ => Or.inr ⟨(), trivial, rfl, 0, fun k _ => ?_⟩) () trivial
  · simp only [laws_eqEdgeS.l0]
    rw [if_neg (by omega)]
  · simp only [laws_eqEdgeS.l0, laws_eqEdge.f, if_true, Option.bind_some]
    rw [if_pos (by omega), if_pos (by omega), if_pos (by omega), wrap_succ (by omega)]

theorem eqGraph_ev (a : Int) (l : List S57) (hl : l.length < 4611686018427387904) : Ev (fun k => laws_eqGraph.f k a l a l) true := by
  simp only [laws_eqGraph.f, if_true]
  refine Ev.bind (eqEdgeS_ev l hl) ?_
  simp only [if_true]
  exact Ev.now _

theorem map_cv_length (l : List S73) : (l.map cvE).length = l.length := List.length_map ..

end Go.Proofs.Ytkdhjeimcnackaa.Pure
