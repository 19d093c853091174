/- A call through a variable that holds a known function without captured variables. -/
import Derived.Test.YtnebapnfkolflaaWMore
import Derived.Test.YtnebapnfkolflaaWTab
set_option autoImplicit false
namespace Go.Proofs.YtnebapnfkolflaaW.PrintMore
open Go.RowKit Go.Proofs.YtnebapnfkolflaaW.PrintWords Go.Proofs.YtnebapnfkolflaaW.PrintLast
section
variable {P : Program} {ops : Array Oper} {Q : Exit → Act → World → Prop}
theorem goesF_ {oi : Oper} {N : Option Tmp} {a : Act} {w : World} {K : Act → World → Prop} {f : FuncId} {fn : Func} {cal : Operand} {as : Array Operand} {ts : Array TypeId} (hf : P.funcs[f]? = some fn) (hname : (fn.name == "runtime.NumGoroutine") = false) (hb : fn.body.isSome = true) (args : Array Value)
    (hw : Region.wanted oi (yielded ops a.tmps) = true) (hN : oi.dst = N) (hop : oi.op = .call { callee := .value cal, args := as, argTypes := ts }) (hcal : a.eval cal = .func (.func f) #[] #[]) (hargs : as.map a.eval = args)
    (h : Calls P f args w fun e w' => ∃ v, e = .returned v ∧ K (a.put N v) w') : if Region.wanted oi (yielded ops a.tmps) = true then Oper.wp P oi a w K Q else K (a.put N undef) w := by
  refine call_ f args hw hN ?_ h
  have he := enters_ hf hname hb args w
  unfold execOp
  simp [hop, resolve, Deferred.ofValue, invoke, hcal, hargs, he]
end
section
variable {P : Program} {ops : Array Oper} {Q : Exit → Act → World → Prop}
/-- A call in a plain region, its arguments told by sight. -/
theorem goesM_ {rest : List Oper} {oi : Oper} {a : Act} {w : World} (N : Option Tmp) (hd : oi.dst = N) (hg : oi.guard = none) {f : FuncId} {fn : Func} {as : Array Operand} {ts : Array TypeId} (hf : P.funcs[f]? = some fn) (hname : (fn.name == "runtime.NumGoroutine") = false) (hb : fn.body.isSome = true) (args : Array Value)
    (hop : oi.op = .call { callee := .value (.func f), args := as, argTypes := ts })
    (h : Calls P f args w fun e w' => ∃ v, e = .returned v ∧ wpList P ops Q rest (a.put N v) w') (hargs : as.map a.eval = args := by (try simp only [List.map_toArray, List.map_cons, List.map_nil]); first | done | rfl | (simp only [List.length_drop, List.length_take]; rfl)) : wpList P ops Q (oi :: rest) a w :=
  goesL_ N hd hg hf hname hb args hop hargs h
end
section
variable {P : Program} {ops : Array Oper} {Q : Exit → Act → World → Prop} {md : Region.Mode} {S : World → Prop} {ds : List Nat}
/-- Steps of a region whose tables were told: what they leave is found by sight. -/
theorem pureT_ {fuel : Nat} {l l' : Array Bool} {a a' : Act} {w : World} {oi : Oper} {v : Value} {T : Bool × List (List Nat × List Nat)} (i : Nat) (N : Tmp) (hT : Aside0 (rtab md ops = T))
    (h : wpAnyLast P md ops Q S ds fuel l' a' w) (hi : ops[i]? = some oi := by rfl) (hN : oi.dst = some N := by rfl) (hc : anyT T l.toList (l.setIfInBounds i true).toList i = true := by kernel_rfl)
    (hQ : ∀ c a w, Q (.panic c) (a.put oi.dst v) w → Q (.panic c) a w := by exact fun _ _ _ h => h) (hw : Region.wanted oi (yielded ops a.tmps) = true := by rfl) (hv : ∀ w, (execOp a.eval oi).run P w = .ok (.value v) w := by intro w'; go_simp; with_reducible rfl)
    (ha : a.put (some N) v = a' := by simp only [Act.put, List.setIfInBounds_toArray, List.set_cons_zero, List.set_cons_succ, i64_w, i32_w]; rfl) (hl : l.setIfInBounds i true = l' := by simp only [List.setIfInBounds_toArray, List.set_cons_zero, List.set_cons_succ]; rfl) : wpAnyLast P md ops Q S ds (fuel + 1) l a w := by
  subst hl
  exact pure_ _ hi hN (any_of hT.out hc) hQ (Or.inl ⟨hw, hv⟩) ha h
theorem pureU_ {fuel : Nat} {l l' : Array Bool} {a a' : Act} {w : World} {oi : Oper} {T : Bool × List (List Nat × List Nat)} (i : Nat) (N : Tmp) (hT : Aside0 (rtab md ops = T))
    (h : wpAnyLast P md ops Q S ds fuel l' a' w) (hi : ops[i]? = some oi := by rfl) (hN : oi.dst = some N := by rfl) (hc : anyT T l.toList (l.setIfInBounds i true).toList i = true := by kernel_rfl)
    (hQ : ∀ c a w, Q (.panic c) (a.put oi.dst undef) w → Q (.panic c) a w := by exact fun _ _ _ h => h) (hw : Region.wanted oi (yielded ops a.tmps) = false := by rfl)
    (ha : a.put (some N) undef = a' := by simp only [Act.put, List.setIfInBounds_toArray, List.set_cons_zero, List.set_cons_succ, i64_w, i32_w]; rfl) (hl : l.setIfInBounds i true = l' := by simp only [List.setIfInBounds_toArray, List.set_cons_zero, List.set_cons_succ]; rfl) : wpAnyLast P md ops Q S ds (fuel + 1) l a w := by
  subst hl
  exact pure_ _ hi hN (any_of hT.out hc) hQ (Or.inr ⟨hw, rfl⟩) ha h
theorem takeT_ {fuel : Nat} {l l' : Array Bool} {a a' : Act} {w : World} {oi : Oper} {v : Value} {T : Bool × List (List Nat × List Nat)} {B : List Nat} (i : Nat) (N : Tmp) (hT : Aside0 (rtab md ops = T)) (hB : Aside0 (waitsOk T.2 B = true)) (hS : S w) (hi : ops[i]? = some oi)
    (hv : ∀ w, S w → (execOp a.eval oi).run P w = .ok (.value v) w)
    (h : wpAnyLast P md ops Q S ds fuel l' a' w) (hN : oi.dst = some N := by rfl) (hc : takeW T B ds l.toList (l.setIfInBounds i true).toList i = true := by kernel_rfl)
    (hQ : ∀ c a w, Q (.panic c) (a.put oi.dst v) w → Q (.panic c) a w := by exact fun _ _ _ h => h) (hw : Region.wanted oi (yielded ops a.tmps) = true := by rfl)
    (ha : a.put (some N) v = a' := by simp only [Act.put, List.setIfInBounds_toArray, List.set_cons_zero, List.set_cons_succ, i64_w, i32_w]; rfl) (hl : l.setIfInBounds i true = l' := by simp only [List.setIfInBounds_toArray, List.set_cons_zero, List.set_cons_succ]; rfl) : wpAnyLast P md ops Q S ds (fuel + 1) l a w := by
  subst hl
  exact take_ _ hi hN (take_ofW hT.out hB.out hc) hQ (Or.inl ⟨hw, hv⟩) hS ha h
end
/-! What was told of a world is so some plain steps behind it: the steps are found by sight. -/
structure StpT (w W : World) : Type where
  out : Below w.heap.size w W
theorem stp_here (w : World) : Nonempty (StpT w w) := ⟨⟨Below.refl _ _⟩⟩
theorem stp_alloc {w W : World} {o : Obj} [h : Nonempty (StpT w W)] : Nonempty (StpT w (W.alloc o)) := h.elim fun x => ⟨⟨below_alloc x.out o⟩⟩
theorem stp_drewN {w W : World} {n : Nat} [h : Nonempty (StpT w W)] : Nonempty (StpT w (W.drewN n)) := h.elim fun x => ⟨⟨pw_below_drewN x.out n⟩⟩
theorem stp_drew {w W : World} [h : Nonempty (StpT w W)] : Nonempty (StpT w W.drew) := h.elim fun x => ⟨⟨below_drew1 x.out⟩⟩
attribute [instance] stp_here stp_alloc stp_drewN stp_drew
theorem Rz {α : Type} {d : Kd α} {e : Nat} {w W : World} {base : Nat} {ok : Nat → Prop} {v : Value} {xs : List α} (h : Aside0 (Kd.R d e w base ok v xs)) [s : Nonempty (StpT w W)] : Kd.R d e W base ok v xs := s.elim fun x => Kd.R_below h.out x.out
theorem Bz {w W : World} {g : Nat} {o : Obj} (h : Aside0 (w.heap[g]? = some o)) [s : Nonempty (StpT w W)] : W.heap[g]? = some o := s.elim fun x => blk_below h.out x.out
theorem Cz {α : Type} {d : Kd α} {w W : World} {A : Option Addr} {n : Nat} {xs : List α} (h : Kd.C d w A n xs) [s : Nonempty (StpT w W)] : Kd.C d W A n xs := s.elim fun x => Kd.C_below h x.out
theorem Lz {w W0 W : World} (h : Aside0 (Below w.heap.size w W0)) [s : Nonempty (StpT W0 W)] : Below w.heap.size w W := s.elim fun x => below_step h.out x.out
/-- The same past cells of own blocks that were set. -/
structure StpG (V : World) (L : List Nat) (w W : World) : Type where
  out : (∀ b ∈ L, V.heap.size ≤ b) → Below V.heap.size V w → Below V.heap.size V W
structure MemL (b : Nat) (L : List Nat) : Type where
  out : b ∈ L
theorem meml_head (b : Nat) (L : List Nat) : Nonempty (MemL b (b :: L)) := ⟨⟨List.mem_cons_self⟩⟩
theorem meml_tail {b c : Nat} {L : List Nat} [h : Nonempty (MemL b L)] : Nonempty (MemL b (c :: L)) := h.elim fun x => ⟨⟨List.mem_cons_of_mem _ x.out⟩⟩
section
variable {V w W : World} {L : List Nat}
theorem stpg_here (V : World) (L : List Nat) (w : World) : Nonempty (StpG V L w w) := ⟨⟨fun _ h => h⟩⟩
theorem stpg_alloc {o : Obj} [h : Nonempty (StpG V L w W)] : Nonempty (StpG V L w (W.alloc o)) := h.elim fun x => ⟨⟨fun g b => below_alloc (x.out g b) o⟩⟩
theorem stpg_drewN {k : Nat} [h : Nonempty (StpG V L w W)] : Nonempty (StpG V L w (W.drewN k)) := h.elim fun x => ⟨⟨fun g b => pw_below_drewN (x.out g b) k⟩⟩
theorem stpg_drew [h : Nonempty (StpG V L w W)] : Nonempty (StpG V L w W.drew) := h.elim fun x => ⟨⟨fun g b => below_drew1 (x.out g b)⟩⟩
theorem stpg_set {b o : Nat} {v : Value} [h : Nonempty (StpG V L w W)] [m : Nonempty (MemL b L)] : Nonempty (StpG V L w (W.setCell ⟨b, o, none⟩ v)) := h.elim fun x => m.elim fun y => ⟨⟨fun g c => below_set (x.out g c) (g _ y.out)⟩⟩
attribute [instance] meml_head meml_tail stpg_here stpg_alloc stpg_drewN stpg_drew stpg_set
variable {W0 : World} {b1 b2 b3 : Nat}
theorem Lz1 (h : Aside0 (Below V.heap.size V W0)) (g1 : Aside0 (V.heap.size ≤ b1)) [s : Nonempty (StpG V [b1] W0 W)] : Below V.heap.size V W := s.elim fun x => x.out (by simp [g1.out]) h.out
theorem Lz2 (h : Aside0 (Below V.heap.size V W0)) (g1 : Aside0 (V.heap.size ≤ b1)) (g2 : Aside0 (V.heap.size ≤ b2)) [s : Nonempty (StpG V [b1, b2] W0 W)] : Below V.heap.size V W := s.elim fun x => x.out (by simp [g1.out, g2.out]) h.out
theorem Lz3 (h : Aside0 (Below V.heap.size V W0)) (g1 : Aside0 (V.heap.size ≤ b1)) (g2 : Aside0 (V.heap.size ≤ b2)) (g3 : Aside0 (V.heap.size ≤ b3)) [s : Nonempty (StpG V [b1, b2, b3] W0 W)] : Below V.heap.size V W := s.elim fun x => x.out (by simp [g1.out, g2.out, g3.out]) h.out
end
/-- What is told of a row says that its value is a slice. -/
theorem aside_slice {α : Type} {d : Kd α} {e : Nat} {w : World} {base : Nat} {ok : Nat → Prop} {v : Value} {xs : List α} (h : Aside0 (Kd.R d e w base ok v xs)) : ∃ A c, v = .slice A xs.length c := by
  obtain ⟨A, c, rfl, _, _⟩ := Kd.R_reads h.out
  exact ⟨A, c, rfl⟩
end Go.Proofs.YtnebapnfkolflaaW.PrintMore
