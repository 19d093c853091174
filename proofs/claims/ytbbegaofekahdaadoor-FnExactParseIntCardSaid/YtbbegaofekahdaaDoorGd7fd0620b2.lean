/- Functions of the program as plain Lean functions and that the machine's calls answer as they do, the words of the print that these use, lemmas and plain proofs of laws. Put together by a program of this work that leaves out what nothing uses; Lean checks it. -/
import Derived.Shelf.Strings.Builder1
import Derived.Shelf.Strings.Builder2
import Derived.Shelf.Strings.OnBuilder
import Derived.Shelf.Small.Strs
import Derived.Shelf.Strings.BuilderF
import Derived.Shelf.Strconv.Atoi
import Derived.Shelf.Strconv.Itoa0
import Derived.Shelf.Strconv.Itoa1
import Derived.Shelf.LaysM
import Derived.Shelf.Strconv.Itoa2
import Derived.Shelf.Strconv.Itoa3
import Derived.Shelf.Strconv.AtoiErrFast
import Derived.Shelf.Strconv.ParseIntEmpty
import Derived.Shelf.Strconv.AtoiFail
import Derived.Shelf.Strconv.Clone
import Derived.Shelf.Strconv.SyntaxError
import Derived.Shelf.LaysC
import Derived.Shelf.Strconv.ToError
import Derived.Shelf.Strconv.Lower
import Derived.Shelf.Strconv.ParseUint10
import Derived.Shelf.Strconv.ParseUint10Empty
import Derived.Shelf.Strconv.ParseUint10Any
import Derived.Shelf.Strconv.ParseInt10
import Derived.Shelf.Strconv.AtoiLong
import Derived.Shelf.Strconv.AtoiInnerAll
import Derived.Shelf.Strconv.RangeError
import Derived.Shelf.Strconv.ToErrorRange
import Derived.Shelf.Strconv.AtoiAll
import Derived.Shelf.Strconv.ErrVarAll
import Derived.Shelf.Strings.Search1
import Derived.Test.YtbbegaofekahdaaDoorProg
import Derived.Below
import Derived.Deep.Draws
import Derived.Deep.AppendLies
import Derived.Maps.AppendAt
import Derived.OwnWalk
import Derived.Laws.BytesArg
import Derived.Laws.MakeOwn
import Derived.Laws.OwnMore
import Derived.Deep.OwnRows
import Derived.Tactics
import Derived.Lib.ConvBytes
import Derived.Laws.Slices
import Derived.WalkKit
import Derived.KernelRfl
import Derived.RowKit3
import Derived.Deep.LoopGhost
import Derived.Deep.QuietTactic
import Derived.BigQuiet
import Derived.WideLaws
import Derived.Deep.DeepCutAuto
import Derived.Deep.CutBlock
import Derived.Deep.RegionHeld3
import Derived.Laws.Rows
import Derived.Lib.AppendStr
import Derived.ArgAppend
import Derived.Laws.IdiomCopy
import Derived.OrdersHeld
import Derived.Laws.BitsLemmas
import Derived.RowKit
import Derived.Lib.AppendIntMem
import Derived.Laws.StructEq
import Derived.Test.YtbbegaofekahdaaDoorG3601900feb
section
namespace Go.Proofs
open Go.Shelf
def Tryd.laysM171_ren : Go.Shelf.Ren := ⟨fun | 171 => 16 | 243 => 26 | 246 => 33 | 283 => 42 | 284 => 43 | 285 => 44 | 286 => 45 | 129 => 52 | 317 => 51 | 318 => 53 | 319 => 54 | 320 => 55 | 337 => 58 | 338 => 59 | n => n, fun | 3 => 3 | 9 => 9 | 2 => 2 | 4 => 4 | 171 => 63 | 0 => 0 | 53 => 64 | 37 => 27 | 5 => 5 | 173 => 67 | 212 => 80 | 51 => 81 | 20 => 20 | 213 => 82 | 46 => 49 | 232 => 89 | 233 => 90 | n => n, fun | 17 => 3 | 18 => 4 | 19 => 5 | n => n⟩
theorem Tryd.laysM171 : Go.Proofs.LaysM.n171 Tryd.prog Tryd.laysM171_ren := {
  mixed := by kernel_rfl
  f129 := Tryd.func52.trans (congrArg some (by kernel_rfl))
  f171 := Tryd.func16.trans (congrArg some (by kernel_rfl))
  f243 := Tryd.func26.trans (congrArg some (by kernel_rfl))
  f246 := Tryd.func33.trans (congrArg some (by kernel_rfl))
  f283 := Tryd.func42.trans (congrArg some (by kernel_rfl))
  f284 := Tryd.func43.trans (congrArg some (by kernel_rfl))
  f285 := Tryd.func44.trans (congrArg some (by kernel_rfl))
  f286 := Tryd.func45.trans (congrArg some (by kernel_rfl))
  f317 := Tryd.func51.trans (congrArg some (by kernel_rfl))
  f318 := Tryd.func53.trans (congrArg some (by kernel_rfl))
  f319 := Tryd.func54.trans (congrArg some (by kernel_rfl))
  f320 := Tryd.func55.trans (congrArg some (by kernel_rfl))
  f337 := Tryd.func58.trans (congrArg some (by kernel_rfl))
  f338 := Tryd.func59.trans (congrArg some (by kernel_rfl))
  t0 := Tryd.underlying0
  a0 := Tryd.isAgg0
  z0 := Tryd.sizeOf0
  v0 := Tryd.zeroValue0
  t2 := Tryd.underlying2
  a2 := Tryd.isAgg2
  z2 := Tryd.sizeOf2
  v2 := Tryd.zeroValue2
  t3 := Tryd.underlying3
  a3 := Tryd.isAgg3
  z3 := Tryd.sizeOf3
  v3 := Tryd.zeroValue3
  t4 := Tryd.underlying4
  a4 := Tryd.isAgg4
  z4 := Tryd.sizeOf4
  v4 := Tryd.zeroValue4
  t5 := Tryd.underlying5
  a5 := Tryd.isAgg5
  z5 := Tryd.sizeOf5
  v5 := Tryd.zeroValue5
  t9 := Tryd.underlying9
  a9 := Tryd.isAgg9
  z9 := Tryd.sizeOf9
  v9 := Tryd.zeroValue9
  t20 := Tryd.underlying20
  a20 := Tryd.isAgg20
  z20 := Tryd.sizeOf20
  v20 := Tryd.zeroValue20
  t37 := Tryd.underlying27
  a37 := Tryd.isAgg27
  z37 := Tryd.sizeOf27
  v37 := Tryd.zeroValue27
  t46 := Tryd.underlying49
  a46 := Tryd.isAgg49
  z46 := Tryd.sizeOf49
  v46 := Tryd.zeroValue49
  t51 := Tryd.underlying81
  a51 := Tryd.isAgg81
  z51 := Tryd.sizeOf81
  v51 := Tryd.zeroValue81
  t53 := Tryd.underlying64
  a53 := Tryd.isAgg64
  z53 := Tryd.sizeOf64
  v53 := Tryd.zeroValue64
  t171 := Tryd.underlying63
  a171 := Tryd.isAgg63
  z171 := Tryd.sizeOf63
  v171 := Tryd.zeroValue63
  t173 := Tryd.underlying67
  a173 := Tryd.isAgg67
  z173 := Tryd.sizeOf67
  v173 := Tryd.zeroValue67
  t212 := Tryd.underlying80
  a212 := Tryd.isAgg80
  z212 := Tryd.sizeOf80
  v212 := Tryd.zeroValue80
  t213 := Tryd.underlying82
  a213 := Tryd.isAgg82
  z213 := Tryd.sizeOf82
  t232 := Tryd.underlying89
  a232 := Tryd.isAgg89
  z232 := Tryd.sizeOf89
  v232 := Tryd.zeroValue89
  t233 := Tryd.underlying90
  a233 := Tryd.isAgg90
  z233 := Tryd.sizeOf90
  v233 := Tryd.zeroValue90
  g17 := by kernel_rfl
  g18 := by kernel_rfl
  g19 := by kernel_rfl
  i0 := by kernel_rfl
  i2 := by kernel_rfl
  i3 := by kernel_rfl
  i4 := by kernel_rfl
  i5 := by kernel_rfl
  i9 := by kernel_rfl
  i20 := by kernel_rfl
  i37 := by kernel_rfl
  i46 := by kernel_rfl
  i51 := by kernel_rfl
  i53 := by kernel_rfl
  i171 := by kernel_rfl
  i173 := by kernel_rfl
  i212 := by kernel_rfl
  i232 := by kernel_rfl
  i233 := by kernel_rfl
  m17 := by kernel_rfl
  m18 := by kernel_rfl
  m19 := by kernel_rfl }
open Go.RowKit Go.Sort Go.Lib in
theorem Tryd.strconv_Itoa (n : Int) (h0 : -9223372036854775808 ≤ n) (h1 : n ≤ 9223372036854775807) (w : World) (htab : Lib.TabIs Tryd.prog w "internal/strconv.uint64pow10" .u64 Lib.pow10Tab) :
    Calls Tryd.prog 16 #[.int .i64 n] w fun e w' => e = .returned (.string ⟨(Lib.itoa n).toArray⟩) ∧ ∃ k os, w' = grow (w.drewN k) os := Any.strconv_Itoa Tryd.laysM171 n h0 h1 w htab
def Tryd.laysC172_ren : Go.Shelf.Ren := ⟨fun | 172 => 18 | 244 => 27 | 245 => 28 | 247 => 34 | 279 => 35 | 280 => 36 | 281 => 37 | 282 => 38 | 287 => 46 | 316 => 47 | 171 => 16 | 205 => 48 | 321 => 56 | 322 => 57 | 243 => 26 | 246 => 33 | 283 => 42 | 284 => 43 | 285 => 44 | 286 => 45 | 129 => 52 | 317 => 51 | 318 => 53 | 319 => 54 | 320 => 55 | 337 => 58 | 338 => 59 | n => n, fun | 9 => 9 | 3 => 3 | 75 => 36 | 76 => 37 | 4 => 4 | 5 => 5 | 167 => 56 | 37 => 27 | 0 => 0 | 85 => 57 | 2 => 2 | 168 => 59 | 53 => 64 | 175 => 69 | 46 => 49 | 210 => 73 | 127 => 62 | 145 => 87 | 143 => 85 | 21 => 21 | 171 => 63 | 173 => 67 | 212 => 80 | 51 => 81 | 20 => 20 | 213 => 82 | 232 => 89 | 233 => 90 | 80 => 54 | n => n, fun | 15 => 0 | 16 => 1 | 17 => 3 | 18 => 4 | 19 => 5 | n => n⟩
theorem Tryd.laysC172 : Go.Proofs.LaysC.n172 Tryd.prog Tryd.laysC172_ren := {
  mixed := by kernel_rfl
  f129 := Tryd.func52.trans (congrArg some (by kernel_rfl))
  f171 := Tryd.func16.trans (congrArg some (by kernel_rfl))
  f172 := Tryd.func18.trans (congrArg some (by kernel_rfl))
  f205 := Tryd.func48.trans (congrArg some (by kernel_rfl))
  f243 := Tryd.func26.trans (congrArg some (by kernel_rfl))
  f244 := Tryd.func27.trans (congrArg some (by kernel_rfl))
  f245 := Tryd.func28.trans (congrArg some (by kernel_rfl))
  f246 := Tryd.func33.trans (congrArg some (by kernel_rfl))
  f247 := Tryd.func34.trans (congrArg some (by kernel_rfl))
  f279 := Tryd.func35.trans (congrArg some (by kernel_rfl))
  f280 := Tryd.func36.trans (congrArg some (by kernel_rfl))
  f281 := Tryd.func37.trans (congrArg some (by kernel_rfl))
  f282 := Tryd.func38.trans (congrArg some (by kernel_rfl))
  f283 := Tryd.func42.trans (congrArg some (by kernel_rfl))
  f284 := Tryd.func43.trans (congrArg some (by kernel_rfl))
  f285 := Tryd.func44.trans (congrArg some (by kernel_rfl))
  f286 := Tryd.func45.trans (congrArg some (by kernel_rfl))
  f287 := Tryd.func46.trans (congrArg some (by kernel_rfl))
  f316 := Tryd.func47.trans (congrArg some (by kernel_rfl))
  f317 := Tryd.func51.trans (congrArg some (by kernel_rfl))
  f318 := Tryd.func53.trans (congrArg some (by kernel_rfl))
  f319 := Tryd.func54.trans (congrArg some (by kernel_rfl))
  f320 := Tryd.func55.trans (congrArg some (by kernel_rfl))
  f321 := Tryd.func56.trans (congrArg some (by kernel_rfl))
  f322 := Tryd.func57.trans (congrArg some (by kernel_rfl))
  f337 := Tryd.func58.trans (congrArg some (by kernel_rfl))
  f338 := Tryd.func59.trans (congrArg some (by kernel_rfl))
  t0 := Tryd.underlying0
  a0 := Tryd.isAgg0
  z0 := Tryd.sizeOf0
  v0 := Tryd.zeroValue0
  t2 := Tryd.underlying2
  a2 := Tryd.isAgg2
  z2 := Tryd.sizeOf2
  v2 := Tryd.zeroValue2
  t3 := Tryd.underlying3
  a3 := Tryd.isAgg3
  z3 := Tryd.sizeOf3
  v3 := Tryd.zeroValue3
  t4 := Tryd.underlying4
  a4 := Tryd.isAgg4
  z4 := Tryd.sizeOf4
  v4 := Tryd.zeroValue4
  t5 := Tryd.underlying5
  a5 := Tryd.isAgg5
  z5 := Tryd.sizeOf5
  v5 := Tryd.zeroValue5
  t9 := Tryd.underlying9
  a9 := Tryd.isAgg9
  z9 := Tryd.sizeOf9
  v9 := Tryd.zeroValue9
  t20 := Tryd.underlying20
  a20 := Tryd.isAgg20
  z20 := Tryd.sizeOf20
  v20 := Tryd.zeroValue20
  t21 := Tryd.underlying21
  a21 := Tryd.isAgg21
  z21 := Tryd.sizeOf21
  v21 := Tryd.zeroValue21
  t37 := Tryd.underlying27
  a37 := Tryd.isAgg27
  z37 := Tryd.sizeOf27
  v37 := Tryd.zeroValue27
  t46 := Tryd.underlying49
  a46 := Tryd.isAgg49
  z46 := Tryd.sizeOf49
  v46 := Tryd.zeroValue49
  t51 := Tryd.underlying81
  a51 := Tryd.isAgg81
  z51 := Tryd.sizeOf81
  v51 := Tryd.zeroValue81
  t53 := Tryd.underlying64
  a53 := Tryd.isAgg64
  z53 := Tryd.sizeOf64
  v53 := Tryd.zeroValue64
  t75 := Tryd.underlying36
  a75 := Tryd.isAgg36
  z75 := Tryd.sizeOf36
  v75 := Tryd.zeroValue36
  t76 := Tryd.underlying37
  a76 := Tryd.isAgg37
  z76 := Tryd.sizeOf37
  v76 := Tryd.zeroValue37
  t85 := Tryd.underlying57
  a85 := Tryd.isAgg57
  z85 := Tryd.sizeOf57
  v85 := Tryd.zeroValue57
  t127 := Tryd.underlying62
  a127 := Tryd.isAgg62
  z127 := Tryd.sizeOf62
  v127 := Tryd.zeroValue62
  t143 := Tryd.underlying85
  a143 := Tryd.isAgg85
  z143 := Tryd.sizeOf85
  v143 := Tryd.zeroValue85
  t145 := Tryd.underlying87
  a145 := Tryd.isAgg87
  z145 := Tryd.sizeOf87
  v145 := Tryd.zeroValue87
  t167 := Tryd.underlying56
  a167 := Tryd.isAgg56
  z167 := Tryd.sizeOf56
  v167 := Tryd.zeroValue56
  t168 := Tryd.underlying59
  a168 := Tryd.isAgg59
  z168 := Tryd.sizeOf59
  v168 := Tryd.zeroValue59
  t171 := Tryd.underlying63
  a171 := Tryd.isAgg63
  z171 := Tryd.sizeOf63
  v171 := Tryd.zeroValue63
  t173 := Tryd.underlying67
  a173 := Tryd.isAgg67
  z173 := Tryd.sizeOf67
  v173 := Tryd.zeroValue67
  t175 := Tryd.underlying69
  a175 := Tryd.isAgg69
  z175 := Tryd.sizeOf69
  v175 := Tryd.zeroValue69
  t210 := Tryd.underlying73
  a210 := Tryd.isAgg73
  z210 := Tryd.sizeOf73
  v210 := Tryd.zeroValue73
  t212 := Tryd.underlying80
  a212 := Tryd.isAgg80
  z212 := Tryd.sizeOf80
  v212 := Tryd.zeroValue80
  t213 := Tryd.underlying82
  a213 := Tryd.isAgg82
  z213 := Tryd.sizeOf82
  t232 := Tryd.underlying89
  a232 := Tryd.isAgg89
  z232 := Tryd.sizeOf89
  v232 := Tryd.zeroValue89
  t233 := Tryd.underlying90
  a233 := Tryd.isAgg90
  z233 := Tryd.sizeOf90
  v233 := Tryd.zeroValue90
  g15 := by kernel_rfl
  g16 := by kernel_rfl
  g17 := by kernel_rfl
  g18 := by kernel_rfl
  g19 := by kernel_rfl
  t80 := Tryd.underlying54
  a80 := Tryd.isAgg54
  z80 := Tryd.sizeOf54
  v80 := Tryd.zeroValue54
  i0 := by kernel_rfl
  i2 := by kernel_rfl
  i3 := by kernel_rfl
  i4 := by kernel_rfl
  i5 := by kernel_rfl
  i9 := by kernel_rfl
  i20 := by kernel_rfl
  i21 := by kernel_rfl
  i37 := by kernel_rfl
  i46 := by kernel_rfl
  i51 := by kernel_rfl
  i53 := by kernel_rfl
  i75 := by kernel_rfl
  i76 := by kernel_rfl
  i80 := by kernel_rfl
  i85 := by kernel_rfl
  i127 := by kernel_rfl
  i143 := by kernel_rfl
  i145 := by kernel_rfl
  i167 := by kernel_rfl
  i168 := by kernel_rfl
  i171 := by kernel_rfl
  i173 := by kernel_rfl
  i175 := by kernel_rfl
  i210 := by kernel_rfl
  i212 := by kernel_rfl
  i232 := by kernel_rfl
  i233 := by kernel_rfl
  m15 := by kernel_rfl
  m16 := by kernel_rfl
  m17 := by kernel_rfl
  m18 := by kernel_rfl
  m19 := by kernel_rfl
  c0 := by kernel_rfl
  c2 := by kernel_rfl
  c3 := by kernel_rfl
  c4 := by kernel_rfl
  c5 := by kernel_rfl
  c9 := by kernel_rfl
  c20 := by kernel_rfl
  c21 := by kernel_rfl
  c37 := by kernel_rfl
  c46 := by kernel_rfl
  c51 := by kernel_rfl
  c53 := by kernel_rfl
  c75 := by kernel_rfl
  c76 := by kernel_rfl
  c80 := by kernel_rfl
  c85 := by kernel_rfl
  c127 := by kernel_rfl
  c143 := by kernel_rfl
  c145 := by kernel_rfl
  c167 := by kernel_rfl
  c168 := by kernel_rfl
  c171 := by kernel_rfl
  c173 := by kernel_rfl
  c175 := by kernel_rfl
  c210 := by kernel_rfl
  c212 := by kernel_rfl
  c213 := by kernel_rfl
  c232 := by kernel_rfl
  c233 := by kernel_rfl }
open Go.RowKit in
theorem Tryd.strconv_Atoi_ok (s : ByteArray) (hmax : s.size ≤ 9223372036854775806) (v : Int) (h : Lib.atoiAll s.data.toList = .ok v) (w : World) :
    Calls Tryd.prog 18 #[.string s] w fun e w' => e = .returned (.tuple #[.int .i64 v, .nilIface]) ∧ (w' = w ∨ ∃ t, w' = Lib.bytesWorld w 5 t) := Any.strconv_Atoi_ok Tryd.laysC172 s hmax v h w
open Go.RowKit in
theorem Tryd.strconv_Atoi_range_var (s : ByteArray) (hlim : s.size ≤ 281474976710656) (h : Lib.atoiAll s.data.toList = .range) (tp : TypeId) (p : Value) (w : World) (hvar : w.var? Tryd.prog "strconv.ErrRange" = some #[.iface tp p]) :
    Calls Tryd.prog 18 #[.string s] w fun e w' => ∃ N, e = .returned (.tuple #[.int .i64 (Lib.atoiSat s.data.toList), .iface 59 (.pointer (some ⟨N, 0, none⟩))]) ∧ w.heap.size ≤ N ∧ w'.heap[N]? = some (.cells #[.string ⟨#[65, 116, 111, 105]⟩, .string s, .iface tp p] 73 (0, 0)) ∧ Below w.heap.size w w' := Any.strconv_Atoi_range_var Tryd.laysC172 s hlim h tp p w hvar
end Go.Proofs
end
section
namespace Go.Proofs.YtbbegaofekahdaaDoor.P
open Go.RowKit Go.Proofs.YtbbegaofekahdaaDoorW.PrintWords Go.Proofs.YtbbegaofekahdaaDoorW.PrintLast Go.Proofs.YtbbegaofekahdaaDoorW.PrintMore
attribute [local go_sem] max2_int min2_int max_two min_two max_three min_three max_four min_four
set_option linter.unusedVariables false
set_option linter.unusedSimpArgs false
def errW : Option Int → Value
  | none => .nilIface
  | some c => .iface 56 (.int .i64 c)
theorem errW_none : errW none = .nilIface := rfl
theorem errW_some (c : Int) : errW (some c) = .iface 56 (.int .i64 c) := rfl
structure Tab0 (w : World) : Prop where mk :: (out : Lib.TabIs Tryd.prog w "internal/strconv.uint64pow10" .u64 Lib.pow10Tab)
theorem Tab0.below {w w' : World} (h : Tab0 w) (hb : Below w.heap.size w w') : Tab0 w' := ⟨(Lib.tabBelow_of_tabIs h.out) w' hb⟩
theorem Tab0.belowA {w w' : World} (h : Tab0 w) (hb : Aside0 (Below w.heap.size w w')) : Tab0 w' := h.below hb.out
theorem Tab0.drew {w : World} (h : Tab0 w) : Tab0 w.drew := ⟨h.out⟩
theorem Tab0.drewN {w : World} (h : Tab0 w) (n : Nat) : Tab0 (w.drewN n) := ⟨h.out⟩
theorem Tab0.alloc {w : World} (h : Tab0 w) (o : Obj) : Tab0 (w.alloc o) := h.below (Below.alloc (Below.refl _ _) (Nat.le_refl _) o)
def impl_FormatInt.f (a0 : Int) : Option ByteArray := if -9223372036854775808 ≤ a0 ∧ a0 ≤ 9223372036854775807 then some ⟨(Lib.itoa a0).toArray⟩ else none
set_option maxRecDepth 100000 in
theorem impl_FormatInt.calls (a0 : Int) (r : ByteArray) (w : World) (h : impl_FormatInt.f a0 = some r) (hT : Tab0 w := by first | assumption | (repeat (first | assumption | exact Tab0.belowA (by assumption) (by assumption) | apply Tab0.drew | apply Tab0.drewN | apply Tab0.alloc))) :
    Calls Tryd.prog 7 #[.int .i64 a0] w fun e w' => e = .returned (.string r) ∧ Below w.heap.size w w' := by
  unfold impl_FormatInt.f at h
  by_cases hc : -9223372036854775808 ≤ a0 ∧ a0 ≤ 9223372036854775807
  · rw [if_pos hc] at h
    obtain rfl := Option.some.inj h
    obtain ⟨h0, h1⟩ := hc
    go_enter Tryd.func7, Tryd.ntmps7
    go_wp2_with (go_at_call 16; refine (Tryd.strconv_Itoa a0 h0 h1 _ (by first | exact hT.out | exact hT.drew.out | exact (hT.drewN _).out)).mono ?_; rintro e w' ⟨rfl, k, os, rfl⟩)
    go_ret
    exact ⟨rfl, by first | exact Lib.below_grow _ _ (Nat.le_refl _) _ _ | exact (Below.refl _ _).trans (Lib.below_grow _ _ (Nat.le_refl _) _ _)⟩
  · rw [if_neg hc] at h
    exact absurd h (by simp)
mutual
def spec_FormatInt.l0 : Nat → Int → ByteArray → Option (ByteArray)
 | 0, _, _ => none
 | k + 1, x0, x3 => if x0 > 9 then ((some (([(wrap64 (48 + (Int.tmod x0 10))) % 256] : List Int) : List Int)).bind fun y108 => (if (strOfNums y108).size + x3.size ≤ 9223372036854775807 then (spec_FormatInt.l0 k (wrap64 (Int.tdiv x0 10)) ((strOfNums y108) ++ x3)) else (none))) else ((some (([(wrap64 (48 + x0)) % 256] : List Int) : List Int)).bind fun y111 => (if (strOfNums y111).size + x3.size ≤ 9223372036854775807 then (some ((strOfNums y111) ++ x3)) else (none)))
def spec_FormatInt.f : Nat → Int → Option (ByteArray)
 | 0, _ => none
 | k + 1, a0 => if a0 < 0 then (if (wrap64 (Int.tdiv a0 10)) = 0 then ((some (([(wrap64 (48 - a0)) % 256] : List Int) : List Int)).bind fun y101 => (if 1 + (strOfNums y101).size ≤ 9223372036854775807 then (some ((⟨#[45]⟩ : ByteArray) ++ (strOfNums y101))) else (none))) else ((spec_FormatInt.f k (wrap64 (Int.tdiv a0 10))).bind fun t104 => ((some (([(wrap64 (48 - (Int.tmod a0 10))) % 256] : List Int) : List Int)).bind fun y105 => (if t104.size + (strOfNums y105).size ≤ 9223372036854775807 then (some (t104 ++ (strOfNums y105))) else (none))))) else (spec_FormatInt.l0 k a0 (⟨#[]⟩ : ByteArray))
end
def spec_FormatInt.T4 : Bool × List (List Nat × List Nat) := (true, [([], []), ([0], [0]), ([1], [1]), ([], []), ([3], [3]), ([4], [4]), ([5], [5]), ([6], [6]), ([7], [7]), ([2, 8], [2, 8]), ([9, 2, 0, 1, 2, 3, 4, 5, 6, 7, 8, 9], [9])])
def spec_FormatInt.B4 : List Nat := [0, 1, 3, 0, 8, 24, 56, 120, 248, 511, 1023]
theorem spec_FormatInt.tab4 : rtab .any (opsOf Tryd.f6 4) = spec_FormatInt.T4 := by kernel_rfl
theorem spec_FormatInt.bits4 : waitsOk spec_FormatInt.T4.2 spec_FormatInt.B4 = true := by kernel_rfl
set_option maxHeartbeats 8000000 in
set_option maxRecDepth 100000 in
theorem spec_FormatInt.calls (k : Nat) : ∀ (a0 : Int) (r : ByteArray) (w : World) (h : spec_FormatInt.f k a0 = some r),
  Calls Tryd.prog 6 #[.int .i64 a0] w fun e w' => e = .returned (.string r) ∧ Below w.heap.size w w' := by
 induction k using Nat.strongRecOn with
 | _ k ih =>
 intro a0 r w h
 cases k with
 | zero => exact absurd h (by simp [spec_FormatInt.f])
 | succ k =>
 simp only [spec_FormatInt.f] at h
 have HB := Aside0.mk (Below.refl w.heap.size w)
 have H : (if a0 < 0 then (if (wrap64 (Int.tdiv a0 10)) = 0 then ((some (([(wrap64 (48 - a0)) % 256] : List Int) : List Int)).bind fun y101 => (if 1 + (strOfNums y101).size ≤ 9223372036854775807 then (some ((⟨#[45]⟩ : ByteArray) ++ (strOfNums y101))) else (none))) else ((spec_FormatInt.f k (wrap64 (Int.tdiv a0 10))).bind fun t104 => ((some (([(wrap64 (48 - (Int.tmod a0 10))) % 256] : List Int) : List Int)).bind fun y105 => (if t104.size + (strOfNums y105).size ≤ 9223372036854775807 then (some (t104 ++ (strOfNums y105))) else (none))))) else (spec_FormatInt.l0 k a0 (⟨#[]⟩ : ByteArray))) = some r := h
 clear h
 by_cases c2 : a0 < 0
 ·rw [if_pos c2] at H
  have c2b0 : decide (a0 < 0) = true := decide_eq_true c2
  clear c2
  by_cases c3 : (wrap64 (Int.tdiv a0 10)) = 0
  ·rw [if_pos c3] at H
   have c3b0 : ((wrap64 (Int.tdiv a0 10)) == 0) = true := beq_iff_eq.mpr c3
   have c3b1 : ((wrap64 (Int.tdiv a0 10)) != 0) = false := bne_eq_false_iff_eq.mpr c3
   clear c3
   obtain ⟨y101, hy101⟩ : ∃ y_ : List Int, y_ = (([(wrap64 (48 - a0)) % 256] : List Int)) := ⟨_, rfl⟩
   replace H : (if 1 + (strOfNums y101).size ≤ 9223372036854775807 then (some ((⟨#[45]⟩ : ByteArray) ++ (strOfNums y101))) else (none)) = some r := by first | (rw [hy101]; with_reducible exact H) | (have H2_ := (Option.bind_some _ _).symm.trans H; rw [hy101]; with_reducible exact H2_) | (have H2_ := (Option.bind_some _ _).symm.trans H; with_reducible exact H2_) | with_reducible exact H | (rw [hy101]; exact H) | exact H
   have Ny101 := Aside0.mk hy101
   clear hy101
   by_cases c4 : 1 + (strOfNums y101).size ≤ 9223372036854775807
   ·rw [if_pos c4] at H
    have c4b0 := eq_true c4
    have c4b1 : decide (1 + (strOfNums y101).size ≤ 9223372036854775807) = true := decide_eq_true c4
    try have c4b2 : (9223372036854775807 < 1 + (strOfNums y101).size) = False := eq_false (Nat.not_lt.2 c4)
    obtain rfl := Option.some.inj H
    go_enter Tryd.func6, Tryd.ntmps6
    go_wp2_with (first | ((with_reducible refine gate_dst (N := 12) rfl ?_); refine Kd.R_lit (Kd.int .u8) _ 5 ?hg (N := 12) ?hd (xs := ([(wrap64 (48 - a0)) % 256] : List Int)) (inner := [.int .u8 ((wrap64 (48 - a0)) % 256)]) (ok := fun _ => True) (okp := fun _ => True) ?hr ?hp (fun _ hk => hk) trivial (Below.refl _ _) (Nat.le_refl _) (by simp) ?_; (case hd => rfl); (case hg => rfl); (case hr => first | (go_simp; done) | (go_simp; rfl)); (case hp => exact (Reps.one (show Kd.M (Kd.int .u8) _ _ _ ((wrap64 (48 - a0)) % 256) [.int .u8 ((wrap64 (48 - a0)) % 256)] from rfl) (Reps.none _ _))); intro v102 w5 ho6 hb hg_ hnew_; clear hg_ hnew_; (first | rw [← Ny101.out] at ho6 | (simp only [Int.reduceToNat] at ho6; rw [← Ny101.out] at ho6)); have HO103 := Aside0.mk (Kd.R_lower ho6 (below_size (Lz HB))); replace HB := Aside0.mk (below_step (Lz HB) hb); clear hb ho6; have hcv7 := own_string (P := Tryd.prog) Tryd.underlying27 Tryd.underlying5 Tryd.underlying9 (Kd.own_of_R HO103.out)))
    go_ret
    exact ⟨by first | rfl | (simp [errW_none, errW_some] <;> rfl) | (simp [*, errW_none, errW_some] <;> rfl), by exact Lz HB⟩
   rw [if_neg c4] at H
   exact absurd H (by simp)
  rw [if_neg c3] at H
  have c3b0 : ((wrap64 (Int.tdiv a0 10)) == 0) = false := beq_eq_false_iff_ne.mpr c3
  have c3b1 : ((wrap64 (Int.tdiv a0 10)) != 0) = true := bne_iff_ne.mpr c3
  replace H := Option.bind_eq_some_iff.mp H
  obtain ⟨t104, A80, H⟩ := H
  replace H : ((some (([(wrap64 (48 - (Int.tmod a0 10))) % 256] : List Int) : List Int)).bind fun y105 => (if t104.size + (strOfNums y105).size ≤ 9223372036854775807 then (some (t104 ++ (strOfNums y105))) else (none))) = some r := H
  have A8 := Aside0.mk A80
  clear A80
  obtain ⟨y105, hy105⟩ : ∃ y_ : List Int, y_ = (([(wrap64 (48 - (Int.tmod a0 10))) % 256] : List Int)) := ⟨_, rfl⟩
  replace H : (if t104.size + (strOfNums y105).size ≤ 9223372036854775807 then (some (t104 ++ (strOfNums y105))) else (none)) = some r := by first | (rw [hy105]; with_reducible exact H) | (have H2_ := (Option.bind_some _ _).symm.trans H; rw [hy105]; with_reducible exact H2_) | (have H2_ := (Option.bind_some _ _).symm.trans H; with_reducible exact H2_) | with_reducible exact H | (rw [hy105]; exact H) | exact H
  have Ny105 := Aside0.mk hy105
  clear hy105
  by_cases c9 : t104.size + (strOfNums y105).size ≤ 9223372036854775807
  ·rw [if_pos c9] at H
   have c9b0 := eq_true c9
   have c9b1 : decide (t104.size + (strOfNums y105).size ≤ 9223372036854775807) = true := decide_eq_true c9
   try have c9b2 : (9223372036854775807 < t104.size + (strOfNums y105).size) = False := eq_false (Nat.not_lt.2 c9)
   obtain rfl := Option.some.inj H
   go_enter Tryd.func6, Tryd.ntmps6
   try go_wp2
   replace HB := Aside0.mk (below_drew1 HB.out)
   refine start_ (n := 11) (S := fun w' => True) (ds := []) #[false, false, false, false, false, false, false, false, false, false, false] (by kernel_rfl) rfl rfl trivial (fun hHeld => ?_); refine with_tabW spec_FormatInt.tab4 spec_FormatInt.bits4 (fun HT_ HW_ => ?_)
   generalize w.drew = w10 at HB hHeld ⊢
   refine pureT_ 0 15 HT_ ?_
   refine pureT_ 1 16 HT_ ?_
   refine pureT_ 3 18 HT_ ?_
   refine pureT_ 4 19 HT_ ?_
   refine pureT_ 5 20 HT_ ?_
   refine pureT_ 6 21 HT_ ?_
   refine join_ (σ := Value) 2 #[true, true, true, true, true, true, true, true, true, false, false] (fun s_ => [(17, .string t104), (22, s_), (23, .string (strOfNums y105))]) (fun s_ w' => (Kd.R (Kd.int .u8) 5 w' w.heap.size (fun _ => True) s_ y105) ∧ (Below w.heap.size w w')) ?_ ?_
   rotate_left
   ·intro hCont
    refine two_ (i := 2) (j := 7) (Ni := some 17) (Nj := some 22) #[true, true, true, true, true, true, true, false, false, false, false] #[true, true, false, true, true, true, true, true, false, false, false] rfl rfl rfl rfl (two_of HT_.out (by kernel_rfl)) (by decide) (by decide) (fun K hK => ?_) (fun K hK => ?_)
    ·skip
     refine goes_ Tryd.func6 (by kernel_rfl) rfl #[.int .i64 (wrap64 (Int.tdiv a0 10))] (by rfl) rfl rfl (by (try simp only [List.map_toArray, List.map_cons, List.map_nil]); first | done | rfl | (simp only [List.length_drop, List.length_take]; rfl)) ?_
     with_reducible refine (ih k (by omega) (wrap64 (Int.tdiv a0 10)) t104 _ A8.out).mono ?_
     rintro e w11 ⟨rfl, hb⟩
     refine ⟨_, rfl, ?_⟩
     replace HB := Aside0.mk (below_step (Lz HB) hb)
     (try clear hb)
     (try clear hb2)
     (try clear hk)
     (try clear hi)
     refine hK.out _ _ trivial (fun hHeld => ?_)
     clear hK K
     refine norm_ (a' := ?_) ?_ ?_
     rotate_left
     ·show Act.put _ (some 17) _ = _
      simp only [Act.put, List.setIfInBounds_toArray, List.set_cons_zero, List.set_cons_succ, i64_w, i32_w]
      rfl
     refine one_ (i := 7) (N := some 22) #[true, true, true, true, true, true, true, true, false, false, false] rfl rfl (one_of HT_.out (by kernel_rfl)) (by decide) (fun K hK => ?_)
     refine Kd.R_lit_step (Kd.int .u8) _ 5 ?hg (N := 22) ?hd (xs := ([(wrap64 (48 - (Int.tmod a0 10))) % 256] : List Int)) (inner := [.int .u8 ((wrap64 (48 - (Int.tmod a0 10))) % 256)]) (ok := fun _ => True) (okp := fun _ => True) ?hr ?hp (fun _ hk => hk) trivial (Below.refl _ _) (Nat.le_refl _) (by simp) ?_; (case hd => rfl); (case hg => rfl); (case hr => first | (go_simp; done) | (go_simp; rfl)); (case hp => exact (Reps.one (show Kd.M (Kd.int .u8) _ _ _ ((wrap64 (48 - (Int.tmod a0 10))) % 256) [.int .u8 ((wrap64 (48 - (Int.tmod a0 10))) % 256)] from rfl) (Reps.none _ _)))
     intro v106 w12 ho13 hb hg_ hnew_
     clear hg_ hnew_
     (first | rw [← Ny105.out] at ho13 | (simp only [Int.reduceToNat] at ho13; rw [← Ny105.out] at ho13))
     have HO107 := Aside0.mk (Kd.R_lower ho13 (below_size (Lz HB)))
     replace HB := Aside0.mk (below_step (Lz HB) hb)
     clear hb ho13
     refine hK.out _ _ trivial (fun hHeld => ?_)
     clear hK K
     refine norm_ (a' := ?_) ?_ ?_
     rotate_left
     ·show Act.put _ (some 22) _ = _
      simp only [Act.put, List.setIfInBounds_toArray, List.set_cons_zero, List.set_cons_succ, i64_w, i32_w]
      rfl
     refine one_ (i := 8) (N := some 23) #[true, true, true, true, true, true, true, true, true, false, false] rfl rfl (one_of HT_.out (by kernel_rfl)) (by decide) (fun K hK => ?_)
     have hcv14 := own_string (P := Tryd.prog) Tryd.underlying27 Tryd.underlying5 Tryd.underlying9 (Kd.own_of_R HO107.out)
     refine value_ (w1 := ?_) (v := ?_) (by rfl) rfl ?_ ?_
     rotate_left 2
     ·go_simp
      constructor
      ·rfl
      ·rfl
     clear hcv14
     refine hK.out _ _ trivial (fun hHeld => ?_)
     clear hK K
     refine norm_ (a' := ?_) ?_ ?_
     rotate_left
     ·show Act.put _ (some 23) _ = _
      simp only [Act.put, List.setIfInBounds_toArray, List.set_cons_zero, List.set_cons_succ, i64_w, i32_w]
      rfl
     exact norm_ (by simp only [putAll, Act.put, List.setIfInBounds_toArray, List.set_cons_zero, List.set_cons_succ]) (hCont (v106) _ ⟨(Rz HO107), (Lz HB)⟩)
    skip
    refine Kd.R_lit_step (Kd.int .u8) _ 5 ?hg (N := 22) ?hd (xs := ([(wrap64 (48 - (Int.tmod a0 10))) % 256] : List Int)) (inner := [.int .u8 ((wrap64 (48 - (Int.tmod a0 10))) % 256)]) (ok := fun _ => True) (okp := fun _ => True) ?hr ?hp (fun _ hk => hk) trivial (Below.refl _ _) (Nat.le_refl _) (by simp) ?_; (case hd => rfl); (case hg => rfl); (case hr => first | (go_simp; done) | (go_simp; rfl)); (case hp => exact (Reps.one (show Kd.M (Kd.int .u8) _ _ _ ((wrap64 (48 - (Int.tmod a0 10))) % 256) [.int .u8 ((wrap64 (48 - (Int.tmod a0 10))) % 256)] from rfl) (Reps.none _ _)))
    intro v106 w11 ho12 hb hg_ hnew_
    clear hg_ hnew_
    (first | rw [← Ny105.out] at ho12 | (simp only [Int.reduceToNat] at ho12; rw [← Ny105.out] at ho12))
    have HO107 := Aside0.mk (Kd.R_lower ho12 (below_size (Lz HB)))
    replace HB := Aside0.mk (below_step (Lz HB) hb)
    clear hb ho12
    refine hK.out _ _ trivial (fun hHeld => ?_)
    clear hK K
    refine norm_ (a' := ?_) ?_ ?_
    rotate_left
    ·show Act.put _ (some 22) _ = _
     simp only [Act.put, List.setIfInBounds_toArray, List.set_cons_zero, List.set_cons_succ, i64_w, i32_w]
     rfl
    refine two_ (i := 2) (j := 8) (Ni := some 17) (Nj := some 23) #[true, true, true, true, true, true, true, true, false, false, false] #[true, true, false, true, true, true, true, true, true, false, false] rfl rfl rfl rfl (two_of HT_.out (by kernel_rfl)) (by decide) (by decide) (fun K hK => ?_) (fun K hK => ?_)
    ·skip
     refine goes_ Tryd.func6 (by kernel_rfl) rfl #[.int .i64 (wrap64 (Int.tdiv a0 10))] (by rfl) rfl rfl (by (try simp only [List.map_toArray, List.map_cons, List.map_nil]); first | done | rfl | (simp only [List.length_drop, List.length_take]; rfl)) ?_
     with_reducible refine (ih k (by omega) (wrap64 (Int.tdiv a0 10)) t104 _ A8.out).mono ?_
     rintro e w13 ⟨rfl, hb⟩
     refine ⟨_, rfl, ?_⟩
     replace HO107 := Aside0.mk (Kd.R_below (Rz HO107) hb)
     replace HB := Aside0.mk (below_step (Lz HB) hb)
     (try clear hb)
     (try clear hb2)
     (try clear hk)
     (try clear hi)
     refine hK.out _ _ trivial (fun hHeld => ?_)
     clear hK K
     refine norm_ (a' := ?_) ?_ ?_
     rotate_left
     ·show Act.put _ (some 17) _ = _
      simp only [Act.put, List.setIfInBounds_toArray, List.set_cons_zero, List.set_cons_succ, i64_w, i32_w]
      rfl
     refine one_ (i := 8) (N := some 23) #[true, true, true, true, true, true, true, true, true, false, false] rfl rfl (one_of HT_.out (by kernel_rfl)) (by decide) (fun K hK => ?_)
     have hcv14 := own_string (P := Tryd.prog) Tryd.underlying27 Tryd.underlying5 Tryd.underlying9 (Kd.own_of_R HO107.out)
     refine value_ (w1 := ?_) (v := ?_) (by rfl) rfl ?_ ?_
     rotate_left 2
     ·go_simp
      constructor
      ·rfl
      ·rfl
     clear hcv14
     refine hK.out _ _ trivial (fun hHeld => ?_)
     clear hK K
     refine norm_ (a' := ?_) ?_ ?_
     rotate_left
     ·show Act.put _ (some 23) _ = _
      simp only [Act.put, List.setIfInBounds_toArray, List.set_cons_zero, List.set_cons_succ, i64_w, i32_w]
      rfl
     exact norm_ (by simp only [putAll, Act.put, List.setIfInBounds_toArray, List.set_cons_zero, List.set_cons_succ]) (hCont (v106) _ ⟨(Rz HO107), (Lz HB)⟩)
    skip
    have hcv13 := own_string (P := Tryd.prog) Tryd.underlying27 Tryd.underlying5 Tryd.underlying9 (Kd.own_of_R HO107.out)
    refine value_ (w1 := ?_) (v := ?_) (by rfl) rfl ?_ ?_
    rotate_left 2
    ·go_simp
     constructor
     ·rfl
     ·rfl
    clear hcv13
    refine hK.out _ _ trivial (fun hHeld => ?_)
    clear hK K
    refine norm_ (a' := ?_) ?_ ?_
    rotate_left
    ·show Act.put _ (some 23) _ = _
     simp only [Act.put, List.setIfInBounds_toArray, List.set_cons_zero, List.set_cons_succ, i64_w, i32_w]
     rfl
    refine one_ (i := 2) (N := some 17) #[true, true, true, true, true, true, true, true, true, false, false] rfl rfl (one_of HT_.out (by kernel_rfl)) (by decide) (fun K hK => ?_)
    refine goes_ Tryd.func6 (by kernel_rfl) rfl #[.int .i64 (wrap64 (Int.tdiv a0 10))] (by rfl) rfl rfl (by (try simp only [List.map_toArray, List.map_cons, List.map_nil]); first | done | rfl | (simp only [List.length_drop, List.length_take]; rfl)) ?_
    with_reducible refine (ih k (by omega) (wrap64 (Int.tdiv a0 10)) t104 _ A8.out).mono ?_
    rintro e w14 ⟨rfl, hb⟩
    refine ⟨_, rfl, ?_⟩
    replace HO107 := Aside0.mk (Kd.R_below (Rz HO107) hb)
    replace HB := Aside0.mk (below_step (Lz HB) hb)
    (try clear hb)
    (try clear hb2)
    (try clear hk)
    (try clear hi)
    refine hK.out _ _ trivial (fun hHeld => ?_)
    clear hK K
    refine norm_ (a' := ?_) ?_ ?_
    rotate_left
    ·show Act.put _ (some 17) _ = _
     simp only [Act.put, List.setIfInBounds_toArray, List.set_cons_zero, List.set_cons_succ, i64_w, i32_w]
     rfl
    exact norm_ (by simp only [putAll, Act.put, List.setIfInBounds_toArray, List.set_cons_zero, List.set_cons_succ]) (hCont (v106) _ ⟨(Rz HO107), (Lz HB)⟩)
   rintro v106 w15 ⟨h0_, h1_⟩
   have n0_ : Aside0 (Kd.R (Kd.int .u8) 5 w15 w.heap.size (fun _ => True) v106 y105) := ⟨h0_⟩
   have n1_ : Aside0 (Below w.heap.size w w15) := ⟨h1_⟩
   clear HB
   clear h0_ h1_
   have HO107 := n0_
   have HB := n1_
   clear n0_ n1_
   have hHeld := trivial
   refine norm_ (a' := ?_) ?_ ?_
   rotate_left
   ·simp only [putAll, Act.put, List.setIfInBounds_toArray, List.set_cons_zero, List.set_cons_succ]
    rfl
   refine pureT_ 9 24 HT_ ?_
   refine pureT_ 10 2 HT_ ?_
   refine done_ (done_of HT_.out (by kernel_rfl)) ?_
   try go_wp2
   go_ret
   exact ⟨by first | rfl | (simp [errW_none, errW_some] <;> rfl) | (simp [*, errW_none, errW_some] <;> rfl), by exact Lz HB⟩
  rw [if_neg c9] at H
  exact absurd H (by simp)
 rw [if_neg c2] at H
 have c2b0 : decide (a0 < 0) = false := decide_eq_false c2
 clear c2
 have H' := Aside0.mk H
 clear H
 go_enter Tryd.func6, Tryd.ntmps6
 go_wp2
 go_loopg [0, 3] k (fun kq v0 v3 w' => ∃ (x0_1 : Int) (x3_1 : ByteArray), v0 = .int .i64 x0_1 ∧ v3 = .string x3_1 ∧ Aside0 (spec_FormatInt.l0 kq x0_1 x3_1 = some r) ∧ Aside0 (kq ≤ k) ∧ Aside0 (Below w.heap.size w w'))
 case atStart => exact ⟨(a0), ((⟨#[]⟩ : ByteArray)), eqA, eqA, H', ⟨Nat.le_refl _⟩, ⟨by exact Lz HB⟩⟩
 case round =>
  clear H'
  try clear c2
  try clear c2b0
  try clear c3
  try clear c3b0
  try clear c3b1
  try clear c4
  try clear c4b0
  try clear c4b1
  try clear c4b2
  try clear c9
  try clear c9b0
  try clear c9b1
  try clear c9b2
  obtain ⟨x0_1, x3_1, rfl, rfl, HA, HK1, HB⟩ := hrel
  cases gk with
  | zero => exact absurd HA.out (by simp [spec_FormatInt.l0])
  | succ k1 =>
   have H := HA.out
   clear HA
   simp only [spec_FormatInt.l0] at H
   by_cases c16 : x0_1 > 9
   ·rw [if_pos c16] at H
    have c16b0 : decide (9 < x0_1) = true := decide_eq_true c16
    clear c16
    obtain ⟨y108, hy108⟩ : ∃ y_ : List Int, y_ = (([(wrap64 (48 + (Int.tmod x0_1 10))) % 256] : List Int)) := ⟨_, rfl⟩
    replace H : (if (strOfNums y108).size + x3_1.size ≤ 9223372036854775807 then (spec_FormatInt.l0 k1 (wrap64 (Int.tdiv x0_1 10)) ((strOfNums y108) ++ x3_1)) else (none)) = some r := by first | (rw [hy108]; with_reducible exact H) | (have H2_ := (Option.bind_some _ _).symm.trans H; rw [hy108]; with_reducible exact H2_) | (have H2_ := (Option.bind_some _ _).symm.trans H; with_reducible exact H2_) | with_reducible exact H | (rw [hy108]; exact H) | exact H
    have Ny108 := Aside0.mk hy108
    clear hy108
    by_cases c17 : (strOfNums y108).size + x3_1.size ≤ 9223372036854775807
    ·rw [if_pos c17] at H
     have c17b0 := eq_true c17
     have c17b1 : decide ((strOfNums y108).size + x3_1.size ≤ 9223372036854775807) = true := decide_eq_true c17
     try have c17b2 : (9223372036854775807 < (strOfNums y108).size + x3_1.size) = False := eq_false (Nat.not_lt.2 c17)
     have H' := Aside0.mk H
     clear H
     go_wp2_with (first | ((with_reducible refine gate_dst (N := 31) rfl ?_); refine Kd.R_lit (Kd.int .u8) _ 5 ?hg (N := 31) ?hd (xs := ([(wrap64 (48 + (Int.tmod x0_1 10))) % 256] : List Int)) (inner := [.int .u8 ((wrap64 (48 + (Int.tmod x0_1 10))) % 256)]) (ok := fun _ => True) (okp := fun _ => True) ?hr ?hp (fun _ hk => hk) trivial (Below.refl _ _) (Nat.le_refl _) (by simp) ?_; (case hd => rfl); (case hg => rfl); (case hr => first | (go_simp; done) | (go_simp; rfl)); (case hp => exact (Reps.one (show Kd.M (Kd.int .u8) _ _ _ ((wrap64 (48 + (Int.tmod x0_1 10))) % 256) [.int .u8 ((wrap64 (48 + (Int.tmod x0_1 10))) % 256)] from rfl) (Reps.none _ _))); intro v109 w18 ho19 hb hg_ hnew_; clear hg_ hnew_; (first | rw [← Ny108.out] at ho19 | (simp only [Int.reduceToNat] at ho19; rw [← Ny108.out] at ho19)); have HO110 := Aside0.mk (Kd.R_lower ho19 (below_size (Lz HB))); replace HB := Aside0.mk (below_step (Lz HB) hb); clear hb ho19; have hcv20 := own_string (P := Tryd.prog) Tryd.underlying27 Tryd.underlying5 Tryd.underlying9 (Kd.own_of_R HO110.out)))
     go_roundg k1
     case measure => have := HK1.out; omega
     case rel => exact ⟨(wrap64 (Int.tdiv x0_1 10)), ((strOfNums y108) ++ x3_1), eqA, eqA, H', ⟨by have := HK1.out; omega⟩, ⟨by exact Lz HB⟩⟩
    rw [if_neg c17] at H
    exact absurd H (by simp)
   rw [if_neg c16] at H
   have c16b0 : decide (9 < x0_1) = false := decide_eq_false c16
   clear c16
   obtain ⟨y111, hy111⟩ : ∃ y_ : List Int, y_ = (([(wrap64 (48 + x0_1)) % 256] : List Int)) := ⟨_, rfl⟩
   replace H : (if (strOfNums y111).size + x3_1.size ≤ 9223372036854775807 then (some ((strOfNums y111) ++ x3_1)) else (none)) = some r := by first | (rw [hy111]; with_reducible exact H) | (have H2_ := (Option.bind_some _ _).symm.trans H; rw [hy111]; with_reducible exact H2_) | (have H2_ := (Option.bind_some _ _).symm.trans H; with_reducible exact H2_) | with_reducible exact H | (rw [hy111]; exact H) | exact H
   have Ny111 := Aside0.mk hy111
   clear hy111
   by_cases c21 : (strOfNums y111).size + x3_1.size ≤ 9223372036854775807
   ·rw [if_pos c21] at H
    have c21b0 := eq_true c21
    have c21b1 : decide ((strOfNums y111).size + x3_1.size ≤ 9223372036854775807) = true := decide_eq_true c21
    try have c21b2 : (9223372036854775807 < (strOfNums y111).size + x3_1.size) = False := eq_false (Nat.not_lt.2 c21)
    obtain rfl := Option.some.inj H
    go_wp2_with (first | ((with_reducible refine gate_dst (N := 40) rfl ?_); refine Kd.R_lit (Kd.int .u8) _ 5 ?hg (N := 40) ?hd (xs := ([(wrap64 (48 + x0_1)) % 256] : List Int)) (inner := [.int .u8 ((wrap64 (48 + x0_1)) % 256)]) (ok := fun _ => True) (okp := fun _ => True) ?hr ?hp (fun _ hk => hk) trivial (Below.refl _ _) (Nat.le_refl _) (by simp) ?_; (case hd => rfl); (case hg => rfl); (case hr => first | (go_simp; done) | (go_simp; rfl)); (case hp => exact (Reps.one (show Kd.M (Kd.int .u8) _ _ _ ((wrap64 (48 + x0_1)) % 256) [.int .u8 ((wrap64 (48 + x0_1)) % 256)] from rfl) (Reps.none _ _))); intro v112 w22 ho23 hb hg_ hnew_; clear hg_ hnew_; (first | rw [← Ny111.out] at ho23 | (simp only [Int.reduceToNat] at ho23; rw [← Ny111.out] at ho23)); have HO113 := Aside0.mk (Kd.R_lower ho23 (below_size (Lz HB))); replace HB := Aside0.mk (below_step (Lz HB) hb); clear hb ho23; have hcv24 := own_string (P := Tryd.prog) Tryd.underlying27 Tryd.underlying5 Tryd.underlying9 (Kd.own_of_R HO113.out)))
    go_ret
    exact ⟨by first | rfl | (simp [errW_none, errW_some] <;> rfl) | (simp [*, errW_none, errW_some] <;> rfl), by exact Lz HB⟩
   rw [if_neg c21] at H
   exact absurd H (by simp)
def spec_IsDigits.l0 : Nat → ByteArray → Int → Option (Bool)
 | 0, _, _ => none
 | k + 1, x0, x3 => if x3 < (x0.size : Int) then (if 0 ≤ x3 then (if (bt x0 x3) < 48 then (some false) else (if (bt x0 x3) > 57 then (some false) else (spec_IsDigits.l0 k x0 (wrap64 (x3 + 1))))) else (none)) else (some (decide ((x0.size : Int) > 0)))
def spec_IsDigits.f (k : Nat) (a0 : ByteArray) : Option (Bool) := spec_IsDigits.l0 k a0 0
set_option maxHeartbeats 8000000 in
set_option maxRecDepth 100000 in
theorem spec_IsDigits.calls (k : Nat) (a0 : ByteArray) (r : Bool) (w : World) (h : spec_IsDigits.f k a0 = some r) :
  Calls Tryd.prog 17 #[.string a0] w fun e w' => e = .returned (.bool r) ∧ Drawn0 w w' := by
 have H : (spec_IsDigits.l0 k a0 0) = some r := h
 clear h
 have H' := Aside0.mk H
 clear H
 go_enter Tryd.func17, Tryd.ntmps17
 go_wp2
 go_loopg [3] k (fun kq v3 w' => ∃ (x3_1 : Int), v3 = .int .i64 x3_1 ∧ Aside0 (spec_IsDigits.l0 kq a0 x3_1 = some r) ∧ Aside0 (kq ≤ k) ∧ Drawn0 w w')
 case atStart => exact ⟨(0), eqA, H', ⟨Nat.le_refl _⟩, by repeat (first | exact Drawn0.refl _ | apply Drawn0.step)⟩
 case round =>
  clear H'
  obtain ⟨x3_1, rfl, HA, HK1, ⟨m1, rfl⟩⟩ := hrel
  cases gk with
  | zero => exact absurd HA.out (by simp [spec_IsDigits.l0])
  | succ k1 =>
   have H := HA.out
   clear HA
   simp only [spec_IsDigits.l0] at H
   by_cases c2 : x3_1 < (a0.size : Int)
   ·rw [if_pos c2] at H
    have c2b0 : decide (x3_1 < (a0.size : Int)) = true := decide_eq_true c2
    clear c2
    by_cases c3 : 0 ≤ x3_1
    ·rw [if_pos c3] at H
     have c3b0 : decide (0 ≤ x3_1) = true := decide_eq_true c3
     clear c3
     by_cases c5 : (bt a0 x3_1) < 48
     ·rw [if_pos c5] at H
      have c5b0 : decide ((bt a0 x3_1) < 48) = true := decide_eq_true c5
      clear c5
      obtain rfl := Option.some.inj H
      have p4 : 0 ≤ (x3_1 : Int) := ofA
      have q4 : x3_1 < (a0.size : Int) := ofA
      have hx4 := bt_at a0 x3_1
      replace p4 := eq_true p4
      replace q4 := eq_true q4
      go_wp2
      go_ret
      exact ⟨eqA, by repeat (first | exact Drawn0.refl _ | apply Drawn0.step)⟩
     rw [if_neg c5] at H
     have c5b0 : decide ((bt a0 x3_1) < 48) = false := decide_eq_false c5
     clear c5
     by_cases c7 : (bt a0 x3_1) > 57
     ·rw [if_pos c7] at H
      have c7b0 : decide (57 < (bt a0 x3_1)) = true := decide_eq_true c7
      clear c7
      obtain rfl := Option.some.inj H
      have p4 : 0 ≤ (x3_1 : Int) := ofA
      have q4 : x3_1 < (a0.size : Int) := ofA
      have hx4 := bt_at a0 x3_1
      replace p4 := eq_true p4
      replace q4 := eq_true q4
      have p6 : 0 ≤ (x3_1 : Int) := ofA
      have q6 : x3_1 < (a0.size : Int) := ofA
      have hx6 := bt_at a0 x3_1
      replace p6 := eq_true p6
      replace q6 := eq_true q6
      go_wp2
      go_ret
      exact ⟨eqA, by repeat (first | exact Drawn0.refl _ | apply Drawn0.step)⟩
     rw [if_neg c7] at H
     have c7b0 : decide (57 < (bt a0 x3_1)) = false := decide_eq_false c7
     clear c7
     have H' := Aside0.mk H
     clear H
     have p4 : 0 ≤ (x3_1 : Int) := ofA
     have q4 : x3_1 < (a0.size : Int) := ofA
     have hx4 := bt_at a0 x3_1
     replace p4 := eq_true p4
     replace q4 := eq_true q4
     have p6 : 0 ≤ (x3_1 : Int) := ofA
     have q6 : x3_1 < (a0.size : Int) := ofA
     have hx6 := bt_at a0 x3_1
     replace p6 := eq_true p6
     replace q6 := eq_true q6
     go_wp2
     go_roundg k1
     case measure => have := HK1.out; omega
     case rel => exact ⟨(wrap64 (x3_1 + 1)), eqA, H', ⟨by have := HK1.out; omega⟩, by repeat (first | exact Drawn0.refl _ | apply Drawn0.step)⟩
    rw [if_neg c3] at H
    exact absurd H (by simp)
   rw [if_neg c2] at H
   have c2b0 : decide (x3_1 < (a0.size : Int)) = false := decide_eq_false c2
   clear c2
   obtain rfl := Option.some.inj H
   go_wp2
   go_ret
   exact ⟨eqA, by repeat (first | exact Drawn0.refl _ | apply Drawn0.step)⟩
mutual
def spec_ParseInt.j0 : Nat → ByteArray → Bool → Option (Int × Bool)
 | 0, _, _ => none
 | k + 1, x0, x4 => if x4 = true then (if 1 ≤ (x0.size : Int) then (spec_ParseInt.j1 k x0 x4 (x0.extract 1 x0.size)) else (none)) else (spec_ParseInt.j1 k x0 x4 x0)
def spec_ParseInt.j1 : Nat → ByteArray → Bool → ByteArray → Option (Int × Bool)
 | 0, _, _, _ => none
 | k + 1, x0, x4, x5 => (spec_IsDigits.f k x5).bind fun t134 => (if t134 = true then (spec_ParseInt.j2 k x0 x4 x5 (decide ((x5.size : Int) > 19))) else (spec_ParseInt.j2 k x0 x4 x5 true))
def spec_ParseInt.j2 : Nat → ByteArray → Bool → ByteArray → Bool → Option (Int × Bool)
 | 0, _, _, _, _ => none
 | k + 1, x0, x4, x5, x28 => if x28 = true then (some (0, false)) else (spec_ParseInt.l0 k x0 x4 x5 0 0)
def spec_ParseInt.l0 : Nat → ByteArray → Bool → ByteArray → Int → Int → Option (Int × Bool)
 | 0, _, _, _, _, _ => none
 | k + 1, x0, x4, x5, x6, x7 => if x7 < (x5.size : Int) then (if 0 ≤ x7 then (if x6 < (wrap64 (Int.tdiv (wrap64 ((-9223372036854775808) + (wrap64 ((wrap64 (bt x5 x7)) - 48)))) 10)) then (some (0, false)) else (spec_ParseInt.l0 k x0 x4 x5 (wrap64 ((wrap64 (x6 * 10)) - (wrap64 ((wrap64 (bt x5 x7)) - 48)))) (wrap64 (x7 + 1)))) else (none)) else (if x4 = true then (spec_ParseInt.j4 k x0 x6) else (if x6 = (-9223372036854775808) then (some (0, false)) else (spec_ParseInt.j4 k x0 (wrap64 (-x6)))))
def spec_ParseInt.j4 : Nat → ByteArray → Int → Option (Int × Bool)
 | 0, _, _ => none
 | k + 1, x0, x6 => (spec_FormatInt.f k x6).bind fun t135 => (if t135.toList = x0.toList then (some (x6, true)) else (some (0, false)))
end
def spec_ParseInt.f (k : Nat) (a0 : ByteArray) : Option (Int × Bool) := if (a0.size : Int) > 0 then (if 0 < (a0.size : Int) then (spec_ParseInt.j0 k a0 ((bt a0 0) == 45)) else (none)) else (spec_ParseInt.j0 k a0 false)
set_option maxHeartbeats 8000000 in
set_option maxRecDepth 100000 in
theorem spec_ParseInt.calls (k : Nat) (a0 : ByteArray) (r1 : Int) (r2 : Bool) (w : World) (h : spec_ParseInt.f k a0 = some (r1, r2)) :
  Calls Tryd.prog 8 #[.string a0] w fun e w' => e = .returned (.tuple #[.int .i64 r1, .bool r2]) ∧ Below w.heap.size w w' := by
 have HB := Aside0.mk (Below.refl w.heap.size w)
 have H : (if (a0.size : Int) > 0 then (if 0 < (a0.size : Int) then (spec_ParseInt.j0 k a0 ((bt a0 0) == 45)) else (none)) else (spec_ParseInt.j0 k a0 false)) = some (r1, r2) := h
 clear h
 have HC2 := Aside0.mk H
 clear H
 go_enter Tryd.func8, Tryd.ntmps8
 go_upto_region 1 with (fail)
 go_cut [4] (fun v4 wc => ∃ (kq : Nat) (x4_1 : Bool), v4 = .bool x4_1 ∧ Aside0 (spec_ParseInt.j0 kq a0 x4_1 = some (r1, r2)) ∧ Aside0 (kq ≤ k) ∧ Aside0 (Below w.heap.size w wc))
 case first =>
  have H := HC2.out
  clear HC2
  by_cases c3 : (a0.size : Int) > 0
  ·rw [if_pos c3] at H
   have c3b0 : decide (0 < (a0.size : Int)) = true := decide_eq_true c3
   have c3b1 : decide (0 < a0.size) = true := decide_eq_true (by omega)
   clear c3
   (first | rw [c3b0] | (simp only [i64_w, i32_w]; rw [c3b0]) | skip)
   by_cases c4 : 0 < (a0.size : Int)
   ·rw [if_pos c4] at H
    have c4b0 : decide (0 < (a0.size : Int)) = true := decide_eq_true c4
    have c4b1 : decide (0 < a0.size) = true := decide_eq_true (by omega)
    clear c4
    have H' := Aside0.mk H
    clear H
    have p5 : 0 ≤ (0 : Int) := (by omega)
    have q5 : 0 < a0.size := (by have : (0 : Int) < (a0.size : Int) := ofA; omega)
    have hx5 : ∀ h : 0 < a0.size, ((a0[0]'h).toNat : Int) = bt a0 0 := bt_at a0 0
    clear p5
    have qi5 : (0 < (a0.size : Int)) = True := eq_true (ofA)
    replace q5 := eq_true q5
    go_wp2
    go_meet
    case rel => exact ⟨_, (((bt a0 0) == 45)), eqA, H', ⟨by first | omega | exact Nat.le_refl _⟩, ⟨by exact Lz HB⟩⟩
   rw [if_neg c4] at H
   exact absurd H (by simp)
  rw [if_neg c3] at H
  have c3b0 : decide (0 < (a0.size : Int)) = false := decide_eq_false c3
  have c3b1 : decide (0 < a0.size) = false := decide_eq_false (by omega)
  clear c3
  (first | rw [c3b0] | (simp only [i64_w, i32_w]; rw [c3b0]) | skip)
  have H' := Aside0.mk H
  clear H
  go_wp2
  go_meet
  case rel => exact ⟨_, (false), eqA, H', ⟨by first | omega | exact Nat.le_refl _⟩, ⟨by exact Lz HB⟩⟩
 case rest =>
  clear HC2
  try clear c3
  try clear c3b0
  try clear c3b1
  try clear c4
  try clear c4b0
  try clear c4b1
  try clear p5
  try clear q5
  try clear qi5
  try clear p5
  try clear q5
  obtain ⟨kq, x4_1, rfl, HA, HJ1, HB⟩ := hcut
  cases kq with
  | zero => exact absurd HA.out (by simp [spec_ParseInt.j0])
  | succ kj1 =>
   have H := HA.out
   clear HA
   simp only [spec_ParseInt.j0] at H
   have HC6 := Aside0.mk H
   clear H
   go_upto_if 18 with (fail)
   go_cut [5] (fun v5 wc => ∃ (kq : Nat) (x5_5 : ByteArray), v5 = .string x5_5 ∧ Aside0 (spec_ParseInt.j1 kq a0 x4_1 x5_5 = some (r1, r2)) ∧ Aside0 (kq ≤ kj1) ∧ Aside0 (Below w.heap.size w wc))
   case first =>
    have H := HC6.out
    clear HC6
    by_cases c7 : x4_1 = true
    ·subst c7
     have H1 : (if 1 ≤ (a0.size : Int) then (spec_ParseInt.j1 kj1 a0 true (a0.extract 1 a0.size)) else (none)) = some (r1, r2) := by rw [if_pos rfl] at H; exact H
     clear H
     have H := H1
     clear H1
     by_cases c8 : 1 ≤ (a0.size : Int)
     ·rw [if_pos c8] at H
      have c8b0 := eq_true c8
      have c8b1 : decide (1 ≤ (a0.size : Int)) = true := decide_eq_true c8
      clear c8
      have H' := Aside0.mk H
      clear H
      go_wp2
      go_meet
      case rel => exact ⟨_, (a0.extract 1 a0.size), eqA, H', ⟨by have := HJ1.out; first | omega | exact Nat.le_refl _⟩, ⟨by exact Lz HB⟩⟩
     rw [if_neg c8] at H
     exact absurd H (by simp)
    replace c7 := Bool.eq_false_iff.mpr c7
    subst c7
    have H1 : (spec_ParseInt.j1 kj1 a0 false a0) = some (r1, r2) := by rw [if_neg (show ¬ (false = true) by decide)] at H; exact H
    clear H
    have H := H1
    clear H1
    have H' := Aside0.mk H
    clear H
    go_wp2
    go_meet
    case rel => exact ⟨_, (a0), eqA, H', ⟨by have := HJ1.out; first | omega | exact Nat.le_refl _⟩, ⟨by exact Lz HB⟩⟩
   case rest =>
    clear HC6
    try clear c3
    try clear c3b0
    try clear c3b1
    try clear c4
    try clear c4b0
    try clear c4b1
    try clear p5
    try clear q5
    try clear qi5
    try clear c7
    try clear c8
    try clear c8b0
    try clear c8b1
    try clear p5
    try clear q5
    obtain ⟨kq, x5_5, rfl, HA, HJ5, HB⟩ := hcut
    cases kq with
    | zero => exact absurd HA.out (by simp [spec_ParseInt.j1])
    | succ kj5 =>
     have H := HA.out
     clear HA
     simp only [spec_ParseInt.j1] at H
     have HC9 := Aside0.mk H
     clear H
     go_upto_region 5 with (fail)
     go_cut [28] (fun v28 wc => ∃ (kq : Nat) (x28_8 : Bool), v28 = .bool x28_8 ∧ Aside0 (spec_ParseInt.j2 kq a0 x4_1 x5_5 x28_8 = some (r1, r2)) ∧ Aside0 (kq ≤ kj5) ∧ Aside0 (Below w.heap.size w wc))
     case first =>
      have H := HC9.out
      clear HC9
      replace H := Option.bind_eq_some_iff.mp H
      obtain ⟨t134, A100, H⟩ := H
      replace H : (if t134 = true then (spec_ParseInt.j2 kj5 a0 x4_1 x5_5 (decide ((x5_5.size : Int) > 19))) else (spec_ParseInt.j2 kj5 a0 x4_1 x5_5 true)) = some (r1, r2) := H
      have A10 := Aside0.mk A100
      clear A100
      by_cases c11 : t134 = true
      ·subst c11
       have H1 : (spec_ParseInt.j2 kj5 a0 x4_1 x5_5 (decide ((x5_5.size : Int) > 19))) = some (r1, r2) := by rw [if_pos rfl] at H; exact H
       clear H
       have H := H1
       clear H1
       have H' := Aside0.mk H
       clear H
       go_wp2_with (first | ((with_reducible refine gate_callee (f := 17) rfl ?_); refine goesM_ (some 22) rfl rfl Tryd.func17 (by kernel_rfl) rfl #[.string x5_5] rfl ?_; (with_reducible refine (spec_IsDigits.calls kj5 x5_5 true _ A10.out).mono ?_); rintro e w' ⟨rfl, ⟨nd, rfl⟩⟩; refine ⟨_, rfl, ?_⟩))
       go_meet
       case rel => exact ⟨_, (decide ((x5_5.size : Int) > 19)), eqA, H', ⟨by have := HJ1.out; have := HJ5.out; first | omega | exact Nat.le_refl _⟩, ⟨by exact Lz HB⟩⟩
      replace c11 := Bool.eq_false_iff.mpr c11
      subst c11
      have H1 : (spec_ParseInt.j2 kj5 a0 x4_1 x5_5 true) = some (r1, r2) := by rw [if_neg (show ¬ (false = true) by decide)] at H; exact H
      clear H
      have H := H1
      clear H1
      have H' := Aside0.mk H
      clear H
      go_wp2_with (first | ((with_reducible refine gate_callee (f := 17) rfl ?_); refine goesM_ (some 22) rfl rfl Tryd.func17 (by kernel_rfl) rfl #[.string x5_5] rfl ?_; (with_reducible refine (spec_IsDigits.calls kj5 x5_5 false _ A10.out).mono ?_); rintro e w' ⟨rfl, ⟨nd, rfl⟩⟩; refine ⟨_, rfl, ?_⟩))
      go_meet
      case rel => exact ⟨_, (true), eqA, H', ⟨by have := HJ1.out; have := HJ5.out; first | omega | exact Nat.le_refl _⟩, ⟨by exact Lz HB⟩⟩
     case rest =>
      clear HC9
      try clear c3
      try clear c3b0
      try clear c3b1
      try clear c4
      try clear c4b0
      try clear c4b1
      try clear p5
      try clear q5
      try clear qi5
      try clear c7
      try clear c8
      try clear c8b0
      try clear c8b1
      try clear c11
      try clear p5
      try clear q5
      obtain ⟨kq, x28_8, rfl, HA, HJ8, HB⟩ := hcut
      cases kq with
      | zero => exact absurd HA.out (by simp [spec_ParseInt.j2])
      | succ kj8 =>
       have H := HA.out
       clear HA
       simp only [spec_ParseInt.j2] at H
       by_cases c12 : x28_8 = true
       ·subst c12
        have H1 : (some (0, false)) = some (r1, r2) := by rw [if_pos rfl] at H; exact H
        clear H
        have H := H1
        clear H1
        simp only [Option.some.injEq, Prod.mk.injEq] at H
        obtain ⟨rfl, rfl⟩ := H
        go_wp2
        go_ret2
        exact ⟨by first | rfl | (simp [errW_none, errW_some] <;> rfl) | (simp [*, errW_none, errW_some] <;> rfl), by exact Lz HB⟩
       replace c12 := Bool.eq_false_iff.mpr c12
       subst c12
       have H1 : (spec_ParseInt.l0 kj8 a0 x4_1 x5_5 0 0) = some (r1, r2) := by rw [if_neg (show ¬ (false = true) by decide)] at H; exact H
       clear H
       have H := H1
       clear H1
       have H' := Aside0.mk H
       clear H
       go_wp2
       go_loopg [6, 7] kj8 (fun kq v6 v7 w' => ∃ (x6_4 : Int) (x7_4 : Int), v6 = .int .i64 x6_4 ∧ v7 = .int .i64 x7_4 ∧ Aside0 (spec_ParseInt.l0 kq a0 x4_1 x5_5 x6_4 x7_4 = some (r1, r2)) ∧ Aside0 (kq ≤ kj8) ∧ Aside0 (Below w.heap.size w w'))
       case atStart => exact ⟨(0), (0), eqA, eqA, H', ⟨Nat.le_refl _⟩, ⟨by exact Lz HB⟩⟩
       case round =>
        clear H'
        try clear c3
        try clear c3b0
        try clear c3b1
        try clear c4
        try clear c4b0
        try clear c4b1
        try clear p5
        try clear q5
        try clear qi5
        try clear c7
        try clear c8
        try clear c8b0
        try clear c8b1
        try clear c11
        try clear c12
        try clear p5
        try clear q5
        obtain ⟨x6_4, x7_4, rfl, rfl, HA, HK4, HB⟩ := hrel
        cases gk with
        | zero => exact absurd HA.out (by simp [spec_ParseInt.l0])
        | succ k4 =>
         have H := HA.out
         clear HA
         simp only [spec_ParseInt.l0] at H
         by_cases c13 : x7_4 < (x5_5.size : Int)
         ·rw [if_pos c13] at H
          have c13b0 : decide (x7_4 < (x5_5.size : Int)) = true := decide_eq_true c13
          clear c13
          by_cases c14 : 0 ≤ x7_4
          ·rw [if_pos c14] at H
           have c14b0 : decide (0 ≤ x7_4) = true := decide_eq_true c14
           clear c14
           by_cases c16 : x6_4 < (wrap64 (Int.tdiv (wrap64 ((-9223372036854775808) + (wrap64 ((wrap64 (bt x5_5 x7_4)) - 48)))) 10))
           ·rw [if_pos c16] at H
            have c16b0 : decide (x6_4 < (wrap64 (Int.tdiv (wrap64 ((-9223372036854775808) + (wrap64 ((wrap64 (bt x5_5 x7_4)) - 48)))) 10))) = true := decide_eq_true c16
            clear c16
            simp only [Option.some.injEq, Prod.mk.injEq] at H
            obtain ⟨rfl, rfl⟩ := H
            have p15 : 0 ≤ (x7_4 : Int) := ofA
            have q15 : x7_4 < (x5_5.size : Int) := ofA
            have hx15 := bt_at x5_5 x7_4
            replace p15 := eq_true p15
            replace q15 := eq_true q15
            go_wp2
            go_ret2
            exact ⟨by first | rfl | (simp [errW_none, errW_some] <;> rfl) | (simp [*, errW_none, errW_some] <;> rfl), by exact Lz HB⟩
           rw [if_neg c16] at H
           have c16b0 : decide (x6_4 < (wrap64 (Int.tdiv (wrap64 ((-9223372036854775808) + (wrap64 ((wrap64 (bt x5_5 x7_4)) - 48)))) 10))) = false := decide_eq_false c16
           clear c16
           have H' := Aside0.mk H
           clear H
           have p15 : 0 ≤ (x7_4 : Int) := ofA
           have q15 : x7_4 < (x5_5.size : Int) := ofA
           have hx15 := bt_at x5_5 x7_4
           replace p15 := eq_true p15
           replace q15 := eq_true q15
           go_wp2
           go_roundg k4
           case measure => have := HJ1.out; have := HJ5.out; have := HJ8.out; have := HK4.out; omega
           case rel => exact ⟨(wrap64 ((wrap64 (x6_4 * 10)) - (wrap64 ((wrap64 (bt x5_5 x7_4)) - 48)))), (wrap64 (x7_4 + 1)), eqA, eqA, H', ⟨by have := HJ1.out; have := HJ5.out; have := HJ8.out; have := HK4.out; omega⟩, ⟨by exact Lz HB⟩⟩
          rw [if_neg c14] at H
          exact absurd H (by simp)
         rw [if_neg c13] at H
         have c13b0 : decide (x7_4 < (x5_5.size : Int)) = false := decide_eq_false c13
         clear c13
         have HC17 := Aside0.mk H
         clear H
         go_upto_if 50 with (fail)
         go_cut [6] (fun v6 wc => ∃ (kq : Nat) (x6_16 : Int), v6 = .int .i64 x6_16 ∧ Aside0 (spec_ParseInt.j4 kq a0 x6_16 = some (r1, r2)) ∧ Aside0 (kq ≤ k4) ∧ Aside0 (Below w.heap.size w wc))
         case first =>
          have H := HC17.out
          clear HC17
          by_cases c18 : x4_1 = true
          ·subst c18
           have H1 : (spec_ParseInt.j4 k4 a0 x6_4) = some (r1, r2) := by rw [if_pos rfl] at H; exact H
           clear H
           have H := H1
           clear H1
           have H' := Aside0.mk H
           clear H
           go_wp2
           go_meet
           case rel => exact ⟨_, (x6_4), eqA, H', ⟨by have := HJ1.out; have := HJ5.out; have := HJ8.out; have := HK4.out; first | omega | exact Nat.le_refl _⟩, ⟨by exact Lz HB⟩⟩
          replace c18 := Bool.eq_false_iff.mpr c18
          subst c18
          have H1 : (if x6_4 = (-9223372036854775808) then (some (0, false)) else (spec_ParseInt.j4 k4 a0 (wrap64 (-x6_4)))) = some (r1, r2) := by rw [if_neg (show ¬ (false = true) by decide)] at H; exact H
          clear H
          have H := H1
          clear H1
          by_cases c19 : x6_4 = (-9223372036854775808)
          ·rw [if_pos c19] at H
           have c19b0 : (x6_4 == (-9223372036854775808)) = true := beq_iff_eq.mpr c19
           have c19b1 : (x6_4 != (-9223372036854775808)) = false := bne_eq_false_iff_eq.mpr c19
           clear c19
           (first | rw [c19b0] | (simp only [i64_w, i32_w]; rw [c19b0]) | skip)
           simp only [Option.some.injEq, Prod.mk.injEq] at H
           obtain ⟨rfl, rfl⟩ := H
           go_wp2
           go_ret2
           exact ⟨by first | rfl | (simp [errW_none, errW_some] <;> rfl) | (simp [*, errW_none, errW_some] <;> rfl), by exact Lz HB⟩
          rw [if_neg c19] at H
          have c19b0 : (x6_4 == (-9223372036854775808)) = false := beq_eq_false_iff_ne.mpr c19
          have c19b1 : (x6_4 != (-9223372036854775808)) = true := bne_iff_ne.mpr c19
          (first | rw [c19b0] | (simp only [i64_w, i32_w]; rw [c19b0]) | skip)
          have H' := Aside0.mk H
          clear H
          go_wp2
          go_meet
          case rel => exact ⟨_, (wrap64 (-x6_4)), eqA, H', ⟨by have := HJ1.out; have := HJ5.out; have := HJ8.out; have := HK4.out; first | omega | exact Nat.le_refl _⟩, ⟨by exact Lz HB⟩⟩
         case rest =>
          clear HC17
          try clear c3
          try clear c3b0
          try clear c3b1
          try clear c4
          try clear c4b0
          try clear c4b1
          try clear p5
          try clear q5
          try clear qi5
          try clear c7
          try clear c8
          try clear c8b0
          try clear c8b1
          try clear c11
          try clear c12
          try clear c13
          try clear c13b0
          try clear c14
          try clear c14b0
          try clear p15
          try clear q15
          try clear c16
          try clear c16b0
          try clear c18
          try clear c19
          try clear c19b0
          try clear c19b1
          try clear p15
          try clear p5
          try clear q15
          try clear q5
          obtain ⟨kq, x6_16, rfl, HA, HJ16, HB⟩ := hcut
          cases kq with
          | zero => exact absurd HA.out (by simp [spec_ParseInt.j4])
          | succ kj16 =>
           have H := HA.out
           clear HA
           simp only [spec_ParseInt.j4] at H
           replace H := Option.bind_eq_some_iff.mp H
           obtain ⟨t135, A200, H⟩ := H
           replace H : (if t135.toList = a0.toList then (some (x6_16, true)) else (some (0, false))) = some (r1, r2) := H
           have A20 := Aside0.mk A200
           clear A200
           by_cases c21 : t135.toList = a0.toList
           ·rw [if_pos c21] at H
            have c21b0 : (t135.toList == a0.toList) = true := beq_iff_eq.mpr c21
            have c21b1 : (t135.toList != a0.toList) = false := bne_eq_false_iff_eq.mpr c21
            clear c21
            simp only [Option.some.injEq, Prod.mk.injEq] at H
            obtain ⟨rfl, rfl⟩ := H
            go_wp2_with (first | ((with_reducible refine gate_callee (f := 6) rfl ?_); refine goesM_ (some 56) rfl rfl Tryd.func6 (by kernel_rfl) rfl #[.int .i64 x6_16] rfl ?_; (with_reducible refine (spec_FormatInt.calls kj16 x6_16 t135 _ A20.out).mono ?_); rintro e w22 ⟨rfl, hb⟩; refine ⟨_, rfl, ?_⟩; replace HB := Aside0.mk (below_step (Lz HB) hb); (try clear hb); (try clear hb2); (try clear hk); (try clear hi)))
            go_ret2
            exact ⟨by first | rfl | (simp [errW_none, errW_some] <;> rfl) | (simp [*, errW_none, errW_some] <;> rfl), by exact Lz HB⟩
           rw [if_neg c21] at H
           have c21b0 : (t135.toList == a0.toList) = false := beq_eq_false_iff_ne.mpr c21
           have c21b1 : (t135.toList != a0.toList) = true := bne_iff_ne.mpr c21
           simp only [Option.some.injEq, Prod.mk.injEq] at H
           obtain ⟨rfl, rfl⟩ := H
           go_wp2_with (first | ((with_reducible refine gate_callee (f := 6) rfl ?_); refine goesM_ (some 56) rfl rfl Tryd.func6 (by kernel_rfl) rfl #[.int .i64 x6_16] rfl ?_; (with_reducible refine (spec_FormatInt.calls kj16 x6_16 t135 _ A20.out).mono ?_); rintro e w23 ⟨rfl, hb⟩; refine ⟨_, rfl, ?_⟩; replace HB := Aside0.mk (below_step (Lz HB) hb); (try clear hb); (try clear hb2); (try clear hk); (try clear hi)))
           go_ret2
           exact ⟨by first | rfl | (simp [errW_none, errW_some] <;> rfl) | (simp [*, errW_none, errW_some] <;> rfl), by exact Lz HB⟩
theorem var_below {w w' : World} {name : String} {cs : Array Value} (h : w.var? Tryd.prog name = some cs) (hb : Below w.heap.size w w') : w'.var? Tryd.prog name = some cs := by
  unfold World.var? at *
  cases hg : Tryd.prog.globalNamed name with
  | none => simp [hg] at h
  | some g =>
    simp only [hg, Option.bind_some] at h ⊢
    rcases Nat.lt_or_ge g w.heap.size with hlt | hge
    · rw [hb.block g hlt]
      exact h
    · rw [Array.getElem?_eq_none hge] at h
      cases h
structure Err0 (w : World) : Prop where mk :: (out : (∃ tp p, w.var? Tryd.prog "strconv.ErrSyntax" = some #[.iface tp p]) ∧ ∃ tp p, w.var? Tryd.prog "strconv.ErrRange" = some #[.iface tp p])
theorem Err0.below {w w' : World} (h : Err0 w) (hb : Below w.heap.size w w') : Err0 w' := by
  obtain ⟨⟨t1, p1, h1⟩, ⟨t2, p2, h2⟩⟩ := h.out
  exact ⟨⟨t1, p1, var_below h1 hb⟩, ⟨t2, p2, var_below h2 hb⟩⟩
theorem Err0.belowA {w w' : World} (h : Err0 w) (hb : Aside0 (Below w.heap.size w w')) : Err0 w' := h.below hb.out
theorem Err0.drew {w : World} (h : Err0 w) : Err0 w.drew := ⟨h.out⟩
theorem Err0.drewN {w : World} (h : Err0 w) (n : Nat) : Err0 (w.drewN n) := ⟨h.out⟩
theorem Err0.alloc {w : World} (h : Err0 w) (o : Obj) : Err0 (w.alloc o) := h.below (Below.alloc (Below.refl _ _) (Nat.le_refl _) o)
def impl_ParseInt.f (l0 : ByteArray) : Option (Int × Bool) := if l0.size ≤ 281474976710656 then (match Lib.atoiAll l0.data.toList with | .ok n => if (⟨(Lib.itoa n).toArray⟩ : ByteArray).toList = l0.toList then some (n, true) else some (0, false) | _ => some (0, false)) else none
set_option maxHeartbeats 2000000 in
set_option maxRecDepth 100000 in
theorem impl_ParseInt.calls (l0 : ByteArray) (r1 : Int) (r2 : Bool) (w : World) (h : impl_ParseInt.f l0 = some (r1, r2)) (hT : Tab0 w := by first | assumption | (repeat (first | assumption | exact Tab0.belowA (by assumption) (by assumption) | apply Tab0.drew | apply Tab0.drewN | apply Tab0.alloc))) (hE : Err0 w := by first | assumption | (repeat (first | assumption | exact Err0.belowA (by assumption) (by assumption) | apply Err0.drew | apply Err0.drewN | apply Err0.alloc))) :
    Calls Tryd.prog 9 #[.string l0] w fun e w' => e = .returned (.tuple #[.int .i64 r1, .bool r2]) ∧ Below w.heap.size w w' := by
  unfold impl_ParseInt.f at h
  by_cases hc : l0.size ≤ 281474976710656
  · rw [if_pos hc] at h
    obtain ⟨⟨t1, p1, h1⟩, ⟨t2, p2, h2⟩⟩ := hE.out
    cases ha : Lib.atoiAll l0.data.toList
    case ok n =>
      rw [ha] at h
      simp only at h
      obtain ⟨b0, b1⟩ := Lib.atoiAll_bounds ha
      have hf : impl_FormatInt.f n = some ⟨(Lib.itoa n).toArray⟩ := by
        unfold impl_FormatInt.f
        rw [if_pos ⟨b0, b1⟩]
      have hst : ∀ w1, (w1 = w ∨ ∃ t, w1 = Lib.bytesWorld w 5 t) → Below w.heap.size w w1 := by
        rintro w1 (rfl | ⟨t, rfl⟩)
        · exact Below.refl _ _
        · exact Lib.bytesWorld_below _ _ _
      generalize (⟨(Lib.itoa n).toArray⟩ : ByteArray) = x at hf h
      have hT' := Aside0.mk hT
      have hH := Aside0.mk hst
      clear hst hT hE h1 h2
      by_cases hi : x.toList = l0.toList
      · rw [if_pos hi] at h
        simp only [Option.some.injEq, Prod.mk.injEq] at h
        obtain ⟨rfl, rfl⟩ := h
        have hi0 : (x.toList == l0.toList) = true := beq_iff_eq.mpr hi
        have hi1 : (x.toList != l0.toList) = false := bne_eq_false_iff_eq.mpr hi
        clear hi
        go_enter Tryd.func9, Tryd.ntmps9
        go_wp2_with (first | (go_at_call 18; refine (Tryd.strconv_Atoi_ok l0 (by omega) n ha _).mono ?_; rintro e w1 ⟨rfl, hw⟩; have hb1 := Aside0.mk (hH.out w1 (by first | exact hw | exact hw.imp (fun h => h) (fun h => h))); clear hw) | (go_at_call 7; refine (impl_FormatInt.calls n x _ hf (hT'.out.below hb1.out)).mono ?_; rintro e w2 ⟨rfl, hb2⟩))
        go_ret2
        exact ⟨rfl, hb1.out.trans (hb2.mono hb1.out.size)⟩
      · rw [if_neg hi] at h
        simp only [Option.some.injEq, Prod.mk.injEq] at h
        obtain ⟨rfl, rfl⟩ := h
        have hi0 : (x.toList == l0.toList) = false := beq_eq_false_iff_ne.mpr hi
        have hi1 : (x.toList != l0.toList) = true := bne_iff_ne.mpr hi
        clear hi
        go_enter Tryd.func9, Tryd.ntmps9
        go_wp2_with (first | (go_at_call 18; refine (Tryd.strconv_Atoi_ok l0 (by omega) n ha _).mono ?_; rintro e w1 ⟨rfl, hw⟩; have hb1 := Aside0.mk (hH.out w1 (by first | exact hw | exact hw.imp (fun h => h) (fun h => h))); clear hw) | (go_at_call 7; refine (impl_FormatInt.calls n x _ hf (hT'.out.below hb1.out)).mono ?_; rintro e w2 ⟨rfl, hb2⟩))
        go_ret2
        exact ⟨rfl, hb1.out.trans (hb2.mono hb1.out.size)⟩
    case range =>
      rw [ha] at h
      simp only [Option.some.injEq, Prod.mk.injEq] at h
      obtain ⟨rfl, rfl⟩ := h
      clear hT hE
      go_enter Tryd.func9, Tryd.ntmps9
      go_wp2_with (go_at_call 18; refine (Tryd.strconv_Atoi_range_var l0 hc ha t2 p2 _ h2).mono ?_; rintro e w1 ⟨N, rfl, -, -, hb⟩)
      go_ret2
      exact ⟨rfl, hb⟩
    rw [ha] at h
    simp only [Option.some.injEq, Prod.mk.injEq] at h
    obtain ⟨rfl, rfl⟩ := h
    clear hT hE
    go_enter Tryd.func9, Tryd.ntmps9
    go_wp2_with (go_at_call 18; refine (Any.strconv_Atoi_syntax_var Tryd.laysC172 l0 hc ha t1 p1 _ h1).mono ?_; rintro e w1 ⟨N, rfl, -, -, hb⟩)
    go_ret2
    exact ⟨rfl, hb⟩
  · rw [if_neg hc] at h
    exact absurd h (by simp)
def laws_FnExactParseInt.j0 : Nat → ByteArray → Option (Bool)
 | 0, _ => none
 | k + 1, x0 => (spec_ParseInt.f k x0).bind fun bt151 => ((impl_ParseInt.f x0).bind fun bt153 => (if bt153.1 = bt151.1 then (if (bt153.2 != bt151.2) = true then (some false) else (some true)) else (some false)))
def laws_FnExactParseInt.f (k : Nat) (a0 : ByteArray) : Option (Bool) := if (a0.size : Int) > 1048576 then (some true) else (laws_FnExactParseInt.j0 k a0)
set_option maxHeartbeats 8000000 in
set_option maxRecDepth 100000 in
theorem laws_FnExactParseInt.calls (k : Nat) (a0 : ByteArray) (r : Bool) (w : World) (hErr0_ : Err0 w) (hTab0_ : Tab0 w) (h : laws_FnExactParseInt.f k a0 = some r) (hR_ : r = true := by rfl) :
  Calls Tryd.prog 4 #[.string a0] w fun e w' => e = .returned (.bool r) ∧ Below w.heap.size w w' := by
 have HR_ := Aside0.mk hR_
 clear hR_
 have HB := Aside0.mk (Below.refl w.heap.size w)
 have H : (if (a0.size : Int) > 1048576 then (some true) else (laws_FnExactParseInt.j0 k a0)) = some r := h
 clear h
 have HC2 := Aside0.mk H
 clear H
 go_enter Tryd.func4, Tryd.ntmps4
 go_upto_if 9 with (fail)
 go_cut [] (fun wc => ∃ (kq : Nat), Aside0 (laws_FnExactParseInt.j0 kq a0 = some r) ∧ Aside0 (kq ≤ k) ∧ Aside0 (Below w.heap.size w wc))
 case first =>
  have H := HC2.out
  clear HC2
  by_cases c3 : (a0.size : Int) > 1048576
  ·rw [if_pos c3] at H
   have c3b0 : decide (1048576 < (a0.size : Int)) = true := decide_eq_true c3
   have c3b1 : decide (1048576 < a0.size) = true := decide_eq_true (by omega)
   clear c3
   (first | rw [c3b0] | (simp only [i64_w, i32_w]; rw [c3b0]) | skip)
   obtain rfl := Option.some.inj H
   go_wp2
   go_ret
   exact ⟨by first | rfl | (simp [errW_none, errW_some] <;> rfl) | (simp [*, errW_none, errW_some] <;> rfl), by exact Lz HB⟩
  rw [if_neg c3] at H
  have c3b0 : decide (1048576 < (a0.size : Int)) = false := decide_eq_false c3
  have c3b1 : decide (1048576 < a0.size) = false := decide_eq_false (by omega)
  clear c3
  (first | rw [c3b0] | (simp only [i64_w, i32_w]; rw [c3b0]) | skip)
  have H' := Aside0.mk H
  clear H
  go_wp2
  go_meet
  case rel => exact ⟨_, H', ⟨by first | omega | exact Nat.le_refl _⟩, ⟨by exact Lz HB⟩⟩
 case rest =>
  clear HC2
  try clear c3
  try clear c3b0
  try clear c3b1
  obtain ⟨kq, HA, HJ1, HB⟩ := hcut
  cases kq with
  | zero => exact absurd HA.out (by simp [laws_FnExactParseInt.j0])
  | succ kj1 =>
   have H := HA.out
   clear HA
   simp only [laws_FnExactParseInt.j0] at H
   replace H := Option.bind_eq_some_iff.mp H
   obtain ⟨⟨t151, t152⟩, A40, H⟩ := H
   replace H : ((impl_ParseInt.f a0).bind fun bt153 => (if bt153.1 = t151 then (if (bt153.2 != t152) = true then (some false) else (some true)) else (some false))) = some r := H
   have A4 := Aside0.mk A40
   clear A40
   replace H := Option.bind_eq_some_iff.mp H
   obtain ⟨⟨t153, t154⟩, A50, H⟩ := H
   replace H : (if t153 = t151 then (if (t154 != t152) = true then (some false) else (some true)) else (some false)) = some r := H
   have A5 := Aside0.mk A50
   clear A50
   by_cases c6 : t153 = t151
   ·rw [if_pos c6] at H
    have c6b0 : (t153 == t151) = true := beq_iff_eq.mpr c6
    have c6b1 : (t153 != t151) = false := bne_eq_false_iff_eq.mpr c6
    clear c6
    by_cases c7 : (t154 != t152) = true
    ·rw [if_pos c7] at H
     have c7b0 : (t154 != t152) = true := c7
     (try (have c7b1 : decide (t154 = t152) = false := by simpa using c7))
     (try (have c7b2 : (t154 == t152) = false := by simpa using c7))
     (try (have c7b3 : ¬ (t154 = t152) := by simpa using c7))
     clear c7
     obtain rfl := Option.some.inj H
     go_wp2_with (first | ((with_reducible refine gate_callee (f := 8) rfl ?_); refine goesM_ (some 12) rfl rfl Tryd.func8 (by kernel_rfl) rfl #[.string a0] rfl ?_; (with_reducible refine (spec_ParseInt.calls kj1 a0 t151 t152 _ A4.out).mono ?_); rintro e w8 ⟨rfl, hb⟩; refine ⟨_, rfl, ?_⟩; replace HB := Aside0.mk (below_step (Lz HB) hb); (try clear hb); (try clear hb2); (try clear hk); (try clear hi)) | ((with_reducible refine gate_callee (f := 9) rfl ?_); refine goesM_ (some 17) rfl rfl Tryd.func9 (by kernel_rfl) rfl #[.string a0] rfl ?_; (with_reducible refine (impl_ParseInt.calls a0 t153 t154 _ A5.out).mono ?_); rintro e w9 ⟨rfl, hb⟩; refine ⟨_, rfl, ?_⟩; replace HB := Aside0.mk (below_step (Lz HB) hb); (try clear hb); (try clear hb2); (try clear hk); (try clear hi)))
     go_ret
     exact ⟨by first | rfl | (simp [errW_none, errW_some] <;> rfl) | (simp [*, errW_none, errW_some] <;> rfl), by exact Lz HB⟩
    rw [if_neg c7] at H
    have c7b0 : (t154 != t152) = false := by simpa using c7
    (try (have c7b1 : decide (t154 = t152) = true := by simpa using c7))
    (try (have c7b2 : (t154 == t152) = true := by simpa using c7))
    clear c7
    obtain rfl := Option.some.inj H
    go_wp2_with (first | ((with_reducible refine gate_callee (f := 8) rfl ?_); refine goesM_ (some 12) rfl rfl Tryd.func8 (by kernel_rfl) rfl #[.string a0] rfl ?_; (with_reducible refine (spec_ParseInt.calls kj1 a0 t151 t152 _ A4.out).mono ?_); rintro e w10 ⟨rfl, hb⟩; refine ⟨_, rfl, ?_⟩; replace HB := Aside0.mk (below_step (Lz HB) hb); (try clear hb); (try clear hb2); (try clear hk); (try clear hi)) | ((with_reducible refine gate_callee (f := 9) rfl ?_); refine goesM_ (some 17) rfl rfl Tryd.func9 (by kernel_rfl) rfl #[.string a0] rfl ?_; (with_reducible refine (impl_ParseInt.calls a0 t153 t154 _ A5.out).mono ?_); rintro e w11 ⟨rfl, hb⟩; refine ⟨_, rfl, ?_⟩; replace HB := Aside0.mk (below_step (Lz HB) hb); (try clear hb); (try clear hb2); (try clear hk); (try clear hi)))
    go_ret
    exact ⟨by first | rfl | (simp [errW_none, errW_some] <;> rfl) | (simp [*, errW_none, errW_some] <;> rfl), by exact Lz HB⟩
   rw [if_neg c6] at H
   have c6b0 : (t153 == t151) = false := beq_eq_false_iff_ne.mpr c6
   have c6b1 : (t153 != t151) = true := bne_iff_ne.mpr c6
   exact absurd (Option.some.inj H) (by rw [HR_.out]; decide)
def laws_FnExactParseInt.Pure : Prop := ∀ (a0 : ByteArray), a0.size ≤ 140737488351232 → ∃ k, laws_FnExactParseInt.f k a0 = some true
end Go.Proofs.YtbbegaofekahdaaDoor.P
end
section
namespace Go.Proofs.YtbbegaofekahdaaDoor.Pure
open Go.RowKit Go.Proofs.YtbbegaofekahdaaDoor.P Go.Proofs.YtbbegaofekahdaaDoorW.PrintWords Go.Proofs.YtbbegaofekahdaaDoorW.PrintLast Go.Proofs.YtbbegaofekahdaaDoorW.PrintMore
def StatFnExactParseInt : Prop := ∀ (a0 : ByteArray), a0.size ≤ maxLen → ∃ k, laws_FnExactParseInt.f k a0 = some true
end Go.Proofs.YtbbegaofekahdaaDoor.Pure
end
section
set_option linter.unusedVariables false
set_option linter.unusedSimpArgs false
namespace Go.Proofs.YtbbegaofekahdaaDoor.Pure
open Go.RowKit Go.Proofs.YtbbegaofekahdaaDoor.P Go.Proofs.YtbbegaofekahdaaDoorW.PrintWords Go.Proofs.YtbbegaofekahdaaDoorW.PrintLast Go.Proofs.YtbbegaofekahdaaDoorW.PrintMore Go.Proofs.YtbbegaofekahdaaDoor.Base Go.Proofs.YtbbegaofekahdaaDoor.Loops
theorem fmt_ext {a b : ByteArray} (h : a.data.toList = b.data.toList) : a = b := by
  cases a; cases b
  simp only [ByteArray.mk.injEq]
  exact Array.toList_inj.mp h
theorem one_digit (d : Nat) (h : d < 10) (x : Int) (hx : x = 48 + (d : Int)) : strOfNums [x % 256] = ⟨[UInt8.ofNat (48 + d)].toArray⟩ := by
  subst hx
  rcases (show d = 0 ∨ d = 1 ∨ d = 2 ∨ d = 3 ∨ d = 4 ∨ d = 5 ∨ d = 6 ∨ d = 7 ∨ d = 8 ∨ d = 9 by omega) with rfl | rfl | rfl | rfl | rfl | rfl | rfl | rfl | rfl | rfl <;> rfl
theorem dec_le : ∀ (k u : Nat), u < 10 ^ (k + 1) → (Lib.decDigits u).length ≤ k + 1 := by
  intro k
  induction k with
  | zero =>
    intro u h
    rw [Lib.decDigits_one (by omega)]
    simp
  | succ k ih =>
    intro u h
    by_cases c : u < 10
    · rw [Lib.decDigits_one c]
      simp
    · rw [Lib.decDigits, dif_neg c, List.length_append]
      have := ih (u / 10) (by rw [Nat.pow_succ] at h; omega)
      simp only [List.length_singleton]
      omega
theorem fmt_pos (u : Nat) (acc : List UInt8) (hu : u < 9223372036854775808) (ha : acc.length ≤ 1000) (hl : (Lib.decDigits u).length + acc.length ≤ 1000) :
    Ev (fun k => spec_FormatInt.l0 k (u : Int) ⟨acc.toArray⟩) ⟨(Lib.decDigits u ++ acc).toArray⟩ := by
  induction u using Nat.strongRecOn generalizing acc with
  | _ u ih =>
    refine ev_succ ?_
    simp only [spec_FormatInt.l0, Option.bind_some]
    by_cases c : u < 10
    · have h1 : Lib.decDigits u = [UInt8.ofNat (48 + u)] := Lib.decDigits_one c
      have h2 : strOfNums [wrap64 (48 + (u : Int)) % 256] = ⟨[UInt8.ofNat (48 + u)].toArray⟩ := one_digit u c _ (by unfold wrap64; omega)
      rw [h1] at hl ⊢
      rw [h2]
      have hap : (⟨[UInt8.ofNat (48 + u)].toArray⟩ : ByteArray) ++ ⟨acc.toArray⟩ = ⟨([UInt8.ofNat (48 + u)] ++ acc).toArray⟩ := by
        apply fmt_ext
        simp [ByteArray.data_append]
      rw [hap]
      refine ev_ifn (by omega) (ev_ift ?_ (Ev.now _))
      show 1 + acc.length ≤ _
      omega
    · have h1 : Lib.decDigits u = Lib.decDigits (u / 10) ++ [UInt8.ofNat (48 + u % 10)] := by rw [Lib.decDigits, dif_neg c]
      have e1 : Int.tmod (u : Int) 10 = ((u % 10 : Nat) : Int) := by
        have := Int.ofNat_tmod u 10
        exact this.symm
      have e2 : Int.tdiv (u : Int) 10 = ((u / 10 : Nat) : Int) := by
        have := Int.ofNat_tdiv u 10
        exact this.symm
      have h2 : strOfNums [wrap64 (48 + ((u % 10 : Nat) : Int)) % 256] = ⟨[UInt8.ofNat (48 + u % 10)].toArray⟩ := one_digit (u % 10) (by omega) _ (by unfold wrap64; omega)
      rw [e1, e2, h2, show wrap64 ((u / 10 : Nat) : Int) = ((u / 10 : Nat) : Int) by unfold wrap64; omega]
      have hap : (⟨[UInt8.ofNat (48 + u % 10)].toArray⟩ : ByteArray) ++ ⟨acc.toArray⟩ = ⟨([UInt8.ofNat (48 + u % 10)] ++ acc).toArray⟩ := by
        apply fmt_ext
        simp [ByteArray.data_append]
      rw [hap, h1]
      rw [h1, List.length_append] at hl
      simp only [List.length_singleton] at hl
      have g := ih (u / 10) (by omega) ([UInt8.ofNat (48 + u % 10)] ++ acc) (by omega) (by simp; omega) (by simp; omega)
      rw [List.append_assoc]
      refine ev_ift (by omega) (ev_ift ?_ g)
      show 1 + acc.length ≤ _
      omega
theorem dec_len (u : Nat) (h : u ≤ 9223372036854775808) : (Lib.decDigits u).length ≤ 21 := by
  have := dec_le 19 u (by omega)
  omega
theorem fmt_neg (u : Nat) (h1 : 1 ≤ u) (hu : u ≤ 9223372036854775808) : Ev (fun k => spec_FormatInt.f k (-(u : Int))) ⟨(45 :: Lib.decDigits u).toArray⟩ := by
  induction u using Nat.strongRecOn with
  | _ u ih =>
    have e1 : Int.tmod (-(u : Int)) 10 = -((u % 10 : Nat) : Int) := by
      rw [Int.neg_tmod]
      show -(Int.tmod (u : Int) ((10 : Nat) : Int)) = _
      rw [← Int.ofNat_tmod]
    have e2 : Int.tdiv (-(u : Int)) 10 = -((u / 10 : Nat) : Int) := by
      rw [Int.neg_tdiv]
      show -(Int.tdiv (u : Int) ((10 : Nat) : Int)) = _
      rw [← Int.ofNat_tdiv]
    refine ev_succ ?_
    simp only [spec_FormatInt.f, Option.bind_some, e1, e2]
    rw [show wrap64 (-((u / 10 : Nat) : Int)) = -((u / 10 : Nat) : Int) by unfold wrap64; omega]
    by_cases c : u < 10
    · have hd : Lib.decDigits u = [UInt8.ofNat (48 + u)] := Lib.decDigits_one c
      have h2 : strOfNums [wrap64 (48 - -(u : Int)) % 256] = ⟨[UInt8.ofNat (48 + u)].toArray⟩ := one_digit u c _ (by unfold wrap64; omega)
      rw [hd, h2]
      have hap : (⟨#[45]⟩ : ByteArray) ++ ⟨[UInt8.ofNat (48 + u)].toArray⟩ = ⟨(45 :: [UInt8.ofNat (48 + u)]).toArray⟩ := by
        apply fmt_ext
        simp [ByteArray.data_append]
      rw [hap]
      refine ev_ift (by omega) (ev_ift (by omega) (ev_ift ?_ (Ev.now _)))
      show 1 + 1 ≤ _
      omega
    · have hd : Lib.decDigits u = Lib.decDigits (u / 10) ++ [UInt8.ofNat (48 + u % 10)] := by rw [Lib.decDigits, dif_neg c]
      have h2 : strOfNums [wrap64 (48 - -((u % 10 : Nat) : Int)) % 256] = ⟨[UInt8.ofNat (48 + u % 10)].toArray⟩ := one_digit (u % 10) (by omega) _ (by unfold wrap64; omega)
      have g := ih (u / 10) (by omega) (by omega) (by omega)
      have hl := dec_len (u / 10) (by omega)
      rw [hd, h2]
      have hap : (⟨(45 :: Lib.decDigits (u / 10)).toArray⟩ : ByteArray) ++ ⟨[UInt8.ofNat (48 + u % 10)].toArray⟩ = ⟨(45 :: (Lib.decDigits (u / 10) ++ [UInt8.ofNat (48 + u % 10)])).toArray⟩ := by
        apply fmt_ext
        simp [ByteArray.data_append]
      refine ev_ift (by omega) (ev_ifn (by omega) (Ev.bind g ?_))
      rw [hap]
      refine ev_ift ?_ (Ev.now _)
      show (45 :: Lib.decDigits (u / 10)).length + 1 ≤ _
      rw [List.length_cons]
      omega
theorem specFmt_ev (n : Int) (h0 : -9223372036854775808 ≤ n) (h1 : n ≤ 9223372036854775807) : Ev (fun k => spec_FormatInt.f k n) ⟨(Lib.itoa n).toArray⟩ := by
  by_cases c : n < 0
  · obtain ⟨u, rfl⟩ : ∃ u : Nat, n = -(u : Int) := ⟨n.natAbs, by omega⟩
    rw [Lib.itoa_neg u (by omega)]
    exact fmt_neg u (by omega) (by omega)
  · obtain ⟨u, rfl⟩ := Int.eq_ofNat_of_zero_le (show 0 ≤ n by omega)
    rw [Lib.itoa_nonneg u]
    have hl := dec_len u (by omega)
    have g := fmt_pos u [] (by omega) (by simp) (by simp; omega)
    rw [List.append_nil] at g
    refine ev_succ ?_
    simp only [spec_FormatInt.f]
    exact ev_ifn (by omega) g
theorem bt_list (t : ByteArray) (i : Nat) (c : UInt8) (r : List UInt8) (h : t.data.toList.drop i = c :: r) : i < t.size ∧ bt t (i : Int) = (c.toNat : Int) := by
  have hlt : i < t.data.toList.length := by
    rcases Nat.lt_or_ge i t.data.toList.length with h' | h'
    · exact h'
    · rw [List.drop_of_length_le h'] at h
      cases h
  have hlt2 : i < t.size := by simpa using hlt
  refine ⟨hlt2, ?_⟩
  have hc : t.data.toList[i] = c := by
    rw [List.drop_eq_getElem_cons hlt] at h
    exact (List.cons.inj h).1
  have hg : t[i]'hlt2 = c := by
    rw [← hc]
    simp
    rfl
  unfold bt
  rw [dif_pos (show ((i : Int)).toNat < t.size by simpa using hlt2)]
  simp only [Int.toNat_natCast]
  rw [hg]
def digs (l : List UInt8) : Prop := ∀ c ∈ l, 48 ≤ c.toNat ∧ c.toNat ≤ 57
def stepV (a : Nat) (c : UInt8) : Nat := a * 10 + (c.toNat - 48)
def valL (a : Nat) (l : List UInt8) : Nat := l.foldl stepV a
theorem valL_nil (a : Nat) : valL a [] = a := rfl
theorem valL_cons (a : Nat) (c : UInt8) (r : List UInt8) : valL a (c :: r) = valL (a * 10 + (c.toNat - 48)) r := by simp only [valL, List.foldl_cons, stepV]
theorem valL_ge (l : List UInt8) (a : Nat) : a ≤ valL a l := by
  induction l generalizing a with
  | nil =>
    rw [valL_nil]
    exact Nat.le_refl _
  | cons c r ih =>
    rw [valL_cons]
    exact Nat.le_trans (Nat.le_trans (Nat.le_mul_of_pos_right a (by decide)) (Nat.le_add_right _ _)) (ih _)
theorem valL_snoc (l : List UInt8) (a : Nat) (c : UInt8) : valL a (l ++ [c]) = valL a l * 10 + (c.toNat - 48) := by
  simp only [valL, List.foldl_append, List.foldl_cons, List.foldl_nil, stepV]
theorem digit_byte (d : Nat) (h : d < 10) : (UInt8.ofNat (48 + d)).toNat = 48 + d := by
  rcases (show d = 0 ∨ d = 1 ∨ d = 2 ∨ d = 3 ∨ d = 4 ∨ d = 5 ∨ d = 6 ∨ d = 7 ∨ d = 8 ∨ d = 9 by omega) with rfl | rfl | rfl | rfl | rfl | rfl | rfl | rfl | rfl | rfl <;> rfl
theorem val_dec (u : Nat) : valL 0 (Lib.decDigits u) = u ∧ digs (Lib.decDigits u) ∧ Lib.decDigits u ≠ [] := by
  induction u using Nat.strongRecOn with
  | _ u ih =>
    by_cases c : u < 10
    · rw [Lib.decDigits_one c]
      refine ⟨?_, ?_, by simp⟩
      · rw [valL_cons, valL_nil, digit_byte u c]; omega
      · intro x hx
        simp only [List.mem_singleton] at hx
        subst hx
        rw [digit_byte u c]
        omega
    · obtain ⟨h1, h2, _⟩ := ih (u / 10) (by omega)
      rw [Lib.decDigits, dif_neg c]
      refine ⟨?_, ?_, by simp⟩
      · rw [valL_snoc, h1, digit_byte (u % 10) (by omega)]
        omega
      · intro x hx
        rcases List.mem_append.1 hx with hx | hx
        · exact h2 x hx
        · simp only [List.mem_singleton] at hx
          subst hx
          rw [digit_byte (u % 10) (by omega)]
          omega
theorem isDig_ev (t : ByteArray) (hs : t.size < 4611686018427387904) : ∃ b : Bool, Ev (fun k => spec_IsDigits.f k t) b ∧ (b = true ↔ digs t.data.toList ∧ 0 < t.size) := by
  have main : ∀ (rest : List UInt8) (i : Nat), t.data.toList.drop i = rest → i ≤ t.size → ∃ b : Bool, Ev (fun k => spec_IsDigits.l0 k t (i : Int)) b ∧ (b = true ↔ digs rest ∧ 0 < t.size) := by
    intro rest
    induction rest with
    | nil =>
      intro i hd hi
      have : t.size ≤ i := by have := drop_nil hd; simpa using this
      refine ⟨decide ((t.size : Int) > 0), ev_succ ?_, ?_⟩
      · simp only [spec_IsDigits.l0]
        exact ev_ifn (by omega) (Ev.now _)
      · rw [decide_eq_true_eq]
        exact ⟨fun h => ⟨fun c hc => by simp at hc, by omega⟩, fun h => by have := h.2; omega⟩
    | cons c rest ih =>
      intro i hd hi
      obtain ⟨hlt, hb⟩ := bt_list t i c rest hd
      obtain ⟨b, g, gb⟩ := ih (i + 1) (drop_next hd) (by omega)
      by_cases c1 : c.toNat < 48
      · refine ⟨false, ev_succ ?_, ?_⟩
        · simp only [spec_IsDigits.l0, hb]
          exact ev_ift (by omega) (ev_ift (by omega) (ev_ift (by omega) (Ev.now _)))
        · exact ⟨(fun h => by cases h), fun h => by have := h.1 c (by simp); omega⟩
      · by_cases c2 : c.toNat > 57
        · refine ⟨false, ev_succ ?_, ?_⟩
          · simp only [spec_IsDigits.l0, hb]
            exact ev_ift (by omega) (ev_ift (by omega) (ev_ifn (by omega) (ev_ift (by omega) (Ev.now _))))
          · exact ⟨(fun h => by cases h), fun h => by have := h.1 c (by simp); omega⟩
        · refine ⟨b, ev_succ ?_, ?_⟩
          · simp only [spec_IsDigits.l0, hb, wrap_succ (show i < 4611686018427387904 by omega)]
            exact ev_ift (by omega) (ev_ift (by omega) (ev_ifn (by omega) (ev_ifn (by omega) g)))
          · rw [gb]
            refine ⟨fun h => ⟨fun x hx => ?_, h.2⟩, fun h => ⟨fun x hx => h.1 x (by simp [hx]), h.2⟩⟩
            rcases List.mem_cons.1 hx with rfl | hx
            · omega
            · exact h.1 x hx
  exact main _ 0 rfl (by omega)
def fin_ (s : ByteArray) (neg : Bool) (v : Nat) : Nat → Option (Int × Bool) := fun k => if neg = true then spec_ParseInt.j4 k s (-(v : Int)) else (if -(v : Int) = (-9223372036854775808) then (some (0, false)) else spec_ParseInt.j4 k s (wrap64 (- -(v : Int))))
theorem parse_loop (s t : ByteArray) (neg : Bool) (ht : t.size ≤ 1000) (hdg : digs t.data.toList) : ∀ (rest : List UInt8) (i m : Nat), t.data.toList.drop i = rest → i ≤ t.size → m ≤ 9223372036854775808 →
    (9223372036854775808 < valL m rest ∧ Ev (fun k => spec_ParseInt.l0 k s neg t (-(m : Int)) (i : Int)) (0, false)) ∨
    (valL m rest ≤ 9223372036854775808 ∧ ∀ R, Ev (fin_ s neg (valL m rest)) R → Ev (fun k => spec_ParseInt.l0 k s neg t (-(m : Int)) (i : Int)) R) := by
  intro rest
  induction rest with
  | nil =>
    intro i m hd hi hm
    have : t.size ≤ i := by have := drop_nil hd; simpa using this
    refine Or.inr ⟨hm, fun R hR => ev_succ ?_⟩
    simp only [spec_ParseInt.l0]
    exact ev_ifn (by omega) hR
  | cons c rest ih =>
    intro i m hd hi hm
    obtain ⟨hlt, hb⟩ := bt_list t i c rest hd
    obtain ⟨c0, c1⟩ := hdg c (by
      have : c ∈ t.data.toList.drop i := by rw [hd]; simp
      exact List.mem_of_mem_drop this)
    obtain ⟨d, hdd⟩ : ∃ d : Nat, c.toNat = 48 + d := ⟨c.toNat - 48, by omega⟩
    have hd9 : d ≤ 9 := by omega
    have e1 : wrap64 (wrap64 (bt t (i : Int)) - 48) = (d : Int) := by rw [hb, hdd]; unfold wrap64; omega
    have e2 : wrap64 ((-9223372036854775808) + (d : Int)) = -((9223372036854775808 - d : Nat) : Int) := by unfold wrap64; omega
    have e3 : Int.tdiv (-((9223372036854775808 - d : Nat) : Int)) 10 = -(((9223372036854775808 - d) / 10 : Nat) : Int) := by
      rw [Int.neg_tdiv]
      show -(Int.tdiv ((9223372036854775808 - d : Nat) : Int) ((10 : Nat) : Int)) = _
      rw [← Int.ofNat_tdiv]
    have e4 : wrap64 (-(((9223372036854775808 - d) / 10 : Nat) : Int)) = -(((9223372036854775808 - d) / 10 : Nat) : Int) := by unfold wrap64; omega
    have hv : valL m (c :: rest) = valL (m * 10 + d) rest := by rw [valL_cons, hdd, show 48 + d - 48 = d by omega]
    rw [hv]
    by_cases cc : (9223372036854775808 - d) / 10 < m
    · have hge := valL_ge rest (m * 10 + d)
      refine Or.inl ⟨by omega, ev_succ ?_⟩
      simp only [spec_ParseInt.l0, e1, e2, e3, e4]
      exact ev_ift (by omega) (ev_ift (by omega) (ev_ift (by omega) (Ev.now _)))
    · have e5 : wrap64 (wrap64 (-(m : Int) * 10) - (d : Int)) = -((m * 10 + d : Nat) : Int) := by unfold wrap64; omega
      rcases ih (i + 1) (m * 10 + d) (drop_next hd) (by omega) (by omega) with ⟨g0, g⟩ | ⟨g0, g⟩
      · refine Or.inl ⟨g0, ev_succ ?_⟩
        simp only [spec_ParseInt.l0, e1, e2, e3, e4, e5, wrap_succ (show i < 4611686018427387904 by omega)]
        exact ev_ift (by omega) (ev_ift (by omega) (ev_ifn (by omega) g))
      · refine Or.inr ⟨g0, fun R hR => ev_succ ?_⟩
        have h := g R hR
        simp only [spec_ParseInt.l0, e1, e2, e3, e4, e5, wrap_succ (show i < 4611686018427387904 by omega)]
        exact ev_ift (by omega) (ev_ift (by omega) (ev_ifn (by omega) h))
theorem toL (l : List UInt8) : (⟨l.toArray⟩ : ByteArray).toList = l := by rw [ByteArray.toList_eq]
theorem j4_ev (s : ByteArray) (x : Int) (h0 : -9223372036854775808 ≤ x) (h1 : x ≤ 9223372036854775807) : Ev (fun k => spec_ParseInt.j4 k s x) (if Lib.itoa x = s.data.toList then (x, true) else (0, false)) := by
  refine ev_succ ?_
  simp only [spec_ParseInt.j4]
  refine Ev.bind (specFmt_ev x h0 h1) ?_
  rw [toL, ByteArray.toList_eq]
  by_cases c : Lib.itoa x = s.data.toList
  · simp only [if_pos c]
    exact Ev.now _
  · simp only [if_neg c]
    exact Ev.now _
theorem j1_out (s t : ByteArray) (neg : Bool) (ht : t.size < 4611686018427387904) :
    (Ev (fun k => spec_ParseInt.j1 k s neg t) (0, false) ∧ ∀ u : Nat, t.data.toList = Lib.decDigits u → ¬ (if neg = true then u ≤ 9223372036854775808 else u < 9223372036854775808)) ∨
    (∃ v : Nat, (if neg = true then v ≤ 9223372036854775808 else v < 9223372036854775808) ∧ (∀ R, Ev (fun k => spec_ParseInt.j4 k s (if neg = true then -(v : Int) else (v : Int))) R → Ev (fun k => spec_ParseInt.j1 k s neg t) R) ∧ ∀ u : Nat, t.data.toList = Lib.decDigits u → u = v) := by
  obtain ⟨b, g, gb⟩ := isDig_ev t ht
  cases b with
  | false =>
    refine Or.inl ⟨ev_succ ?_, fun u hu hr => ?_⟩
    · simp only [spec_ParseInt.j1]
      refine Ev.bind g (ev_iff (ev_succ ?_))
      simp only [spec_ParseInt.j2]
      exact ev_ift (by first | rfl | trivial) (Ev.now _)
    · obtain ⟨_, d2, d3⟩ := val_dec u
      have : digs t.data.toList ∧ 0 < t.size := by
        rw [hu]
        refine ⟨d2, ?_⟩
        have hl : t.data.toList.length = t.size := by simp
        rw [hu] at hl
        cases hh : Lib.decDigits u with
        | nil => exact absurd hh d3
        | cons a r => rw [hh] at hl; simp at hl; omega
      have := gb.2 this
      cases this
  | true =>
    obtain ⟨hdg, h0⟩ := gb.1 rfl
    have hl : t.data.toList.length = t.size := by simp
    by_cases h19 : t.size > 19
    · refine Or.inl ⟨ev_succ ?_, fun u hu hr => ?_⟩
      · simp only [spec_ParseInt.j1]
        refine Ev.bind g (ev_ift (by first | rfl | trivial) (ev_succ ?_))
        simp only [spec_ParseInt.j2]
        exact ev_ift (by simp; omega) (Ev.now _)
      · have hu' : u ≤ 9223372036854775808 := by split at hr <;> omega
        have := dec_le 18 u (by omega)
        rw [hu] at hl
        omega
    · have j2 : ∀ R, Ev (fun k => spec_ParseInt.l0 k s neg t (-((0 : Nat) : Int)) ((0 : Nat) : Int)) R → Ev (fun k => spec_ParseInt.j1 k s neg t) R := fun R hR => ev_succ (by
        simp only [spec_ParseInt.j1]
        refine Ev.bind g (ev_ift (by first | rfl | trivial) (ev_succ ?_))
        simp only [spec_ParseInt.j2]
        exact ev_ifn (by simp; omega) hR)
      rcases parse_loop s t neg (by omega) hdg t.data.toList 0 0 rfl (by omega) (by omega) with ⟨g0, g1⟩ | ⟨g0, g1⟩
      · refine Or.inl ⟨j2 _ g1, fun u hu hr => ?_⟩
        have hu' : u ≤ 9223372036854775808 := by split at hr <;> omega
        rw [hu, (val_dec u).1] at g0
        omega
      · generalize hv : valL 0 t.data.toList = v at g0 g1
        have huv : ∀ u : Nat, t.data.toList = Lib.decDigits u → u = v := fun u hu => by rw [← hv, hu, (val_dec u).1]
        cases neg with
        | true =>
          refine Or.inr ⟨v, by simpa using g0, fun R hR => j2 R (g1 R ?_), huv⟩
          unfold fin_
          simpa using hR
        | false =>
          by_cases hm : v = 9223372036854775808
          · refine Or.inl ⟨j2 _ (g1 _ ?_), fun u hu hr => ?_⟩
            · unfold fin_
              exact ev_iff (ev_ift (by omega) (Ev.now _))
            · have := huv u hu
              simp at hr
              omega
          · refine Or.inr ⟨v, by simp; omega, fun R hR => j2 R (g1 R ?_), huv⟩
            unfold fin_
            rw [show wrap64 (- -(v : Int)) = (v : Int) by unfold wrap64; omega]
            simp only [Bool.false_eq_true, if_false] at hR
            exact ev_iff (ev_ifn (by omega) hR)
theorem itoa_cases (n : Int) : (∃ u : Nat, 1 ≤ u ∧ n = -(u : Int) ∧ Lib.itoa n = 45 :: Lib.decDigits u) ∨ (∃ u : Nat, n = (u : Int) ∧ Lib.itoa n = Lib.decDigits u) := by
  by_cases c : n < 0
  · obtain ⟨u, rfl⟩ : ∃ u : Nat, n = -(u : Int) := ⟨n.natAbs, by omega⟩
    exact Or.inl ⟨u, by omega, rfl, Lib.itoa_neg u (by omega)⟩
  · obtain ⟨u, rfl⟩ := Int.eq_ofNat_of_zero_le (show 0 ≤ n by omega)
    exact Or.inr ⟨u, rfl, Lib.itoa_nonneg u⟩
theorem dec_head (u : Nat) : ∃ c r, Lib.decDigits u = c :: r ∧ 48 ≤ c.toNat ∧ c.toNat ≤ 57 := by
  obtain ⟨_, h2, h3⟩ := val_dec u
  cases hh : Lib.decDigits u with
  | nil => exact absurd hh h3
  | cons c r =>
    have := h2 c (by rw [hh]; simp)
    exact ⟨c, r, rfl, this⟩
theorem extract1 (s : ByteArray) : (s.extract 1 s.size).data.toList = s.data.toList.drop 1 := by
  rw [ByteArray.data_extract, Array.toList_extract]
  simp [List.extract]
  rw [List.take_of_length_le (by simp)]
theorem specParse_ev (s : ByteArray) (hs : s.size < 4611686018427387904) :
    (∀ n : Int, -9223372036854775808 ≤ n → n ≤ 9223372036854775807 → Lib.itoa n = s.data.toList → Ev (fun k => spec_ParseInt.f k s) (n, true)) ∧
    ((∀ n : Int, -9223372036854775808 ≤ n → n ≤ 9223372036854775807 → Lib.itoa n ≠ s.data.toList) → Ev (fun k => spec_ParseInt.f k s) (0, false)) := by
  have hl : s.data.toList.length = s.size := by simp
  obtain ⟨neg, t, ht, e, hneg⟩ : ∃ (neg : Bool) (t : ByteArray), t.size < 4611686018427387904 ∧ (∀ R, Ev (fun k => spec_ParseInt.j1 k s neg t) R → Ev (fun k => spec_ParseInt.f k s) R) ∧
      (neg = true ∧ s.data.toList = 45 :: t.data.toList ∨ neg = false ∧ t = s ∧ ∀ r, s.data.toList ≠ 45 :: r) := by
    cases hh : s.data.toList with
    | nil =>
      have h0 : s.size = 0 := by rw [hh] at hl; simpa using hl.symm
      refine ⟨false, s, hs, fun R hR => ?_, Or.inr ⟨rfl, rfl, fun r => by simp⟩⟩
      simp only [spec_ParseInt.f]
      refine ev_ifn (by omega) (ev_succ ?_)
      simp only [spec_ParseInt.j0]
      exact ev_iff hR
    | cons c r =>
      obtain ⟨h0, hb⟩ := bt_list s 0 c r (by rw [List.drop_zero]; exact hh)
      rw [show ((0 : Nat) : Int) = 0 from rfl] at hb
      by_cases hc : c = 45
      · subst hc
        refine ⟨true, s.extract 1 s.size, ?_, fun R hR => ?_, Or.inl ⟨rfl, ?_⟩⟩
        · rw [ByteArray.size_extract]; omega
        · simp only [spec_ParseInt.f, hb]
          refine ev_ift (by omega) (ev_ift (by omega) (ev_succ ?_))
          simp only [spec_ParseInt.j0]
          exact ev_ift (by first | rfl | decide) (ev_ift (by omega) hR)
        · rw [extract1, hh]; rfl
      · refine ⟨false, s, hs, fun R hR => ?_, Or.inr ⟨rfl, rfl, fun r' h => hc (List.cons.inj h).1⟩⟩
        simp only [spec_ParseInt.f, hb]
        have hne : ((c.toNat : Int) == 45) = false := by
          apply beq_eq_false_iff_ne.mpr
          intro h
          apply hc
          have h' : c.toNat = 45 := by omega
          exact UInt8.toNat_inj.mp (by rw [h']; rfl)
        rw [hne]
        refine ev_ift (by omega) (ev_ift (by omega) (ev_succ ?_))
        simp only [spec_ParseInt.j0]
        exact ev_iff hR
  rcases j1_out s t neg ht with ⟨g, gn⟩ | ⟨v, hv, g, gu⟩
  · refine ⟨fun n n0 n1 hn => ?_, fun _ => e _ g⟩
    exfalso
    rcases itoa_cases n with ⟨u, u1, rfl, hu⟩ | ⟨u, rfl, hu⟩
    · rcases hneg with ⟨rfl, hL⟩ | ⟨rfl, rfl, hL⟩
      · rw [hn, hL] at hu
        exact gn u (List.cons.inj hu).2 (by simp; omega)
      · exact hL _ (hn.symm.trans hu)
    · rcases hneg with ⟨rfl, hL⟩ | ⟨rfl, rfl, hL⟩
      · obtain ⟨c, r, hcr, c0, c1⟩ := dec_head u
        rw [hn, hL, hcr] at hu
        have := (List.cons.inj hu).1
        subst this
        simp at c0
      · exact gn u (hn.symm.trans hu) (by simp; omega)
  · have hx : -9223372036854775808 ≤ (if neg = true then -(v : Int) else (v : Int)) ∧ (if neg = true then -(v : Int) else (v : Int)) ≤ 9223372036854775807 := by
      cases neg with
      | true => simp at hv ⊢; omega
      | false => simp at hv ⊢; omega
    have j := e _ (g _ (j4_ev s _ hx.1 hx.2))
    refine ⟨fun n n0 n1 hn => ?_, fun hno => ?_⟩
    · have hnx : (if neg = true then -(v : Int) else (v : Int)) = n := by
        rcases itoa_cases n with ⟨u, u1, rfl, hu⟩ | ⟨u, rfl, hu⟩
        · rcases hneg with ⟨rfl, hL⟩ | ⟨rfl, rfl, hL⟩
          · rw [hn, hL] at hu
            have := gu u (List.cons.inj hu).2
            subst this
            rfl
          · exact absurd (hn.symm.trans hu) (hL _)
        · rcases hneg with ⟨rfl, hL⟩ | ⟨rfl, rfl, hL⟩
          · obtain ⟨c, r, hcr, c0, c1⟩ := dec_head u
            rw [hn, hL, hcr] at hu
            have := (List.cons.inj hu).1
            subst this
            simp at c0
          · have := gu u (hn.symm.trans hu)
            subst this
            rfl
      rw [hnx, if_pos hn] at j
      exact j
    · rw [if_neg (hno _ hx.1 hx.2)] at j
      exact j
theorem pu_ok : ∀ (l : List UInt8) (a : Nat), digs l → valL a l < 18446744073709551616 → Lib.parseUint10 a l = .ok (valL a l) := by
  intro l
  induction l with
  | nil => intro a _ _; rfl
  | cons c r ih =>
    intro a hd hv
    have hc := hd c (by simp)
    have hge := valL_ge r (a * 10 + (c.toNat - 48))
    rw [valL_cons] at hv ⊢
    simp only [Lib.parseUint10]
    rw [if_pos hc, if_neg (by omega), if_neg (by omega)]
    exact ih _ (fun x hx => hd x (by simp [hx])) hv
theorem mag_dec (u : Nat) (h : u < 18446744073709551616) : Lib.parseMag (Lib.decDigits u) = .ok u := by
  obtain ⟨h1, h2, h3⟩ := val_dec u
  unfold Lib.parseMag
  rw [if_neg h3, pu_ok _ _ h2 (by rw [h1]; exact h), h1]
theorem atoi_itoa (n : Int) (h0 : -9223372036854775808 ≤ n) (h1 : n ≤ 9223372036854775807) : Lib.atoiAll (Lib.itoa n) = .ok n := by
  rcases itoa_cases n with ⟨u, u1, rfl, hu⟩ | ⟨u, rfl, hu⟩
  · rw [hu, Lib.atoiAll_minus, mag_dec u (by omega)]
    unfold Lib.signed
    simp
    omega
  · obtain ⟨c, r, hcr, c0, c1⟩ := dec_head u
    rw [hu, hcr, Lib.atoiAll_plain c r (by omega) (by omega), ← hcr, mag_dec u (by omega)]
    unfold Lib.signless
    simp
    omega
theorem implParse_eq (s : ByteArray) (hs : s.size ≤ 281474976710656) :
    (∀ n : Int, -9223372036854775808 ≤ n → n ≤ 9223372036854775807 → Lib.itoa n = s.data.toList → impl_ParseInt.f s = some (n, true)) ∧
    ((∀ n : Int, -9223372036854775808 ≤ n → n ≤ 9223372036854775807 → Lib.itoa n ≠ s.data.toList) → impl_ParseInt.f s = some (0, false)) := by
  unfold impl_ParseInt.f
  rw [if_pos hs]
  refine ⟨fun n h0 h1 hn => ?_, fun hno => ?_⟩
  · rw [← hn, atoi_itoa n h0 h1]
    simp only
    rw [toL, ByteArray.toList_eq, if_pos hn]
  · cases ha : Lib.atoiAll s.data.toList
    case ok v =>
      obtain ⟨b0, b1⟩ := Lib.atoiAll_bounds ha
      simp only
      rw [toL, ByteArray.toList_eq, if_neg (hno v b0 b1)]
    all_goals rfl
theorem parse_both (s : ByteArray) (hs : s.size ≤ 281474976710656) : ∃ (n : Int) (b : Bool), Ev (fun k => spec_ParseInt.f k s) (n, b) ∧ impl_ParseInt.f s = some (n, b) := by
  obtain ⟨i1, i2⟩ := implParse_eq s hs
  obtain ⟨s1, s2⟩ := specParse_ev s (by omega)
  by_cases h : ∃ n : Int, -9223372036854775808 ≤ n ∧ n ≤ 9223372036854775807 ∧ Lib.itoa n = s.data.toList
  · obtain ⟨n, h0, h1, hn⟩ := h
    exact ⟨n, true, s1 n h0 h1 hn, i1 n h0 h1 hn⟩
  · have hno : ∀ n : Int, -9223372036854775808 ≤ n → n ≤ 9223372036854775807 → Lib.itoa n ≠ s.data.toList := fun n h0 h1 hn => h ⟨n, h0, h1, hn⟩
    exact ⟨0, false, s2 hno, i2 hno⟩
theorem FnExactParseInt : StatFnExactParseInt := by
  intro s hs
  refine Ev.rounds (r := true) ?_
  simp only [laws_FnExactParseInt.f]
  by_cases h : (s.size : Int) > 1048576
  · exact ev_ift h (Ev.now _)
  · refine ev_ifn h (ev_succ ?_)
    obtain ⟨n, b, g, e⟩ := parse_both s (by omega)
    simp only [laws_FnExactParseInt.j0, e, Option.bind_some]
    refine Ev.bind g ?_
    dsimp only
    exact ev_ift rfl (ev_ifb (Ev.now _))
end Go.Proofs.YtbbegaofekahdaaDoor.Pure
end
