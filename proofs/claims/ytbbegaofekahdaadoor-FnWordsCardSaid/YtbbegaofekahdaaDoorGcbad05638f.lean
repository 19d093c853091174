/- Functions of the program as plain Lean functions and that the machine's calls answer as they do, the words of the print that these use, lemmas and plain proofs of laws. Put together by a program of this work that leaves out what nothing uses; Lean checks it. -/
import Derived.Shelf.Strings.Builder1
import Derived.Shelf.Strings.Builder2
import Derived.Shelf.Strings.OnBuilder
import Derived.Shelf.Small.Strs
import Derived.Shelf.Strings.BuilderF
import Derived.Shelf.Strconv.Atoi
import Derived.Shelf.Strconv.Itoa0
import Derived.Shelf.Strconv.Itoa1
import Derived.Shelf.LaysM
import Derived.Shelf.Strconv.Itoa2
import Derived.Shelf.Strconv.Itoa3
import Derived.Shelf.Strconv.AtoiErrFast
import Derived.Shelf.Strconv.ParseIntEmpty
import Derived.Shelf.Strconv.AtoiFail
import Derived.Shelf.Strconv.Clone
import Derived.Shelf.Strconv.SyntaxError
import Derived.Shelf.LaysC
import Derived.Shelf.Strconv.ToError
import Derived.Shelf.Strconv.Lower
import Derived.Shelf.Strconv.ParseUint10
import Derived.Shelf.Strconv.ParseUint10Empty
import Derived.Shelf.Strconv.ParseUint10Any
import Derived.Shelf.Strconv.ParseInt10
import Derived.Shelf.Strconv.AtoiLong
import Derived.Shelf.Strconv.AtoiInnerAll
import Derived.Shelf.Strconv.RangeError
import Derived.Shelf.Strconv.ToErrorRange
import Derived.Shelf.Strconv.AtoiAll
import Derived.Shelf.Strconv.ErrVarAll
import Derived.Shelf.Strings.Search1
import Derived.Test.YtbbegaofekahdaaDoorProg
import Derived.Below
import Derived.Deep.Draws
import Derived.Deep.AppendLies
import Derived.Maps.AppendAt
import Derived.OwnWalk
import Derived.Laws.BytesArg
import Derived.Laws.MakeOwn
import Derived.Laws.OwnMore
import Derived.Deep.OwnRows
import Derived.Tactics
import Derived.Lib.ConvBytes
import Derived.Laws.Slices
import Derived.WalkKit
import Derived.KernelRfl
import Derived.RowKit3
import Derived.Deep.LoopGhost
import Derived.Deep.QuietTactic
import Derived.BigQuiet
import Derived.WideLaws
import Derived.Deep.DeepCutAuto
import Derived.Deep.CutBlock
import Derived.Deep.RegionHeld3
import Derived.Laws.Rows
import Derived.Lib.AppendStr
import Derived.ArgAppend
import Derived.Laws.IdiomCopy
import Derived.OrdersHeld
import Derived.Laws.BitsLemmas
import Derived.RowKit
import Derived.Lib.AppendIntMem
import Derived.Laws.StructEq
import Derived.Test.YtbbegaofekahdaaDoorG71ea86cb97
section
namespace Go.Proofs
open Go.Shelf
def Tryd.lays156_ren : Go.Shelf.Ren := ⟨fun | 156 => 24 | 165 => 29 | 166 => 30 | 169 => 31 | 240 => 39 | 241 => 40 | 276 => 49 | 277 => 50 | n => n, fun | 31 => 31 | 9 => 9 | 3 => 3 | 4 => 4 | 0 => 0 | 20 => 20 | 72 => 52 | 76 => 37 | 70 => 50 | 37 => 27 | 75 => 36 | 127 => 62 | 164 => 75 | 5 => 5 | 80 => 54 | n => n, fun | n => n⟩
theorem Tryd.lays156 : Go.Proofs.Lays.n156 Tryd.prog Tryd.lays156_ren := {
  mixed := by kernel_rfl
  f156 := Tryd.func24.trans (congrArg some (by kernel_rfl))
  f165 := Tryd.func29.trans (congrArg some (by kernel_rfl))
  f166 := Tryd.func30.trans (congrArg some (by kernel_rfl))
  f169 := Tryd.func31.trans (congrArg some (by kernel_rfl))
  f240 := Tryd.func39.trans (congrArg some (by kernel_rfl))
  f241 := Tryd.func40.trans (congrArg some (by kernel_rfl))
  f276 := Tryd.func49.trans (congrArg some (by kernel_rfl))
  f277 := Tryd.func50.trans (congrArg some (by kernel_rfl))
  t0 := Tryd.underlying0
  a0 := Tryd.isAgg0
  z0 := Tryd.sizeOf0
  v0 := Tryd.zeroValue0
  t3 := Tryd.underlying3
  a3 := Tryd.isAgg3
  z3 := Tryd.sizeOf3
  v3 := Tryd.zeroValue3
  t4 := Tryd.underlying4
  a4 := Tryd.isAgg4
  z4 := Tryd.sizeOf4
  v4 := Tryd.zeroValue4
  t9 := Tryd.underlying9
  a9 := Tryd.isAgg9
  z9 := Tryd.sizeOf9
  v9 := Tryd.zeroValue9
  t20 := Tryd.underlying20
  a20 := Tryd.isAgg20
  z20 := Tryd.sizeOf20
  v20 := Tryd.zeroValue20
  t31 := Tryd.underlying31
  a31 := Tryd.isAgg31
  z31 := Tryd.sizeOf31
  v31 := Tryd.zeroValue31
  t37 := Tryd.underlying27
  a37 := Tryd.isAgg27
  z37 := Tryd.sizeOf27
  v37 := Tryd.zeroValue27
  t70 := Tryd.underlying50
  a70 := Tryd.isAgg50
  z70 := Tryd.sizeOf50
  v70 := Tryd.zeroValue50
  t72 := Tryd.underlying52
  a72 := Tryd.isAgg52
  z72 := Tryd.sizeOf52
  v72 := Tryd.zeroValue52
  t75 := Tryd.underlying36
  a75 := Tryd.isAgg36
  z75 := Tryd.sizeOf36
  v75 := Tryd.zeroValue36
  t76 := Tryd.underlying37
  a76 := Tryd.isAgg37
  z76 := Tryd.sizeOf37
  v76 := Tryd.zeroValue37
  t127 := Tryd.underlying62
  a127 := Tryd.isAgg62
  z127 := Tryd.sizeOf62
  v127 := Tryd.zeroValue62
  t164 := Tryd.underlying75
  a164 := Tryd.isAgg75
  z164 := Tryd.sizeOf75
  v164 := Tryd.zeroValue75 }
theorem Tryd.Builder_Extra_156 : Builder.Extra Tryd.prog Tryd.lays156_ren := {
  sizeBuilder := by kernel_rfl
  liesBuilder := by kernel_rfl
  t5 := Tryd.underlying5
  a5 := Tryd.isAgg5
  z5 := Tryd.sizeOf5
  v5 := Tryd.zeroValue5
  infoByte := by kernel_rfl
  cellsByte := by kernel_rfl
  sizeByte := by kernel_rfl
  neB5 := by decide }
open Go.RowKit in
theorem Tryd.strings_Join_none (a : Option Addr) (c : Nat) (sep : ByteArray) (w : World) :
    Calls Tryd.prog 24 #[.slice a 0 c, .string sep] w fun e w' => e = .returned (.string ⟨#[]⟩) ∧ w' = w := Any.strings_Join_none Tryd.lays156 Tryd.Builder_Extra_156 a c sep w
open Go.RowKit in
theorem Tryd.strings_Join (bk o c : Nat) (xs : List ByteArray) (sep : ByteArray) (w : World) (hcells : ∀ (j : Nat) x, xs[j]? = some x → w.cell? ⟨bk, o + j, none⟩ = some (.string x)) (hbk : bk < w.heap.size) (hN : xs.length ≤ 140737488355328) (hcap : xs.length ≤ c) (hlen : (Lib.join (xs.map (·.data.toList)) sep.data.toList).length ≤ 140737488355328) :
    Calls Tryd.prog 24 #[.slice (some ⟨bk, o, none⟩) xs.length c, .string sep] w fun e w' => e = .returned (.string ⟨(Lib.join (xs.map (·.data.toList)) sep.data.toList).toArray⟩) ∧ Below w.heap.size w w' := Any.strings_Join Tryd.lays156 Tryd.Builder_Extra_156 bk o c xs sep w hcells hbk hN hcap hlen
def Tryd.lays137_ren : Go.Shelf.Ren := ⟨fun | 137 => 25 | 217 => 32 | 266 => 41 | n => n, fun | 9 => 9 | 5 => 5 | 3 => 3 | n => n, fun | n => n⟩
theorem Tryd.lays137 : Go.Proofs.Lays.n137 Tryd.prog Tryd.lays137_ren := {
  mixed := by kernel_rfl
  f137 := Tryd.func25.trans (congrArg some (by kernel_rfl))
  f217 := Tryd.func32.trans (congrArg some (by kernel_rfl))
  f266 := Tryd.func41.trans (congrArg some (by kernel_rfl))
  t3 := Tryd.underlying3
  a3 := Tryd.isAgg3
  z3 := Tryd.sizeOf3
  v3 := Tryd.zeroValue3
  t5 := Tryd.underlying5
  a5 := Tryd.isAgg5
  z5 := Tryd.sizeOf5
  v5 := Tryd.zeroValue5
  t9 := Tryd.underlying9
  a9 := Tryd.isAgg9
  z9 := Tryd.sizeOf9
  v9 := Tryd.zeroValue9 }
open Go.RowKit in
theorem Tryd.strings_IndexByte (s : ByteArray) (c : Int) (w : World) :
    Calls Tryd.prog 25 #[.string s, .int .u8 c] w fun e w' => e = .returned (.int .i64 (Lib.indexByte s.data.toList c.toNat.toUInt8)) ∧ w' = w := Any.strings_IndexByte Tryd.lays137 s c w
def Tryd.laysM171_ren : Go.Shelf.Ren := ⟨fun | 171 => 16 | 243 => 26 | 246 => 33 | 283 => 42 | 284 => 43 | 285 => 44 | 286 => 45 | 129 => 52 | 317 => 51 | 318 => 53 | 319 => 54 | 320 => 55 | 337 => 58 | 338 => 59 | n => n, fun | 3 => 3 | 9 => 9 | 2 => 2 | 4 => 4 | 171 => 63 | 0 => 0 | 53 => 64 | 37 => 27 | 5 => 5 | 173 => 67 | 212 => 80 | 51 => 81 | 20 => 20 | 213 => 82 | 46 => 49 | 232 => 89 | 233 => 90 | n => n, fun | 17 => 3 | 18 => 4 | 19 => 5 | n => n⟩
theorem Tryd.laysM171 : Go.Proofs.LaysM.n171 Tryd.prog Tryd.laysM171_ren := {
  mixed := by kernel_rfl
  f129 := Tryd.func52.trans (congrArg some (by kernel_rfl))
  f171 := Tryd.func16.trans (congrArg some (by kernel_rfl))
  f243 := Tryd.func26.trans (congrArg some (by kernel_rfl))
  f246 := Tryd.func33.trans (congrArg some (by kernel_rfl))
  f283 := Tryd.func42.trans (congrArg some (by kernel_rfl))
  f284 := Tryd.func43.trans (congrArg some (by kernel_rfl))
  f285 := Tryd.func44.trans (congrArg some (by kernel_rfl))
  f286 := Tryd.func45.trans (congrArg some (by kernel_rfl))
  f317 := Tryd.func51.trans (congrArg some (by kernel_rfl))
  f318 := Tryd.func53.trans (congrArg some (by kernel_rfl))
  f319 := Tryd.func54.trans (congrArg some (by kernel_rfl))
  f320 := Tryd.func55.trans (congrArg some (by kernel_rfl))
  f337 := Tryd.func58.trans (congrArg some (by kernel_rfl))
  f338 := Tryd.func59.trans (congrArg some (by kernel_rfl))
  t0 := Tryd.underlying0
  a0 := Tryd.isAgg0
  z0 := Tryd.sizeOf0
  v0 := Tryd.zeroValue0
  t2 := Tryd.underlying2
  a2 := Tryd.isAgg2
  z2 := Tryd.sizeOf2
  v2 := Tryd.zeroValue2
  t3 := Tryd.underlying3
  a3 := Tryd.isAgg3
  z3 := Tryd.sizeOf3
  v3 := Tryd.zeroValue3
  t4 := Tryd.underlying4
  a4 := Tryd.isAgg4
  z4 := Tryd.sizeOf4
  v4 := Tryd.zeroValue4
  t5 := Tryd.underlying5
  a5 := Tryd.isAgg5
  z5 := Tryd.sizeOf5
  v5 := Tryd.zeroValue5
  t9 := Tryd.underlying9
  a9 := Tryd.isAgg9
  z9 := Tryd.sizeOf9
  v9 := Tryd.zeroValue9
  t20 := Tryd.underlying20
  a20 := Tryd.isAgg20
  z20 := Tryd.sizeOf20
  v20 := Tryd.zeroValue20
  t37 := Tryd.underlying27
  a37 := Tryd.isAgg27
  z37 := Tryd.sizeOf27
  v37 := Tryd.zeroValue27
  t46 := Tryd.underlying49
  a46 := Tryd.isAgg49
  z46 := Tryd.sizeOf49
  v46 := Tryd.zeroValue49
  t51 := Tryd.underlying81
  a51 := Tryd.isAgg81
  z51 := Tryd.sizeOf81
  v51 := Tryd.zeroValue81
  t53 := Tryd.underlying64
  a53 := Tryd.isAgg64
  z53 := Tryd.sizeOf64
  v53 := Tryd.zeroValue64
  t171 := Tryd.underlying63
  a171 := Tryd.isAgg63
  z171 := Tryd.sizeOf63
  v171 := Tryd.zeroValue63
  t173 := Tryd.underlying67
  a173 := Tryd.isAgg67
  z173 := Tryd.sizeOf67
  v173 := Tryd.zeroValue67
  t212 := Tryd.underlying80
  a212 := Tryd.isAgg80
  z212 := Tryd.sizeOf80
  v212 := Tryd.zeroValue80
  t213 := Tryd.underlying82
  a213 := Tryd.isAgg82
  z213 := Tryd.sizeOf82
  t232 := Tryd.underlying89
  a232 := Tryd.isAgg89
  z232 := Tryd.sizeOf89
  v232 := Tryd.zeroValue89
  t233 := Tryd.underlying90
  a233 := Tryd.isAgg90
  z233 := Tryd.sizeOf90
  v233 := Tryd.zeroValue90
  g17 := by kernel_rfl
  g18 := by kernel_rfl
  g19 := by kernel_rfl
  i0 := by kernel_rfl
  i2 := by kernel_rfl
  i3 := by kernel_rfl
  i4 := by kernel_rfl
  i5 := by kernel_rfl
  i9 := by kernel_rfl
  i20 := by kernel_rfl
  i37 := by kernel_rfl
  i46 := by kernel_rfl
  i51 := by kernel_rfl
  i53 := by kernel_rfl
  i171 := by kernel_rfl
  i173 := by kernel_rfl
  i212 := by kernel_rfl
  i232 := by kernel_rfl
  i233 := by kernel_rfl
  m17 := by kernel_rfl
  m18 := by kernel_rfl
  m19 := by kernel_rfl }
open Go.RowKit Go.Sort Go.Lib in
theorem Tryd.strconv_Itoa (n : Int) (h0 : -9223372036854775808 ≤ n) (h1 : n ≤ 9223372036854775807) (w : World) (htab : Lib.TabIs Tryd.prog w "internal/strconv.uint64pow10" .u64 Lib.pow10Tab) :
    Calls Tryd.prog 16 #[.int .i64 n] w fun e w' => e = .returned (.string ⟨(Lib.itoa n).toArray⟩) ∧ ∃ k os, w' = grow (w.drewN k) os := Any.strconv_Itoa Tryd.laysM171 n h0 h1 w htab
def Tryd.laysC172_ren : Go.Shelf.Ren := ⟨fun | 172 => 18 | 244 => 27 | 245 => 28 | 247 => 34 | 279 => 35 | 280 => 36 | 281 => 37 | 282 => 38 | 287 => 46 | 316 => 47 | 171 => 16 | 205 => 48 | 321 => 56 | 322 => 57 | 243 => 26 | 246 => 33 | 283 => 42 | 284 => 43 | 285 => 44 | 286 => 45 | 129 => 52 | 317 => 51 | 318 => 53 | 319 => 54 | 320 => 55 | 337 => 58 | 338 => 59 | n => n, fun | 9 => 9 | 3 => 3 | 75 => 36 | 76 => 37 | 4 => 4 | 5 => 5 | 167 => 56 | 37 => 27 | 0 => 0 | 85 => 57 | 2 => 2 | 168 => 59 | 53 => 64 | 175 => 69 | 46 => 49 | 210 => 73 | 127 => 62 | 145 => 87 | 143 => 85 | 21 => 21 | 171 => 63 | 173 => 67 | 212 => 80 | 51 => 81 | 20 => 20 | 213 => 82 | 232 => 89 | 233 => 90 | 80 => 54 | n => n, fun | 15 => 0 | 16 => 1 | 17 => 3 | 18 => 4 | 19 => 5 | n => n⟩
theorem Tryd.laysC172 : Go.Proofs.LaysC.n172 Tryd.prog Tryd.laysC172_ren := {
  mixed := by kernel_rfl
  f129 := Tryd.func52.trans (congrArg some (by kernel_rfl))
  f171 := Tryd.func16.trans (congrArg some (by kernel_rfl))
  f172 := Tryd.func18.trans (congrArg some (by kernel_rfl))
  f205 := Tryd.func48.trans (congrArg some (by kernel_rfl))
  f243 := Tryd.func26.trans (congrArg some (by kernel_rfl))
  f244 := Tryd.func27.trans (congrArg some (by kernel_rfl))
  f245 := Tryd.func28.trans (congrArg some (by kernel_rfl))
  f246 := Tryd.func33.trans (congrArg some (by kernel_rfl))
  f247 := Tryd.func34.trans (congrArg some (by kernel_rfl))
  f279 := Tryd.func35.trans (congrArg some (by kernel_rfl))
  f280 := Tryd.func36.trans (congrArg some (by kernel_rfl))
  f281 := Tryd.func37.trans (congrArg some (by kernel_rfl))
  f282 := Tryd.func38.trans (congrArg some (by kernel_rfl))
  f283 := Tryd.func42.trans (congrArg some (by kernel_rfl))
  f284 := Tryd.func43.trans (congrArg some (by kernel_rfl))
  f285 := Tryd.func44.trans (congrArg some (by kernel_rfl))
  f286 := Tryd.func45.trans (congrArg some (by kernel_rfl))
  f287 := Tryd.func46.trans (congrArg some (by kernel_rfl))
  f316 := Tryd.func47.trans (congrArg some (by kernel_rfl))
  f317 := Tryd.func51.trans (congrArg some (by kernel_rfl))
  f318 := Tryd.func53.trans (congrArg some (by kernel_rfl))
  f319 := Tryd.func54.trans (congrArg some (by kernel_rfl))
  f320 := Tryd.func55.trans (congrArg some (by kernel_rfl))
  f321 := Tryd.func56.trans (congrArg some (by kernel_rfl))
  f322 := Tryd.func57.trans (congrArg some (by kernel_rfl))
  f337 := Tryd.func58.trans (congrArg some (by kernel_rfl))
  f338 := Tryd.func59.trans (congrArg some (by kernel_rfl))
  t0 := Tryd.underlying0
  a0 := Tryd.isAgg0
  z0 := Tryd.sizeOf0
  v0 := Tryd.zeroValue0
  t2 := Tryd.underlying2
  a2 := Tryd.isAgg2
  z2 := Tryd.sizeOf2
  v2 := Tryd.zeroValue2
  t3 := Tryd.underlying3
  a3 := Tryd.isAgg3
  z3 := Tryd.sizeOf3
  v3 := Tryd.zeroValue3
  t4 := Tryd.underlying4
  a4 := Tryd.isAgg4
  z4 := Tryd.sizeOf4
  v4 := Tryd.zeroValue4
  t5 := Tryd.underlying5
  a5 := Tryd.isAgg5
  z5 := Tryd.sizeOf5
  v5 := Tryd.zeroValue5
  t9 := Tryd.underlying9
  a9 := Tryd.isAgg9
  z9 := Tryd.sizeOf9
  v9 := Tryd.zeroValue9
  t20 := Tryd.underlying20
  a20 := Tryd.isAgg20
  z20 := Tryd.sizeOf20
  v20 := Tryd.zeroValue20
  t21 := Tryd.underlying21
  a21 := Tryd.isAgg21
  z21 := Tryd.sizeOf21
  v21 := Tryd.zeroValue21
  t37 := Tryd.underlying27
  a37 := Tryd.isAgg27
  z37 := Tryd.sizeOf27
  v37 := Tryd.zeroValue27
  t46 := Tryd.underlying49
  a46 := Tryd.isAgg49
  z46 := Tryd.sizeOf49
  v46 := Tryd.zeroValue49
  t51 := Tryd.underlying81
  a51 := Tryd.isAgg81
  z51 := Tryd.sizeOf81
  v51 := Tryd.zeroValue81
  t53 := Tryd.underlying64
  a53 := Tryd.isAgg64
  z53 := Tryd.sizeOf64
  v53 := Tryd.zeroValue64
  t75 := Tryd.underlying36
  a75 := Tryd.isAgg36
  z75 := Tryd.sizeOf36
  v75 := Tryd.zeroValue36
  t76 := Tryd.underlying37
  a76 := Tryd.isAgg37
  z76 := Tryd.sizeOf37
  v76 := Tryd.zeroValue37
  t85 := Tryd.underlying57
  a85 := Tryd.isAgg57
  z85 := Tryd.sizeOf57
  v85 := Tryd.zeroValue57
  t127 := Tryd.underlying62
  a127 := Tryd.isAgg62
  z127 := Tryd.sizeOf62
  v127 := Tryd.zeroValue62
  t143 := Tryd.underlying85
  a143 := Tryd.isAgg85
  z143 := Tryd.sizeOf85
  v143 := Tryd.zeroValue85
  t145 := Tryd.underlying87
  a145 := Tryd.isAgg87
  z145 := Tryd.sizeOf87
  v145 := Tryd.zeroValue87
  t167 := Tryd.underlying56
  a167 := Tryd.isAgg56
  z167 := Tryd.sizeOf56
  v167 := Tryd.zeroValue56
  t168 := Tryd.underlying59
  a168 := Tryd.isAgg59
  z168 := Tryd.sizeOf59
  v168 := Tryd.zeroValue59
  t171 := Tryd.underlying63
  a171 := Tryd.isAgg63
  z171 := Tryd.sizeOf63
  v171 := Tryd.zeroValue63
  t173 := Tryd.underlying67
  a173 := Tryd.isAgg67
  z173 := Tryd.sizeOf67
  v173 := Tryd.zeroValue67
  t175 := Tryd.underlying69
  a175 := Tryd.isAgg69
  z175 := Tryd.sizeOf69
  v175 := Tryd.zeroValue69
  t210 := Tryd.underlying73
  a210 := Tryd.isAgg73
  z210 := Tryd.sizeOf73
  v210 := Tryd.zeroValue73
  t212 := Tryd.underlying80
  a212 := Tryd.isAgg80
  z212 := Tryd.sizeOf80
  v212 := Tryd.zeroValue80
  t213 := Tryd.underlying82
  a213 := Tryd.isAgg82
  z213 := Tryd.sizeOf82
  t232 := Tryd.underlying89
  a232 := Tryd.isAgg89
  z232 := Tryd.sizeOf89
  v232 := Tryd.zeroValue89
  t233 := Tryd.underlying90
  a233 := Tryd.isAgg90
  z233 := Tryd.sizeOf90
  v233 := Tryd.zeroValue90
  g15 := by kernel_rfl
  g16 := by kernel_rfl
  g17 := by kernel_rfl
  g18 := by kernel_rfl
  g19 := by kernel_rfl
  t80 := Tryd.underlying54
  a80 := Tryd.isAgg54
  z80 := Tryd.sizeOf54
  v80 := Tryd.zeroValue54
  i0 := by kernel_rfl
  i2 := by kernel_rfl
  i3 := by kernel_rfl
  i4 := by kernel_rfl
  i5 := by kernel_rfl
  i9 := by kernel_rfl
  i20 := by kernel_rfl
  i21 := by kernel_rfl
  i37 := by kernel_rfl
  i46 := by kernel_rfl
  i51 := by kernel_rfl
  i53 := by kernel_rfl
  i75 := by kernel_rfl
  i76 := by kernel_rfl
  i80 := by kernel_rfl
  i85 := by kernel_rfl
  i127 := by kernel_rfl
  i143 := by kernel_rfl
  i145 := by kernel_rfl
  i167 := by kernel_rfl
  i168 := by kernel_rfl
  i171 := by kernel_rfl
  i173 := by kernel_rfl
  i175 := by kernel_rfl
  i210 := by kernel_rfl
  i212 := by kernel_rfl
  i232 := by kernel_rfl
  i233 := by kernel_rfl
  m15 := by kernel_rfl
  m16 := by kernel_rfl
  m17 := by kernel_rfl
  m18 := by kernel_rfl
  m19 := by kernel_rfl
  c0 := by kernel_rfl
  c2 := by kernel_rfl
  c3 := by kernel_rfl
  c4 := by kernel_rfl
  c5 := by kernel_rfl
  c9 := by kernel_rfl
  c20 := by kernel_rfl
  c21 := by kernel_rfl
  c37 := by kernel_rfl
  c46 := by kernel_rfl
  c51 := by kernel_rfl
  c53 := by kernel_rfl
  c75 := by kernel_rfl
  c76 := by kernel_rfl
  c80 := by kernel_rfl
  c85 := by kernel_rfl
  c127 := by kernel_rfl
  c143 := by kernel_rfl
  c145 := by kernel_rfl
  c167 := by kernel_rfl
  c168 := by kernel_rfl
  c171 := by kernel_rfl
  c173 := by kernel_rfl
  c175 := by kernel_rfl
  c210 := by kernel_rfl
  c212 := by kernel_rfl
  c213 := by kernel_rfl
  c232 := by kernel_rfl
  c233 := by kernel_rfl }
open Go.RowKit in
theorem Tryd.strconv_Atoi_ok (s : ByteArray) (hmax : s.size ≤ 9223372036854775806) (v : Int) (h : Lib.atoiAll s.data.toList = .ok v) (w : World) :
    Calls Tryd.prog 18 #[.string s] w fun e w' => e = .returned (.tuple #[.int .i64 v, .nilIface]) ∧ (w' = w ∨ ∃ t, w' = Lib.bytesWorld w 5 t) := Any.strconv_Atoi_ok Tryd.laysC172 s hmax v h w
open Go.RowKit in
theorem Tryd.strconv_Atoi_range_var (s : ByteArray) (hlim : s.size ≤ 281474976710656) (h : Lib.atoiAll s.data.toList = .range) (tp : TypeId) (p : Value) (w : World) (hvar : w.var? Tryd.prog "strconv.ErrRange" = some #[.iface tp p]) :
    Calls Tryd.prog 18 #[.string s] w fun e w' => ∃ N, e = .returned (.tuple #[.int .i64 (Lib.atoiSat s.data.toList), .iface 59 (.pointer (some ⟨N, 0, none⟩))]) ∧ w.heap.size ≤ N ∧ w'.heap[N]? = some (.cells #[.string ⟨#[65, 116, 111, 105]⟩, .string s, .iface tp p] 73 (0, 0)) ∧ Below w.heap.size w w' := Any.strconv_Atoi_range_var Tryd.laysC172 s hlim h tp p w hvar
end Go.Proofs
end
section
namespace Go.Proofs.YtbbegaofekahdaaDoor.P
open Go.RowKit Go.Proofs.YtbbegaofekahdaaDoorW.PrintWords Go.Proofs.YtbbegaofekahdaaDoorW.PrintLast Go.Proofs.YtbbegaofekahdaaDoorW.PrintMore
attribute [local go_sem] max2_int min2_int max_two min_two max_three min_three max_four min_four
set_option linter.unusedVariables false
set_option linter.unusedSimpArgs false
def errW : Option Int → Value
  | none => .nilIface
  | some c => .iface 56 (.int .i64 c)
theorem errW_none : errW none = .nilIface := rfl
theorem errW_some (c : Int) : errW (some c) = .iface 56 (.int .i64 c) := rfl
theorem info9 : (Tryd.prog.info? 9).map (fun i => (i.zero, i.size, i.bytes)) = some (some (.string ⟨#[]⟩), 1, 16) := by kernel_rfl
structure Tab0 (w : World) : Prop where mk :: (out : Lib.TabIs Tryd.prog w "internal/strconv.uint64pow10" .u64 Lib.pow10Tab)
theorem Tab0.below {w w' : World} (h : Tab0 w) (hb : Below w.heap.size w w') : Tab0 w' := ⟨(Lib.tabBelow_of_tabIs h.out) w' hb⟩
theorem Tab0.belowA {w w' : World} (h : Tab0 w) (hb : Aside0 (Below w.heap.size w w')) : Tab0 w' := h.below hb.out
theorem Tab0.drew {w : World} (h : Tab0 w) : Tab0 w.drew := ⟨h.out⟩
theorem Tab0.drewN {w : World} (h : Tab0 w) (n : Nat) : Tab0 (w.drewN n) := ⟨h.out⟩
theorem Tab0.alloc {w : World} (h : Tab0 w) (o : Obj) : Tab0 (w.alloc o) := h.below (Below.alloc (Below.refl _ _) (Nat.le_refl _) o)
def impl_FormatInt.f (a0 : Int) : Option ByteArray := if -9223372036854775808 ≤ a0 ∧ a0 ≤ 9223372036854775807 then some ⟨(Lib.itoa a0).toArray⟩ else none
set_option maxRecDepth 100000 in
theorem impl_FormatInt.calls (a0 : Int) (r : ByteArray) (w : World) (h : impl_FormatInt.f a0 = some r) (hT : Tab0 w := by first | assumption | (repeat (first | assumption | exact Tab0.belowA (by assumption) (by assumption) | apply Tab0.drew | apply Tab0.drewN | apply Tab0.alloc))) :
    Calls Tryd.prog 7 #[.int .i64 a0] w fun e w' => e = .returned (.string r) ∧ Below w.heap.size w w' := by
  unfold impl_FormatInt.f at h
  by_cases hc : -9223372036854775808 ≤ a0 ∧ a0 ≤ 9223372036854775807
  · rw [if_pos hc] at h
    obtain rfl := Option.some.inj h
    obtain ⟨h0, h1⟩ := hc
    go_enter Tryd.func7, Tryd.ntmps7
    go_wp2_with (go_at_call 16; refine (Tryd.strconv_Itoa a0 h0 h1 _ (by first | exact hT.out | exact hT.drew.out | exact (hT.drewN _).out)).mono ?_; rintro e w' ⟨rfl, k, os, rfl⟩)
    go_ret
    exact ⟨rfl, by first | exact Lib.below_grow _ _ (Nat.le_refl _) _ _ | exact (Below.refl _ _).trans (Lib.below_grow _ _ (Nat.le_refl _) _ _)⟩
  · rw [if_neg hc] at h
    exact absurd h (by simp)
theorem var_below {w w' : World} {name : String} {cs : Array Value} (h : w.var? Tryd.prog name = some cs) (hb : Below w.heap.size w w') : w'.var? Tryd.prog name = some cs := by
  unfold World.var? at *
  cases hg : Tryd.prog.globalNamed name with
  | none => simp [hg] at h
  | some g =>
    simp only [hg, Option.bind_some] at h ⊢
    rcases Nat.lt_or_ge g w.heap.size with hlt | hge
    · rw [hb.block g hlt]
      exact h
    · rw [Array.getElem?_eq_none hge] at h
      cases h
structure Err0 (w : World) : Prop where mk :: (out : (∃ tp p, w.var? Tryd.prog "strconv.ErrSyntax" = some #[.iface tp p]) ∧ ∃ tp p, w.var? Tryd.prog "strconv.ErrRange" = some #[.iface tp p])
theorem Err0.below {w w' : World} (h : Err0 w) (hb : Below w.heap.size w w') : Err0 w' := by
  obtain ⟨⟨t1, p1, h1⟩, ⟨t2, p2, h2⟩⟩ := h.out
  exact ⟨⟨t1, p1, var_below h1 hb⟩, ⟨t2, p2, var_below h2 hb⟩⟩
theorem Err0.belowA {w w' : World} (h : Err0 w) (hb : Aside0 (Below w.heap.size w w')) : Err0 w' := h.below hb.out
theorem Err0.drew {w : World} (h : Err0 w) : Err0 w.drew := ⟨h.out⟩
theorem Err0.drewN {w : World} (h : Err0 w) (n : Nat) : Err0 (w.drewN n) := ⟨h.out⟩
theorem Err0.alloc {w : World} (h : Err0 w) (o : Obj) : Err0 (w.alloc o) := h.below (Below.alloc (Below.refl _ _) (Nat.le_refl _) o)
def impl_ParseInt.f (l0 : ByteArray) : Option (Int × Bool) := if l0.size ≤ 281474976710656 then (match Lib.atoiAll l0.data.toList with | .ok n => if (⟨(Lib.itoa n).toArray⟩ : ByteArray).toList = l0.toList then some (n, true) else some (0, false) | _ => some (0, false)) else none
set_option maxHeartbeats 2000000 in
set_option maxRecDepth 100000 in
theorem impl_ParseInt.calls (l0 : ByteArray) (r1 : Int) (r2 : Bool) (w : World) (h : impl_ParseInt.f l0 = some (r1, r2)) (hT : Tab0 w := by first | assumption | (repeat (first | assumption | exact Tab0.belowA (by assumption) (by assumption) | apply Tab0.drew | apply Tab0.drewN | apply Tab0.alloc))) (hE : Err0 w := by first | assumption | (repeat (first | assumption | exact Err0.belowA (by assumption) (by assumption) | apply Err0.drew | apply Err0.drewN | apply Err0.alloc))) :
    Calls Tryd.prog 9 #[.string l0] w fun e w' => e = .returned (.tuple #[.int .i64 r1, .bool r2]) ∧ Below w.heap.size w w' := by
  unfold impl_ParseInt.f at h
  by_cases hc : l0.size ≤ 281474976710656
  · rw [if_pos hc] at h
    obtain ⟨⟨t1, p1, h1⟩, ⟨t2, p2, h2⟩⟩ := hE.out
    cases ha : Lib.atoiAll l0.data.toList
    case ok n =>
      rw [ha] at h
      simp only at h
      obtain ⟨b0, b1⟩ := Lib.atoiAll_bounds ha
      have hf : impl_FormatInt.f n = some ⟨(Lib.itoa n).toArray⟩ := by
        unfold impl_FormatInt.f
        rw [if_pos ⟨b0, b1⟩]
      have hst : ∀ w1, (w1 = w ∨ ∃ t, w1 = Lib.bytesWorld w 5 t) → Below w.heap.size w w1 := by
        rintro w1 (rfl | ⟨t, rfl⟩)
        · exact Below.refl _ _
        · exact Lib.bytesWorld_below _ _ _
      generalize (⟨(Lib.itoa n).toArray⟩ : ByteArray) = x at hf h
      have hT' := Aside0.mk hT
      have hH := Aside0.mk hst
      clear hst hT hE h1 h2
      by_cases hi : x.toList = l0.toList
      · rw [if_pos hi] at h
        simp only [Option.some.injEq, Prod.mk.injEq] at h
        obtain ⟨rfl, rfl⟩ := h
        have hi0 : (x.toList == l0.toList) = true := beq_iff_eq.mpr hi
        have hi1 : (x.toList != l0.toList) = false := bne_eq_false_iff_eq.mpr hi
        clear hi
        go_enter Tryd.func9, Tryd.ntmps9
        go_wp2_with (first | (go_at_call 18; refine (Tryd.strconv_Atoi_ok l0 (by omega) n ha _).mono ?_; rintro e w1 ⟨rfl, hw⟩; have hb1 := Aside0.mk (hH.out w1 (by first | exact hw | exact hw.imp (fun h => h) (fun h => h))); clear hw) | (go_at_call 7; refine (impl_FormatInt.calls n x _ hf (hT'.out.below hb1.out)).mono ?_; rintro e w2 ⟨rfl, hb2⟩))
        go_ret2
        exact ⟨rfl, hb1.out.trans (hb2.mono hb1.out.size)⟩
      · rw [if_neg hi] at h
        simp only [Option.some.injEq, Prod.mk.injEq] at h
        obtain ⟨rfl, rfl⟩ := h
        have hi0 : (x.toList == l0.toList) = false := beq_eq_false_iff_ne.mpr hi
        have hi1 : (x.toList != l0.toList) = true := bne_iff_ne.mpr hi
        clear hi
        go_enter Tryd.func9, Tryd.ntmps9
        go_wp2_with (first | (go_at_call 18; refine (Tryd.strconv_Atoi_ok l0 (by omega) n ha _).mono ?_; rintro e w1 ⟨rfl, hw⟩; have hb1 := Aside0.mk (hH.out w1 (by first | exact hw | exact hw.imp (fun h => h) (fun h => h))); clear hw) | (go_at_call 7; refine (impl_FormatInt.calls n x _ hf (hT'.out.below hb1.out)).mono ?_; rintro e w2 ⟨rfl, hb2⟩))
        go_ret2
        exact ⟨rfl, hb1.out.trans (hb2.mono hb1.out.size)⟩
    case range =>
      rw [ha] at h
      simp only [Option.some.injEq, Prod.mk.injEq] at h
      obtain ⟨rfl, rfl⟩ := h
      clear hT hE
      go_enter Tryd.func9, Tryd.ntmps9
      go_wp2_with (go_at_call 18; refine (Tryd.strconv_Atoi_range_var l0 hc ha t2 p2 _ h2).mono ?_; rintro e w1 ⟨N, rfl, -, -, hb⟩)
      go_ret2
      exact ⟨rfl, hb⟩
    rw [ha] at h
    simp only [Option.some.injEq, Prod.mk.injEq] at h
    obtain ⟨rfl, rfl⟩ := h
    clear hT hE
    go_enter Tryd.func9, Tryd.ntmps9
    go_wp2_with (go_at_call 18; refine (Any.strconv_Atoi_syntax_var Tryd.laysC172 l0 hc ha t1 p1 _ h1).mono ?_; rintro e w1 ⟨N, rfl, -, -, hb⟩)
    go_ret2
    exact ⟨rfl, hb⟩
  · rw [if_neg hc] at h
    exact absurd h (by simp)
def IsS48 (w0 W : World) (g : Nat) (f0 : List Int) (f1 : Int) (f2 : Int) : Prop := ∃ A0 c0, W.heap[g]? = some (.cells #[.slice A0 f0.length c0, .int .i64 f1, .int .i64 f2] 48 (0, 0)) ∧ w0.heap.size ≤ g ∧ Kd.C (Kd.int .u8) w0 A0 f0.length f0
theorem IsS48.grown {w0 W : World} {g : Nat} {f0 : List Int} {f1 : Int} {f2 : Int} {W1 : World} {row : Option Nat} (h : IsS48 w0 W g f0 f1 f2) (hw : W.grownBy W1 row) (hne : some g ≠ row) : IsS48 w0 W1 g f0 f1 f2 := by
 obtain ⟨A0, c0, hb, hg, hr0⟩ := h
 exact ⟨A0, c0, blk_grown hb hw hne, hg, hr0⟩
theorem IsS48.kept {w0 W : World} {g : Nat} {f0 : List Int} {f1 : Int} {f2 : Int} {W1 : World} {S : Nat → Prop} (h : IsS48 w0 W g f0 f1 f2) (hk : Kept W W1 S) (hne : ¬ S g) : IsS48 w0 W1 g f0 f1 f2 := by
 obtain ⟨A0, c0, hb, hg, hr0⟩ := h
 exact ⟨A0, c0, blk_kept hb hk hne, hg, hr0⟩
theorem IsS48.below {w0 W : World} {g : Nat} {f0 : List Int} {f1 : Int} {f2 : Int} {W1 : World} (h : IsS48 w0 W g f0 f1 f2) (hw : Below W.heap.size W W1) : IsS48 w0 W1 g f0 f1 f2 := h.grown (grown_of_below hw none) (by simp)
theorem IsS48.alloc {w0 W : World} {g : Nat} {f0 : List Int} {f1 : Int} {f2 : Int} (h : IsS48 w0 W g f0 f1 f2) (o : Obj) : IsS48 w0 (W.alloc o) g f0 f1 f2 := h.below (below_alloc (Below.refl _ _) o)
theorem IsS48.drewN {w0 W : World} {g : Nat} {f0 : List Int} {f1 : Int} {f2 : Int} (h : IsS48 w0 W g f0 f1 f2) (m : Nat) : IsS48 w0 (W.drewN m) g f0 f1 f2 := h
theorem IsS48.drew {w0 W : World} {g : Nat} {f0 : List Int} {f1 : Int} {f2 : Int} (h : IsS48 w0 W g f0 f1 f2) : IsS48 w0 W.drew g f0 f1 f2 := h
theorem IsS48.at_ {w0 W : World} {g : Nat} {f0 : List Int} {f1 : Int} {f2 : Int} {w' : World} {m : Nat} (hq : W.drewN m = w') (h : IsS48 w0 W g f0 f1 f2) : IsS48 w0 w' g f0 f1 f2 := by subst hq; exact IsS48.drewN h m
theorem IsS48.apart {w0 W : World} {g : Nat} {f0 : List Int} {f1 : Int} {f2 : Int} {α : Type} {d : Kd α} {e : Nat} {base : Nat} {ok : Nat → Prop} {v : Value} {xs : List α} (h : IsS48 w0 W g f0 f1 f2) (ho : d.R e W base ok v xs) (ht : ∀ q, q ∈ e :: d.E → q ≠ 48) : d.R e W base (fun k => ok k ∧ k ≠ g) v xs := by
 obtain ⟨A0, c0, hb, hg, hr0⟩ := h
 exact Kd.R_types ho hb ht
theorem IsS48.own_ne {w0 W : World} {g : Nat} {f0 : List Int} {f1 : Int} {f2 : Int} {α : Type} {d : Kd α} {e : Nat} {base : Nat} {ok : Nat → Prop} {v : Value} {xs : List α} (h : IsS48 w0 W g f0 f1 f2) (ho : d.R e W base ok v xs) (ht : e ≠ 48) : some g ≠ v.ownBlock := by
 obtain ⟨A0, c0, hb, hg, hr0⟩ := h
 exact Kd.R_ne ho hb ht
theorem IsS48.ge {w0 W : World} {g : Nat} {f0 : List Int} {f1 : Int} {f2 : Int} (h : IsS48 w0 W g f0 f1 f2) : w0.heap.size ≤ g := by
 obtain ⟨A0, c0, hb, hg, hr0⟩ := h
 exact hg
theorem cellS48_0 {W : World} {g : Nat} {A0 : Option Addr} {c0 : Nat} {f0 : List Int} {f1 : Int} {f2 : Int} (h : W.heap[g]? = some (.cells #[.slice A0 f0.length c0, .int .i64 f1, .int .i64 f2] 48 (0, 0))) : W.cell? ⟨g, 0, none⟩ = some (.slice A0 f0.length c0) := (blk_cell h 0).trans rfl
theorem cellS48_1 {W : World} {g : Nat} {A0 : Option Addr} {c0 : Nat} {f0 : List Int} {f1 : Int} {f2 : Int} (h : W.heap[g]? = some (.cells #[.slice A0 f0.length c0, .int .i64 f1, .int .i64 f2] 48 (0, 0))) : W.cell? ⟨g, 1, none⟩ = some (.int .i64 f1) := (blk_cell h 1).trans rfl
theorem IsS48.set_1 {w0 W : World} {g : Nat} {f0 : List Int} {f1 : Int} {f2 : Int} (h : IsS48 w0 W g f0 f1 f2) (x : Int) : IsS48 w0 (W.setCell ⟨g, 1, none⟩ (.int .i64 x)) g f0 x f2 := by
 obtain ⟨A0, c0, hb, hg, hr0⟩ := h
 exact ⟨A0, c0, by simpa using blk_set hb 1 (.int .i64 x), hg, hr0⟩
theorem cellS48_2 {W : World} {g : Nat} {A0 : Option Addr} {c0 : Nat} {f0 : List Int} {f1 : Int} {f2 : Int} (h : W.heap[g]? = some (.cells #[.slice A0 f0.length c0, .int .i64 f1, .int .i64 f2] 48 (0, 0))) : W.cell? ⟨g, 2, none⟩ = some (.int .i64 f2) := (blk_cell h 2).trans rfl
theorem IsS48.set_2 {w0 W : World} {g : Nat} {f0 : List Int} {f1 : Int} {f2 : Int} (h : IsS48 w0 W g f0 f1 f2) (x : Int) : IsS48 w0 (W.setCell ⟨g, 2, none⟩ (.int .i64 x)) g f0 f1 x := by
 obtain ⟨A0, c0, hb, hg, hr0⟩ := h
 exact ⟨A0, c0, by simpa using blk_set hb 2 (.int .i64 x), hg, hr0⟩
def spec_l01Byte.f (s0_0 : List Int) (s0_1 : Int) (s0_2 : Int) : Option (Int × Int × Int) := if s0_1 < (s0_0.length : Int) then (if 0 ≤ s0_1 then (some (Go.bits .and .i64 (wrap64 ((Go.bits .and .i64 (Go.bits .xor .i64 ((wrap64 ((wrap64 (s0_2 * 6364136223846793005)) + 1442695040888963407)) / 8589934592) ((wrap64 ((wrap64 (s0_2 * 6364136223846793005)) + 1442695040888963407)) / 35184372088832)) 255) + (wrap64 (rd s0_0 s0_1)))) 255, wrap64 (s0_1 + 1), wrap64 ((wrap64 (s0_2 * 6364136223846793005)) + 1442695040888963407))) else (none)) else (some (Go.bits .and .i64 (Go.bits .xor .i64 ((wrap64 ((wrap64 (s0_2 * 6364136223846793005)) + 1442695040888963407)) / 8589934592) ((wrap64 ((wrap64 (s0_2 * 6364136223846793005)) + 1442695040888963407)) / 35184372088832)) 255, s0_1, wrap64 ((wrap64 (s0_2 * 6364136223846793005)) + 1442695040888963407)))
set_option maxHeartbeats 8000000 in
set_option maxRecDepth 100000 in
theorem spec_l01Byte.calls (g : Nat) (s0_0 : List Int) (s0_1 : Int) (s0_2 : Int) (r1 : Int) (r2 : Int) (r3 : Int) (w0 w : World) (hI : IsS48 w0 w g s0_0 s0_1 s0_2) (hB : Below w0.heap.size w0 w) (h : spec_l01Byte.f s0_0 s0_1 s0_2 = some (r1, r2, r3)) :
  Calls Tryd.prog 20 #[.pointer (some ⟨g, 0, none⟩)] w fun e w' => e = .returned (.int .i64 r1) ∧ IsS48 w0 w' g s0_0 r2 r3 ∧ Below w0.heap.size w0 w' ∧ KeepBut w w' g none := by
 have HI0 := Aside0.mk hI
 have HK := Aside0.mk (KeepBut.refl w g none)
 have HL := Aside0.mk hB.size
 clear hI
 have HW0 := Aside0.mk hB.size
 have HB := Aside0.mk hB
 clear hB
 have H : (if s0_1 < (s0_0.length : Int) then (if 0 ≤ s0_1 then (some (Go.bits .and .i64 (wrap64 ((Go.bits .and .i64 (Go.bits .xor .i64 ((wrap64 ((wrap64 (s0_2 * 6364136223846793005)) + 1442695040888963407)) / 8589934592) ((wrap64 ((wrap64 (s0_2 * 6364136223846793005)) + 1442695040888963407)) / 35184372088832)) 255) + (wrap64 (rd s0_0 s0_1)))) 255, wrap64 (s0_1 + 1), wrap64 ((wrap64 (s0_2 * 6364136223846793005)) + 1442695040888963407))) else (none)) else (some (Go.bits .and .i64 (Go.bits .xor .i64 ((wrap64 ((wrap64 (s0_2 * 6364136223846793005)) + 1442695040888963407)) / 8589934592) ((wrap64 ((wrap64 (s0_2 * 6364136223846793005)) + 1442695040888963407)) / 35184372088832)) 255, s0_1, wrap64 ((wrap64 (s0_2 * 6364136223846793005)) + 1442695040888963407)))) = some (r1, r2, r3) := h
 clear h
 by_cases c2 : s0_1 < (s0_0.length : Int)
 ·rw [if_pos c2] at H
  have c2b0 : decide (s0_1 < (s0_0.length : Int)) = true := decide_eq_true c2
  clear c2
  by_cases c3 : 0 ≤ s0_1
  ·rw [if_pos c3] at H
   have c3b0 : decide (0 ≤ s0_1) = true := decide_eq_true c3
   clear c3
   simp only [Option.some.injEq, Prod.mk.injEq] at H
   obtain ⟨rfl, rfl, rfl⟩ := H
   obtain ⟨ASz4_0, cSz4_0, HGz4, hgz4, HSz4_0⟩ := HI0.out
   have hcz4_0 := cellS48_0 HGz4
   have hcz4_1 := cellS48_1 HGz4
   have hcz4_2 := cellS48_2 HGz4
   have hfz4_1 := blk_frozen HGz4 1
   have hfz4_2 := blk_frozen HGz4 2
   clear HGz4 hgz4
   have p155 : 0 ≤ (s0_1 : Int) := ofA
   have q155 : s0_1 < (s0_0.length : Int) := ofA
   obtain ⟨ad155, e155, hx155_0⟩ := Kd.at_int HSz4_0 s0_1 p155 q155
   cases e155
   have hn155_0 : ad155.block ≠ g := Nat.ne_of_lt (Nat.lt_of_lt_of_le (by have := World.block_lt_of_cell? _ _ hx155_0; first | rwa [add_block] at this | exact this) (IsS48.ge HI0.out))
   replace hx155_0 := pw_cell_below HB.out hx155_0
   replace hx155_0 := (cell_far (p := ⟨g, 2, none⟩) (by first | (rw [add_block]; exact hn155_0) | (show (Addr.add _ _).block ≠ _; rw [add_block]; exact hn155_0) | exact hn155_0) (.int .i64 (wrap64 ((wrap64 (s0_2 * 6364136223846793005)) + 1442695040888963407)))).trans hx155_0
   (try have hy155_0 := fun (n_ : Nat) => (show (((w.drewN n_).setCell ⟨g, 2, none⟩ (.int .i64 (wrap64 ((wrap64 (s0_2 * 6364136223846793005)) + 1442695040888963407))))).cell? _ = some _ from hx155_0))
   clear hn155_0
   replace p155 := eq_true p155
   replace q155 := eq_true q155
   go_enter Tryd.func20, Tryd.ntmps20
   go_wp2
   repeat (go_quiet (fail); try go_wp2)
   go_ret
   exact ⟨by first | rfl | (simp [errW_none, errW_some] <;> rfl) | (simp [*, errW_none, errW_some] <;> rfl), by repeat (first | (with_reducible first | exact HI0.out | apply IsS48.alloc | apply IsS48.drewN | apply IsS48.drew | apply IsS48.set_1 | apply IsS48.set_2) | exact HI0.out), by repeat (first | (with_reducible first | exact HB.out | apply below_alloc | apply pw_below_drewN | apply below_drew1 | refine below_set ?_ (IsS48.ge HI0.out)) | exact HB.out), by repeat (first | (with_reducible first | exact HK.out | apply KeepBut.set_ | apply keep_drewN | apply keep_drew | apply keep_alloc) | exact HK.out)⟩
  rw [if_neg c3] at H
  exact absurd H (by simp)
 rw [if_neg c2] at H
 have c2b0 : decide (s0_1 < (s0_0.length : Int)) = false := decide_eq_false c2
 clear c2
 simp only [Option.some.injEq, Prod.mk.injEq] at H
 obtain ⟨rfl, rfl, rfl⟩ := H
 obtain ⟨ASz5_0, cSz5_0, HGz5, hgz5, HSz5_0⟩ := HI0.out
 have hcz5_0 := cellS48_0 HGz5
 have hcz5_1 := cellS48_1 HGz5
 have hcz5_2 := cellS48_2 HGz5
 have hfz5_1 := blk_frozen HGz5 1
 have hfz5_2 := blk_frozen HGz5 2
 clear HGz5 hgz5
 go_enter Tryd.func20, Tryd.ntmps20
 go_wp2
 repeat (go_quiet (fail); try go_wp2)
 go_ret
 exact ⟨by first | rfl | (simp [errW_none, errW_some] <;> rfl) | (simp [*, errW_none, errW_some] <;> rfl), by repeat (first | (with_reducible first | exact HI0.out | apply IsS48.alloc | apply IsS48.drewN | apply IsS48.drew | apply IsS48.set_1 | apply IsS48.set_2) | exact HI0.out), by repeat (first | (with_reducible first | exact HB.out | apply below_alloc | apply pw_below_drewN | apply below_drew1 | refine below_set ?_ (IsS48.ge HI0.out)) | exact HB.out), by repeat (first | (with_reducible first | exact HK.out | apply KeepBut.set_ | apply keep_drewN | apply keep_drew | apply keep_alloc) | exact HK.out)⟩
def spec_l01New.l0 : Nat → List Int → Int → Int → Option (List Int × Int × Int)
 | 0, _, _, _ => none
 | k + 1, x0, x3, x4 => if x4 < (x0.length : Int) then (if x4 < 4000 then (if 0 ≤ x4 then (spec_l01New.l0 k x0 (Go.bits .and .i64 (wrap64 ((wrap64 ((wrap64 (x3 * 97)) + (wrap64 (rd x0 x4)))) + 7)) 1073741823) (wrap64 (x4 + 1))) else (none)) else (some (x0, 0, x3))) else (some (x0, 0, x3))
def spec_l01New.f (k : Nat) (l0 : List Int) : Option (List Int × Int × Int) := spec_l01New.l0 k l0 (wrap64 (2069 + (l0.length : Int))) 0
set_option maxHeartbeats 8000000 in
set_option maxRecDepth 100000 in
theorem spec_l01New.callsX (k : Nat) (A0 : Option Addr) (c0 : Nat) (l0 : List Int) (r1 : List Int) (r2 : Int) (r3 : Int) (w0 w : World) (hB : Below w0.heap.size w0 w) (hr0 : Kd.C (Kd.int .u8) w0 A0 l0.length l0) (hc0 : l0.length ≤ c0) (h : spec_l01New.f k l0 = some (r1, r2, r3)) :
  Calls Tryd.prog 21 #[.slice A0 l0.length c0] w fun e w' => ∃ g_ : Nat, e = .returned (.pointer (some ⟨g_, 0, none⟩)) ∧ IsS48 w0 w' g_ r1 r2 r3 ∧ Below w0.heap.size w0 w' ∧ Below w.heap.size w w' ∧ w.heap.size ≤ g_ := by
 have hu48 := Tryd.underlying48
 have HR0 := Aside0.mk hr0
 have HC0 := Aside0.mk hc0
 clear hr0 hc0
 have HBW := Aside0.mk (Below.refl w.heap.size w)
 have HW0 := Aside0.mk hB.size
 have HB := Aside0.mk hB
 clear hB
 have H : (spec_l01New.l0 k l0 (wrap64 (2069 + (l0.length : Int))) 0) = some (r1, r2, r3) := h
 clear h
 have H' := Aside0.mk H
 clear H
 go_enter Tryd.func21, Tryd.ntmps21
 go_wp2
 go_loopg [3, 4] k (fun kq v3 v4 w' => ∃ (x3_1 : Int) (x4_1 : Int), v3 = .int .i64 x3_1 ∧ v4 = .int .i64 x4_1 ∧ Aside0 (spec_l01New.l0 kq l0 x3_1 x4_1 = some (r1, r2, r3)) ∧ Aside0 (kq ≤ k) ∧ Aside0 (Below w0.heap.size w0 w') ∧ Aside0 (Below w.heap.size w w'))
 case atStart => exact ⟨(wrap64 (2069 + (l0.length : Int))), (0), eqA, eqA, H', ⟨Nat.le_refl _⟩, ⟨by exact Lz HB⟩, ⟨by exact Lz HBW⟩⟩
 case round =>
  clear H'
  obtain ⟨x3_1, x4_1, rfl, rfl, HA, HK1, HB, HBW⟩ := hrel
  cases gk with
  | zero => exact absurd HA.out (by simp [spec_l01New.l0])
  | succ k1 =>
   have H := HA.out
   clear HA
   simp only [spec_l01New.l0] at H
   by_cases c2 : x4_1 < (l0.length : Int)
   ·rw [if_pos c2] at H
    have c2b0 : decide (x4_1 < (l0.length : Int)) = true := decide_eq_true c2
    clear c2
    by_cases c3 : x4_1 < 4000
    ·rw [if_pos c3] at H
     have c3b0 : decide (x4_1 < 4000) = true := decide_eq_true c3
     clear c3
     by_cases c4 : 0 ≤ x4_1
     ·rw [if_pos c4] at H
      have c4b0 : decide (0 ≤ x4_1) = true := decide_eq_true c4
      clear c4
      have H' := Aside0.mk H
      clear H
      have p156 : 0 ≤ (x4_1 : Int) := ofA
      have q156 : x4_1 < (l0.length : Int) := ofA
      obtain ⟨ad156, e156, hx156_0⟩ := Kd.at_int HR0.out x4_1 p156 q156
      cases e156
      replace hx156_0 := pw_cell_below HB.out hx156_0
      replace p156 := eq_true p156
      replace q156 := eq_true q156
      go_wp2
      go_roundg k1
      case measure => have := HK1.out; omega
      case rel => exact ⟨(Go.bits .and .i64 (wrap64 ((wrap64 ((wrap64 (x3_1 * 97)) + (wrap64 (rd l0 x4_1)))) + 7)) 1073741823), (wrap64 (x4_1 + 1)), eqA, eqA, H', ⟨by have := HK1.out; omega⟩, ⟨by exact Lz HB⟩, ⟨by exact Lz HBW⟩⟩
     rw [if_neg c4] at H
     exact absurd H (by simp)
    rw [if_neg c3] at H
    have c3b0 : decide (x4_1 < 4000) = false := decide_eq_false c3
    clear c3
    simp only [Option.some.injEq, Prod.mk.injEq] at H
    obtain ⟨rfl, rfl, rfl⟩ := H
    go_wp2_with (first | ((with_reducible refine gate_dst (N := 31) rfl ?_); refine box_event ?hg (N := 31) ?hd (cs := #[.slice A0 l0.length c0, .int .i64 0, .int .i64 x3_1]) (t := 48) ?hr ?_; (case hd => rfl); (case hg => rfl); (case hr => first | (go_simp; done) | (go_simp; rfl)); intro gb157 hg w5 hbox hb; replace HB := Aside0.mk (below_step (Lz HB) hb); have BK157 := Aside0.mk (hbox); have GW157 := Aside0.mk ((by rw [hg]; exact (below_size (Lz HBW)) : w.heap.size ≤ gb157)); have GE157 := Aside0.mk ((Nat.le_trans HW0.out (by rw [hg]; exact (below_size (Lz HBW)) : w.heap.size ≤ gb157) : w0.heap.size ≤ gb157)); replace HBW := Aside0.mk (below_step HBW.out hb); clear hb hbox hg))
    go_ret
    exact ⟨_, rfl, (show IsS48 w0 _ gb157 l0 0 x3_1 from ⟨_, _, by exact Bz BK157, GE157.out, HR0.out⟩), by exact Lz1 HB GE157, by exact Lz1 HBW GW157, GW157.out⟩
   rw [if_neg c2] at H
   have c2b0 : decide (x4_1 < (l0.length : Int)) = false := decide_eq_false c2
   clear c2
   simp only [Option.some.injEq, Prod.mk.injEq] at H
   obtain ⟨rfl, rfl, rfl⟩ := H
   go_wp2_with (first | ((with_reducible refine gate_dst (N := 31) rfl ?_); refine box_event ?hg (N := 31) ?hd (cs := #[.slice A0 l0.length c0, .int .i64 0, .int .i64 x3_1]) (t := 48) ?hr ?_; (case hd => rfl); (case hg => rfl); (case hr => first | (go_simp; done) | (go_simp; rfl)); intro gb158 hg w6 hbox hb; replace HB := Aside0.mk (below_step (Lz HB) hb); have BK158 := Aside0.mk (hbox); have GW158 := Aside0.mk ((by rw [hg]; exact (below_size (Lz HBW)) : w.heap.size ≤ gb158)); have GE158 := Aside0.mk ((Nat.le_trans HW0.out (by rw [hg]; exact (below_size (Lz HBW)) : w.heap.size ≤ gb158) : w0.heap.size ≤ gb158)); replace HBW := Aside0.mk (below_step HBW.out hb); clear hb hbox hg))
   go_ret
   exact ⟨_, rfl, (show IsS48 w0 _ gb158 l0 0 x3_1 from ⟨_, _, by exact Bz BK158, GE158.out, HR0.out⟩), by exact Lz1 HB GE158, by exact Lz1 HBW GW158, GW158.out⟩
theorem spec_l01New.calls (k : Nat) (A0 : Option Addr) (c0 : Nat) (l0 : List Int) (r1 : List Int) (r2 : Int) (r3 : Int) (w0 w : World) (hB : Below w0.heap.size w0 w) (hr0 : Kd.C (Kd.int .u8) w0 A0 l0.length l0) (hc0 : l0.length ≤ c0) (h : spec_l01New.f k l0 = some (r1, r2, r3)) :
  Calls Tryd.prog 21 #[.slice A0 l0.length c0] w fun e w' => ∃ g_ : Nat, e = .returned (.pointer (some ⟨g_, 0, none⟩)) ∧ IsS48 w0 w' g_ r1 r2 r3 ∧ Below w0.heap.size w0 w' ∧ Below w.heap.size w w' := (spec_l01New.callsX k A0 c0 l0 r1 r2 r3 w0 w hB hr0 hc0 h).mono fun e w' ⟨g, he, hi, hb, hb2, _⟩ => ⟨g, he, hi, hb, hb2⟩
def spec_l21New.l0 : Nat → Int → Int → List Int → Int → Int → Option (List Int × Int × Int)
 | 0, _, _, _, _, _ => none
 | k + 1, x1, x6, s0, s1, s2 => if x6 < x1 then ((spec_l01Byte.f s0 s1 s2).bind fun bt => (spec_l21New.l0 k x1 (wrap64 (x6 + 1)) s0 bt.2.1 bt.2.2)) else (some (s0, s1, s2))
def spec_l21New.f (k : Nat) (l0 : List Int) (a1 : Int) : Option (List Int × Int × Int) := (spec_l01New.f k l0).bind fun bt => (spec_l21New.l0 k a1 0 bt.1 bt.2.1 bt.2.2)
theorem spec_l21New.belowK {w0 w W W1 : World} {g : Nat} (h0 : Below w0.heap.size w0 w) (h : Below w.heap.size w W) (h1 : Below w0.heap.size w0 W1) (hk : KeepBut W W1 g none) (hg : w.heap.size ≤ g) : Below w.heap.size w W1 :=
 ⟨h1.os.trans h0.os.symm, h1.tape.trans h0.tape.symm, h1.output.trans h0.output.symm, Nat.le_trans h.size hk.1, fun i hi => (hk.2 i (Nat.lt_of_lt_of_le hi h.size) (by omega) (by simp)).trans (h.block i hi)⟩
set_option maxHeartbeats 8000000 in
set_option maxRecDepth 100000 in
theorem spec_l21New.calls (k : Nat) (A0 : Option Addr) (c0 : Nat) (l0 : List Int) (a1 : Int) (r1 : List Int) (r2 : Int) (r3 : Int) (w0 w : World) (hB : Below w0.heap.size w0 w) (hr0 : Kd.C (Kd.int .u8) w0 A0 l0.length l0) (hc0 : l0.length ≤ c0) (h : spec_l21New.f k l0 a1 = some (r1, r2, r3)) :
  Calls Tryd.prog 19 #[.slice A0 l0.length c0, .int .i64 a1] w fun e w' => ∃ g_ : Nat, e = .returned (.pointer (some ⟨g_, 0, none⟩)) ∧ IsS48 w0 w' g_ r1 r2 r3 ∧ Below w0.heap.size w0 w' ∧ Below w.heap.size w w' := by
 have hu48 := Tryd.underlying48
 have HR0 := Aside0.mk hr0
 have HC0 := Aside0.mk hc0
 clear hr0 hc0
 have HBW := Aside0.mk (Below.refl w.heap.size w)
 have HBo := Aside0.mk hB
 have HB := Aside0.mk hB
 clear hB
 have H : ((spec_l01New.f k l0).bind fun bt => (spec_l21New.l0 k a1 0 bt.1 bt.2.1 bt.2.2)) = some (r1, r2, r3) := h
 clear h
 replace H := Option.bind_eq_some_iff.mp H
 obtain ⟨⟨t1, t2, t3⟩, A20, H⟩ := H
 replace H : spec_l21New.l0 k a1 0 t1 t2 t3 = some (r1, r2, r3) := H
 have A2 := Aside0.mk A20
 clear A20
 have H' := Aside0.mk H
 clear H
 go_enter Tryd.func19, Tryd.ntmps19
 go_wp2_with (first | ((with_reducible refine gate_callee (f := 21) rfl ?_); refine goesM_ (some 8) rfl rfl Tryd.func21 (by kernel_rfl) rfl #[.slice A0 l0.length c0] rfl ?_; (with_reducible refine (spec_l01New.callsX k _ _ l0 t1 t2 t3 w0 _ ?side1 ?side2 ?side3 A2.out).mono ?_); (case side1 => exact Lz HB); (case side2 => exact HR0.out); (case side3 => exact HC0.out); rintro e w5 ⟨g1, rfl, hi, hb, hb2, hg⟩; refine ⟨_, rfl, ?_⟩; have GW1 := Aside0.mk (Nat.le_trans (below_size (Lz HBW)) hg : w.heap.size ≤ g1); replace HB := Aside0.mk hb; replace HBW := Aside0.mk (below_step (Lz HBW) hb2); have HI1 := Aside0.mk hi; clear hb hb2 hi hg))
 go_loopg [6] k (fun kq v6 w' => ∃ (x6_1 : Int) (s1_1 : Int) (s2_1 : Int), v6 = .int .i64 x6_1 ∧ Aside0 (spec_l21New.l0 kq a1 x6_1 t1 s1_1 s2_1 = some (r1, r2, r3)) ∧ Aside0 (kq ≤ k) ∧ Aside0 (IsS48 w0 w' g1 t1 s1_1 s2_1) ∧ Aside0 (Below w0.heap.size w0 w') ∧ Aside0 (Below w.heap.size w w'))
 case atStart => exact ⟨(0), t2, t3, eqA, H', ⟨Nat.le_refl _⟩, ⟨by repeat (first | (with_reducible first | exact HI1.out | apply IsS48.alloc | apply IsS48.drewN | apply IsS48.drew) | exact HI1.out)⟩, ⟨by exact Lz HB⟩, ⟨by exact Lz HBW⟩⟩
 case round =>
  clear H' HI1 HB HBW
  obtain ⟨x6_1, s1_1, s2_1, rfl, HA, HK1, HI1, HB, HBW⟩ := hrel
  cases gk with
  | zero => exact absurd HA.out (by simp [spec_l21New.l0])
  | succ k1 =>
   have H := HA.out
   clear HA
   simp only [spec_l21New.l0] at H
   by_cases c2 : x6_1 < a1
   ·rw [if_pos c2] at H
    have c2b0 : decide (x6_1 < a1) = true := decide_eq_true c2
    clear c2
    replace H := Option.bind_eq_some_iff.mp H
    obtain ⟨⟨b1, b2, b3⟩, A30, H⟩ := H
    replace H : spec_l21New.l0 k1 a1 (wrap64 (x6_1 + 1)) t1 b2 b3 = some (r1, r2, r3) := H
    have A3 := Aside0.mk A30
    clear A30
    have H' := Aside0.mk H
    clear H
    go_wp2_with (first | ((with_reducible refine gate_callee (f := 20) rfl ?_); refine goesM_ (some 15) rfl rfl Tryd.func20 (by kernel_rfl) rfl #[.pointer (some ⟨g1, 0, none⟩)] rfl ?_; (with_reducible refine (spec_l01Byte.calls g1 t1 s1_1 s2_1 b1 b2 b3 w0 _ ?side1 ?side2 A3.out).mono ?_); (case side1 => repeat (first | (with_reducible first | exact HI1.out | apply IsS48.alloc | apply IsS48.drewN | apply IsS48.drew) | exact HI1.out)); (case side2 => exact Lz HB); rintro e w7 ⟨rfl, hi, hb, hk⟩; refine ⟨_, rfl, ?_⟩; replace HBW := Aside0.mk (spec_l21New.belowK HBo.out (Lz HBW) hb hk GW1.out); replace HB := Aside0.mk hb; replace HI1 := Aside0.mk hi; clear hb hi hk))
    go_roundg k1
    case measure => have := HK1.out; omega
    case rel => exact ⟨(wrap64 (x6_1 + 1)), b2, b3, eqA, H', ⟨by have := HK1.out; omega⟩, ⟨by repeat (first | (with_reducible first | exact HI1.out | apply IsS48.alloc | apply IsS48.drewN | apply IsS48.drew) | exact HI1.out)⟩, ⟨by exact Lz HB⟩, ⟨by exact Lz HBW⟩⟩
   rw [if_neg c2] at H
   have c2b0 : decide (x6_1 < a1) = false := decide_eq_false c2
   clear c2
   have H1 := Option.some.inj H
   simp only [Prod.mk.injEq] at H1
   obtain ⟨rfl, rfl, rfl⟩ := H1
   clear H
   go_wp2
   go_ret
   exact ⟨_, rfl, by repeat (first | (with_reducible first | exact HI1.out | apply IsS48.alloc | apply IsS48.drewN | apply IsS48.drew) | exact HI1.out), by exact Lz HB, by exact Lz HBW⟩
def spec_MakeNum.f (k : Nat) (l0 : List Int) (a1 : Int) : Option (Int) := (spec_l21New.f k l0 a1).bind fun bt159 => ((spec_l01Byte.f bt159.1 bt159.2.1 bt159.2.2).bind fun bt163 => ((spec_l01Byte.f bt159.1 bt163.2.1 bt163.2.2).bind fun bt166 => (some (wrap64 ((wrap64 (bt163.1 * 256)) + bt166.1)))))
set_option maxHeartbeats 8000000 in
set_option maxRecDepth 100000 in
theorem spec_MakeNum.calls (k : Nat) (A0 : Option Addr) (c0 : Nat) (l0 : List Int) (a1 : Int) (r : Int) (w : World) (hr0 : Kd.C (Kd.int .u8) w A0 l0.length l0) (hc0 : l0.length ≤ c0) (h : spec_MakeNum.f k l0 a1 = some r) :
  Calls Tryd.prog 10 #[.slice A0 l0.length c0, .int .i64 a1] w fun e w' => e = .returned (.int .i64 r) ∧ Below w.heap.size w w' := by
 have HR0 := Aside0.mk hr0
 have HC0 := Aside0.mk hc0
 clear hr0 hc0
 have HB := Aside0.mk (Below.refl w.heap.size w)
 have H : ((spec_l21New.f k l0 a1).bind fun bt159 => ((spec_l01Byte.f bt159.1 bt159.2.1 bt159.2.2).bind fun bt163 => ((spec_l01Byte.f bt159.1 bt163.2.1 bt163.2.2).bind fun bt166 => (some (wrap64 ((wrap64 (bt163.1 * 256)) + bt166.1)))))) = some r := h
 clear h
 replace H := Option.bind_eq_some_iff.mp H
 obtain ⟨⟨t159, t160, t161⟩, A30, H⟩ := H
 replace H : ((spec_l01Byte.f t159 t160 t161).bind fun bt163 => ((spec_l01Byte.f t159 bt163.2.1 bt163.2.2).bind fun bt166 => (some (wrap64 ((wrap64 (bt163.1 * 256)) + bt166.1))))) = some r := H
 have A3 := Aside0.mk A30
 clear A30
 replace H := Option.bind_eq_some_iff.mp H
 obtain ⟨⟨t163, t164, t165⟩, A40, H⟩ := H
 replace H : ((spec_l01Byte.f t159 t164 t165).bind fun bt166 => (some (wrap64 ((wrap64 (t163 * 256)) + bt166.1)))) = some r := H
 have A4 := Aside0.mk A40
 clear A40
 replace H := Option.bind_eq_some_iff.mp H
 obtain ⟨⟨t166, t167, t168⟩, A50, H⟩ := H
 replace H : (some (wrap64 ((wrap64 (t163 * 256)) + t166))) = some r := H
 have A5 := Aside0.mk A50
 clear A50
 obtain rfl := Option.some.inj H
 go_enter Tryd.func10, Tryd.ntmps10
 go_wp2_with (first | ((with_reducible refine gate_callee (f := 19) rfl ?_); refine goesM_ (some 8) rfl rfl Tryd.func19 (by kernel_rfl) rfl #[.slice A0 l0.length c0, .int .i64 a1] rfl ?_; (with_reducible refine (spec_l21New.calls k _ _ l0 a1 t159 t160 t161 w _ ?side1 ?side2 ?side3 A3.out).mono ?_); (case side1 => exact Lz HB); (case side2 => exact HR0.out); (case side3 => exact HC0.out); rintro e w6 ⟨g162, rfl, hi, hb, hb2⟩; refine ⟨_, rfl, ?_⟩; replace HB := Aside0.mk (hb); have HI162 := Aside0.mk (hi); (try clear hb); (try clear hb2); (try clear hk); (try clear hi)) | ((with_reducible refine gate_callee (f := 20) rfl ?_); refine goesM_ (some 10) rfl rfl Tryd.func20 (by kernel_rfl) rfl #[.pointer (some ⟨g162, 0, none⟩)] rfl ?_; (with_reducible refine (spec_l01Byte.calls g162 t159 t160 t161 t163 t164 t165 w _ ?side1 ?side2 A4.out).mono ?_); (case side1 => repeat (first | (with_reducible first | exact HI162.out | apply IsS48.alloc | apply IsS48.drewN | apply IsS48.drew | apply IsS48.set_1 | apply IsS48.set_2) | exact HI162.out)); (case side2 => repeat (first | (with_reducible first | exact HB.out | apply below_alloc | apply pw_below_drewN | apply below_drew1 | refine below_set ?_ (IsS48.ge HI162.out)) | exact HB.out)); rintro e w7 ⟨rfl, hi, hb, hk⟩; refine ⟨_, rfl, ?_⟩; replace HB := Aside0.mk (hb); replace HI162 := Aside0.mk (hi); (try clear hb); (try clear hb2); (try clear hk); (try clear hi)) | ((with_reducible refine gate_callee (f := 20) rfl ?_); refine goesM_ (some 13) rfl rfl Tryd.func20 (by kernel_rfl) rfl #[.pointer (some ⟨g162, 0, none⟩)] rfl ?_; (with_reducible refine (spec_l01Byte.calls g162 t159 t164 t165 t166 t167 t168 w _ ?side1 ?side2 A5.out).mono ?_); (case side1 => repeat (first | (with_reducible first | exact HI162.out | apply IsS48.alloc | apply IsS48.drewN | apply IsS48.drew | apply IsS48.set_1 | apply IsS48.set_2) | exact HI162.out)); (case side2 => repeat (first | (with_reducible first | exact HB.out | apply below_alloc | apply pw_below_drewN | apply below_drew1 | refine below_set ?_ (IsS48.ge HI162.out)) | exact HB.out)); rintro e w8 ⟨rfl, hi, hb, hk⟩; refine ⟨_, rfl, ?_⟩; replace HB := Aside0.mk (hb); replace HI162 := Aside0.mk (hi); (try clear hb); (try clear hb2); (try clear hk); (try clear hi)))
 go_ret
 exact ⟨by first | rfl | (simp [errW_none, errW_some] <;> rfl) | (simp [*, errW_none, errW_some] <;> rfl), by repeat (first | (with_reducible first | exact HB.out | apply below_alloc | apply pw_below_drewN | apply below_drew1 | refine below_set ?_ (IsS48.ge HI162.out)) | exact HB.out)⟩
def spec_l01Below.f (s0_0 : List Int) (s0_1 : Int) (s0_2 : Int) (a1 : Int) : Option (Int × Int × Int) := if a1 ≤ 0 then (some (0, s0_1, s0_2)) else (if a1 ≤ 256 then ((spec_l01Byte.f s0_0 s0_1 s0_2).bind fun bt169 => (if a1 = 0 then (none) else (some (Int.tmod bt169.1 a1, bt169.2.1, bt169.2.2)))) else ((spec_l01Byte.f s0_0 s0_1 s0_2).bind fun bt172 => ((spec_l01Byte.f s0_0 bt172.2.1 bt172.2.2).bind fun bt175 => ((spec_l01Byte.f s0_0 bt175.2.1 bt175.2.2).bind fun bt178 => ((spec_l01Byte.f s0_0 bt178.2.1 bt178.2.2).bind fun bt181 => (if a1 = 0 then (none) else (some (Int.tmod (wrap64 ((wrap64 ((wrap64 ((wrap64 (bt172.1 * 16777216)) + (wrap64 (bt175.1 * 65536)))) + (wrap64 (bt178.1 * 256)))) + bt181.1)) a1, bt181.2.1, bt181.2.2))))))))
set_option maxHeartbeats 8000000 in
set_option maxRecDepth 100000 in
theorem spec_l01Below.calls (g : Nat) (s0_0 : List Int) (s0_1 : Int) (s0_2 : Int) (a1 : Int) (r1 : Int) (r2 : Int) (r3 : Int) (w0 w : World) (hI : IsS48 w0 w g s0_0 s0_1 s0_2) (hB : Below w0.heap.size w0 w) (h : spec_l01Below.f s0_0 s0_1 s0_2 a1 = some (r1, r2, r3)) :
  Calls Tryd.prog 22 #[.pointer (some ⟨g, 0, none⟩), .int .i64 a1] w fun e w' => e = .returned (.int .i64 r1) ∧ IsS48 w0 w' g s0_0 r2 r3 ∧ Below w0.heap.size w0 w' ∧ KeepBut w w' g none := by
 have HI0 := Aside0.mk hI
 have HK := Aside0.mk (KeepBut.refl w g none)
 have HL := Aside0.mk hB.size
 clear hI
 have HW0 := Aside0.mk hB.size
 have HB := Aside0.mk hB
 clear hB
 have H : (if a1 ≤ 0 then (some (0, s0_1, s0_2)) else (if a1 ≤ 256 then ((spec_l01Byte.f s0_0 s0_1 s0_2).bind fun bt169 => (if a1 = 0 then (none) else (some (Int.tmod bt169.1 a1, bt169.2.1, bt169.2.2)))) else ((spec_l01Byte.f s0_0 s0_1 s0_2).bind fun bt172 => ((spec_l01Byte.f s0_0 bt172.2.1 bt172.2.2).bind fun bt175 => ((spec_l01Byte.f s0_0 bt175.2.1 bt175.2.2).bind fun bt178 => ((spec_l01Byte.f s0_0 bt178.2.1 bt178.2.2).bind fun bt181 => (if a1 = 0 then (none) else (some (Int.tmod (wrap64 ((wrap64 ((wrap64 ((wrap64 (bt172.1 * 16777216)) + (wrap64 (bt175.1 * 65536)))) + (wrap64 (bt178.1 * 256)))) + bt181.1)) a1, bt181.2.1, bt181.2.2))))))))) = some (r1, r2, r3) := h
 clear h
 by_cases c3 : a1 ≤ 0
 ·rw [if_pos c3] at H
  have c3b0 : decide (a1 ≤ 0) = true := decide_eq_true c3
  clear c3
  simp only [Option.some.injEq, Prod.mk.injEq] at H
  obtain ⟨rfl, rfl, rfl⟩ := H
  go_enter Tryd.func22, Tryd.ntmps22
  go_wp2
  go_ret
  exact ⟨by first | rfl | (simp [errW_none, errW_some] <;> rfl) | (simp [*, errW_none, errW_some] <;> rfl), by repeat (first | (with_reducible first | exact HI0.out | apply IsS48.alloc | apply IsS48.drewN | apply IsS48.drew | apply IsS48.set_1 | apply IsS48.set_2) | exact HI0.out), by repeat (first | (with_reducible first | exact HB.out | apply below_alloc | apply pw_below_drewN | apply below_drew1 | refine below_set ?_ (IsS48.ge HI0.out)) | exact HB.out), by repeat (first | (with_reducible first | exact HK.out | apply KeepBut.set_ | apply keep_drewN | apply keep_drew | apply keep_alloc) | exact HK.out)⟩
 rw [if_neg c3] at H
 have c3b0 : decide (a1 ≤ 0) = false := decide_eq_false c3
 clear c3
 by_cases c4 : a1 ≤ 256
 ·rw [if_pos c4] at H
  have c4b0 : decide (a1 ≤ 256) = true := decide_eq_true c4
  clear c4
  replace H := Option.bind_eq_some_iff.mp H
  obtain ⟨⟨t169, t170, t171⟩, A50, H⟩ := H
  replace H : (if a1 = 0 then (none) else (some (Int.tmod t169 a1, t170, t171))) = some (r1, r2, r3) := H
  have A5 := Aside0.mk A50
  clear A50
  by_cases c6 : a1 = 0
  ·rw [if_pos c6] at H
   exact absurd H (by simp)
  rw [if_neg c6] at H
  have c6b0 : (a1 == 0) = false := beq_eq_false_iff_ne.mpr c6
  have c6b1 : (a1 != 0) = true := bne_iff_ne.mpr c6
  simp only [Option.some.injEq, Prod.mk.injEq] at H
  obtain ⟨rfl, rfl, rfl⟩ := H
  go_enter Tryd.func22, Tryd.ntmps22
  go_wp2_with (first | ((with_reducible refine gate_callee (f := 20) rfl ?_); refine goesM_ (some 14) rfl rfl Tryd.func20 (by kernel_rfl) rfl #[.pointer (some ⟨g, 0, none⟩)] rfl ?_; (with_reducible refine (spec_l01Byte.calls g s0_0 s0_1 s0_2 t169 t170 t171 w0 _ ?side1 ?side2 A5.out).mono ?_); (case side1 => repeat (first | (with_reducible first | exact HI0.out | apply IsS48.alloc | apply IsS48.drewN | apply IsS48.drew | apply IsS48.set_1 | apply IsS48.set_2) | exact HI0.out)); (case side2 => repeat (first | (with_reducible first | exact HB.out | apply below_alloc | apply pw_below_drewN | apply below_drew1 | refine below_set ?_ (IsS48.ge HI0.out)) | exact HB.out)); rintro e w7 ⟨rfl, hi, hb, hk⟩; refine ⟨_, rfl, ?_⟩; replace HK := Aside0.mk (KeepBut.trans (by repeat (first | (with_reducible first | exact HK.out | apply KeepBut.set_ | apply keep_drewN | apply keep_drew | apply keep_alloc) | exact HK.out)) hk (.inl rfl)); replace HB := Aside0.mk (hb); replace HI0 := Aside0.mk (hi); (try clear hb); (try clear hb2); (try clear hk); (try clear hi)))
  go_ret
  exact ⟨by first | rfl | (simp [errW_none, errW_some] <;> rfl) | (simp [*, errW_none, errW_some] <;> rfl), by repeat (first | (with_reducible first | exact HI0.out | apply IsS48.alloc | apply IsS48.drewN | apply IsS48.drew | apply IsS48.set_1 | apply IsS48.set_2) | exact HI0.out), by repeat (first | (with_reducible first | exact HB.out | apply below_alloc | apply pw_below_drewN | apply below_drew1 | refine below_set ?_ (IsS48.ge HI0.out)) | exact HB.out), by repeat (first | (with_reducible first | exact HK.out | apply KeepBut.set_ | apply keep_drewN | apply keep_drew | apply keep_alloc) | exact HK.out)⟩
 rw [if_neg c4] at H
 have c4b0 : decide (a1 ≤ 256) = false := decide_eq_false c4
 clear c4
 replace H := Option.bind_eq_some_iff.mp H
 obtain ⟨⟨t172, t173, t174⟩, A80, H⟩ := H
 replace H : ((spec_l01Byte.f s0_0 t173 t174).bind fun bt175 => ((spec_l01Byte.f s0_0 bt175.2.1 bt175.2.2).bind fun bt178 => ((spec_l01Byte.f s0_0 bt178.2.1 bt178.2.2).bind fun bt181 => (if a1 = 0 then (none) else (some (Int.tmod (wrap64 ((wrap64 ((wrap64 ((wrap64 (t172 * 16777216)) + (wrap64 (bt175.1 * 65536)))) + (wrap64 (bt178.1 * 256)))) + bt181.1)) a1, bt181.2.1, bt181.2.2)))))) = some (r1, r2, r3) := H
 have A8 := Aside0.mk A80
 clear A80
 replace H := Option.bind_eq_some_iff.mp H
 obtain ⟨⟨t175, t176, t177⟩, A90, H⟩ := H
 replace H : ((spec_l01Byte.f s0_0 t176 t177).bind fun bt178 => ((spec_l01Byte.f s0_0 bt178.2.1 bt178.2.2).bind fun bt181 => (if a1 = 0 then (none) else (some (Int.tmod (wrap64 ((wrap64 ((wrap64 ((wrap64 (t172 * 16777216)) + (wrap64 (t175 * 65536)))) + (wrap64 (bt178.1 * 256)))) + bt181.1)) a1, bt181.2.1, bt181.2.2))))) = some (r1, r2, r3) := H
 have A9 := Aside0.mk A90
 clear A90
 replace H := Option.bind_eq_some_iff.mp H
 obtain ⟨⟨t178, t179, t180⟩, A100, H⟩ := H
 replace H : ((spec_l01Byte.f s0_0 t179 t180).bind fun bt181 => (if a1 = 0 then (none) else (some (Int.tmod (wrap64 ((wrap64 ((wrap64 ((wrap64 (t172 * 16777216)) + (wrap64 (t175 * 65536)))) + (wrap64 (t178 * 256)))) + bt181.1)) a1, bt181.2.1, bt181.2.2)))) = some (r1, r2, r3) := H
 have A10 := Aside0.mk A100
 clear A100
 replace H := Option.bind_eq_some_iff.mp H
 obtain ⟨⟨t181, t182, t183⟩, A110, H⟩ := H
 replace H : (if a1 = 0 then (none) else (some (Int.tmod (wrap64 ((wrap64 ((wrap64 ((wrap64 (t172 * 16777216)) + (wrap64 (t175 * 65536)))) + (wrap64 (t178 * 256)))) + t181)) a1, t182, t183))) = some (r1, r2, r3) := H
 have A11 := Aside0.mk A110
 clear A110
 by_cases c12 : a1 = 0
 ·rw [if_pos c12] at H
  exact absurd H (by simp)
 rw [if_neg c12] at H
 have c12b0 : (a1 == 0) = false := beq_eq_false_iff_ne.mpr c12
 have c12b1 : (a1 != 0) = true := bne_iff_ne.mpr c12
 simp only [Option.some.injEq, Prod.mk.injEq] at H
 obtain ⟨rfl, rfl, rfl⟩ := H
 go_enter Tryd.func22, Tryd.ntmps22
 go_wp2_with (first | ((with_reducible refine gate_callee (f := 20) rfl ?_); refine goesM_ (some 18) rfl rfl Tryd.func20 (by kernel_rfl) rfl #[.pointer (some ⟨g, 0, none⟩)] rfl ?_; (with_reducible refine (spec_l01Byte.calls g s0_0 s0_1 s0_2 t172 t173 t174 w0 _ ?side1 ?side2 A8.out).mono ?_); (case side1 => repeat (first | (with_reducible first | exact HI0.out | apply IsS48.alloc | apply IsS48.drewN | apply IsS48.drew | apply IsS48.set_1 | apply IsS48.set_2) | exact HI0.out)); (case side2 => repeat (first | (with_reducible first | exact HB.out | apply below_alloc | apply pw_below_drewN | apply below_drew1 | refine below_set ?_ (IsS48.ge HI0.out)) | exact HB.out)); rintro e w13 ⟨rfl, hi, hb, hk⟩; refine ⟨_, rfl, ?_⟩; replace HK := Aside0.mk (KeepBut.trans (by repeat (first | (with_reducible first | exact HK.out | apply KeepBut.set_ | apply keep_drewN | apply keep_drew | apply keep_alloc) | exact HK.out)) hk (.inl rfl)); replace HB := Aside0.mk (hb); replace HI0 := Aside0.mk (hi); (try clear hb); (try clear hb2); (try clear hk); (try clear hi)) | ((with_reducible refine gate_callee (f := 20) rfl ?_); refine goesM_ (some 20) rfl rfl Tryd.func20 (by kernel_rfl) rfl #[.pointer (some ⟨g, 0, none⟩)] rfl ?_; (with_reducible refine (spec_l01Byte.calls g s0_0 t173 t174 t175 t176 t177 w0 _ ?side1 ?side2 A9.out).mono ?_); (case side1 => repeat (first | (with_reducible first | exact HI0.out | apply IsS48.alloc | apply IsS48.drewN | apply IsS48.drew | apply IsS48.set_1 | apply IsS48.set_2) | exact HI0.out)); (case side2 => repeat (first | (with_reducible first | exact HB.out | apply below_alloc | apply pw_below_drewN | apply below_drew1 | refine below_set ?_ (IsS48.ge HI0.out)) | exact HB.out)); rintro e w14 ⟨rfl, hi, hb, hk⟩; refine ⟨_, rfl, ?_⟩; replace HK := Aside0.mk (KeepBut.trans (by repeat (first | (with_reducible first | exact HK.out | apply KeepBut.set_ | apply keep_drewN | apply keep_drew | apply keep_alloc) | exact HK.out)) hk (.inl rfl)); replace HB := Aside0.mk (hb); replace HI0 := Aside0.mk (hi); (try clear hb); (try clear hb2); (try clear hk); (try clear hi)) | ((with_reducible refine gate_callee (f := 20) rfl ?_); refine goesM_ (some 22) rfl rfl Tryd.func20 (by kernel_rfl) rfl #[.pointer (some ⟨g, 0, none⟩)] rfl ?_; (with_reducible refine (spec_l01Byte.calls g s0_0 t176 t177 t178 t179 t180 w0 _ ?side1 ?side2 A10.out).mono ?_); (case side1 => repeat (first | (with_reducible first | exact HI0.out | apply IsS48.alloc | apply IsS48.drewN | apply IsS48.drew | apply IsS48.set_1 | apply IsS48.set_2) | exact HI0.out)); (case side2 => repeat (first | (with_reducible first | exact HB.out | apply below_alloc | apply pw_below_drewN | apply below_drew1 | refine below_set ?_ (IsS48.ge HI0.out)) | exact HB.out)); rintro e w15 ⟨rfl, hi, hb, hk⟩; refine ⟨_, rfl, ?_⟩; replace HK := Aside0.mk (KeepBut.trans (by repeat (first | (with_reducible first | exact HK.out | apply KeepBut.set_ | apply keep_drewN | apply keep_drew | apply keep_alloc) | exact HK.out)) hk (.inl rfl)); replace HB := Aside0.mk (hb); replace HI0 := Aside0.mk (hi); (try clear hb); (try clear hb2); (try clear hk); (try clear hi)) | ((with_reducible refine gate_callee (f := 20) rfl ?_); refine goesM_ (some 24) rfl rfl Tryd.func20 (by kernel_rfl) rfl #[.pointer (some ⟨g, 0, none⟩)] rfl ?_; (with_reducible refine (spec_l01Byte.calls g s0_0 t179 t180 t181 t182 t183 w0 _ ?side1 ?side2 A11.out).mono ?_); (case side1 => repeat (first | (with_reducible first | exact HI0.out | apply IsS48.alloc | apply IsS48.drewN | apply IsS48.drew | apply IsS48.set_1 | apply IsS48.set_2) | exact HI0.out)); (case side2 => repeat (first | (with_reducible first | exact HB.out | apply below_alloc | apply pw_below_drewN | apply below_drew1 | refine below_set ?_ (IsS48.ge HI0.out)) | exact HB.out)); rintro e w16 ⟨rfl, hi, hb, hk⟩; refine ⟨_, rfl, ?_⟩; replace HK := Aside0.mk (KeepBut.trans (by repeat (first | (with_reducible first | exact HK.out | apply KeepBut.set_ | apply keep_drewN | apply keep_drew | apply keep_alloc) | exact HK.out)) hk (.inl rfl)); replace HB := Aside0.mk (hb); replace HI0 := Aside0.mk (hi); (try clear hb); (try clear hb2); (try clear hk); (try clear hi)))
 go_ret
 exact ⟨by first | rfl | (simp [errW_none, errW_some] <;> rfl) | (simp [*, errW_none, errW_some] <;> rfl), by repeat (first | (with_reducible first | exact HI0.out | apply IsS48.alloc | apply IsS48.drewN | apply IsS48.drew | apply IsS48.set_1 | apply IsS48.set_2) | exact HI0.out), by repeat (first | (with_reducible first | exact HB.out | apply below_alloc | apply pw_below_drewN | apply below_drew1 | refine below_set ?_ (IsS48.ge HI0.out)) | exact HB.out), by repeat (first | (with_reducible first | exact HK.out | apply KeepBut.set_ | apply keep_drewN | apply keep_drew | apply keep_alloc) | exact HK.out)⟩
def spec_l01Str.f (s0_0 : List Int) (s0_1 : Int) (s0_2 : Int) (l1 : List ByteArray) : Option (ByteArray × Int × Int) := (spec_l01Below.f s0_0 s0_1 s0_2 (l1.length : Int)).bind fun bt184 => (if 0 ≤ bt184.1 then (if bt184.1 < (l1.length : Int) then (some (rdOf ByteArray.empty l1 bt184.1, bt184.2.1, bt184.2.2)) else (none)) else (none))
set_option maxHeartbeats 8000000 in
set_option maxRecDepth 100000 in
theorem spec_l01Str.calls (g : Nat) (s0_0 : List Int) (s0_1 : Int) (s0_2 : Int) (A1 : Option Addr) (c1 : Nat) (l1 : List ByteArray) (r1 : ByteArray) (r2 : Int) (r3 : Int) (w0 w : World) (hI : IsS48 w0 w g s0_0 s0_1 s0_2) (hB : Below w0.heap.size w0 w) (hr1 : Kd.C Kd.string w A1 l1.length l1) (hc1 : l1.length ≤ c1) (hf1 : ∀ ad, A1 = some ad → 0 < l1.length → ad.block ≠ g) (h : spec_l01Str.f s0_0 s0_1 s0_2 l1 = some (r1, r2, r3)) :
  Calls Tryd.prog 23 #[.pointer (some ⟨g, 0, none⟩), .slice A1 l1.length c1] w fun e w' => e = .returned (.string r1) ∧ IsS48 w0 w' g s0_0 r2 r3 ∧ Below w0.heap.size w0 w' ∧ KeepBut w w' g none := by
 have HR1 := Aside0.mk hr1
 have HC1 := Aside0.mk hc1
 clear hr1 hc1
 have HI0 := Aside0.mk hI
 have HK := Aside0.mk (KeepBut.refl w g none)
 have HL := Aside0.mk hB.size
 clear hI
 have HW0 := Aside0.mk hB.size
 have HB := Aside0.mk hB
 clear hB
 have H : ((spec_l01Below.f s0_0 s0_1 s0_2 (l1.length : Int)).bind fun bt184 => (if 0 ≤ bt184.1 then (if bt184.1 < (l1.length : Int) then (some (rdOf ByteArray.empty l1 bt184.1, bt184.2.1, bt184.2.2)) else (none)) else (none))) = some (r1, r2, r3) := h
 clear h
 replace H := Option.bind_eq_some_iff.mp H
 obtain ⟨⟨t184, t185, t186⟩, A30, H⟩ := H
 replace H : (if 0 ≤ t184 then (if t184 < (l1.length : Int) then (some (rdOf ByteArray.empty l1 t184, t185, t186)) else (none)) else (none)) = some (r1, r2, r3) := H
 have A3 := Aside0.mk A30
 clear A30
 by_cases c4 : 0 ≤ t184
 ·rw [if_pos c4] at H
  have c4b0 : decide (0 ≤ t184) = true := decide_eq_true c4
  clear c4
  by_cases c5 : t184 < (l1.length : Int)
  ·rw [if_pos c5] at H
   have c5b0 : decide (t184 < (l1.length : Int)) = true := decide_eq_true c5
   clear c5
   simp only [Option.some.injEq, Prod.mk.injEq] at H
   obtain ⟨rfl, rfl, rfl⟩ := H
   go_enter Tryd.func23, Tryd.ntmps23
   go_wp2_with (first | ((with_reducible refine gate_callee (f := 22) rfl ?_); refine goesM_ (some 9) rfl rfl Tryd.func22 (by kernel_rfl) rfl #[.pointer (some ⟨g, 0, none⟩), .int .i64 (l1.length : Int)] rfl ?_; (with_reducible refine (spec_l01Below.calls g s0_0 s0_1 s0_2 (l1.length : Int) t184 t185 t186 w0 _ ?side1 ?side2 A3.out).mono ?_); (case side1 => repeat (first | (with_reducible first | exact HI0.out | apply IsS48.alloc | apply IsS48.drewN | apply IsS48.drew | apply IsS48.set_1 | apply IsS48.set_2) | exact HI0.out)); (case side2 => repeat (first | (with_reducible first | exact HB.out | apply below_alloc | apply pw_below_drewN | apply below_drew1 | refine below_set ?_ (IsS48.ge HI0.out)) | exact HB.out)); rintro e w6 ⟨rfl, hi, hb, hk⟩; refine ⟨_, rfl, ?_⟩; replace HK := Aside0.mk (KeepBut.trans (by repeat (first | (with_reducible first | exact HK.out | apply KeepBut.set_ | apply keep_drewN | apply keep_drew | apply keep_alloc) | exact HK.out)) hk (.inl rfl)); replace HB := Aside0.mk (hb); replace HI0 := Aside0.mk (hi); (try clear hb); (try clear hb2); (try clear hk); (try clear hi); have p187 : 0 ≤ (t184 : Int) := ofA; have q187 : t184 < (l1.length : Int) := ofA; obtain ⟨ad187, e187, hx187_0⟩ := Kd.at_string HR1.out t184 p187 q187; cases e187; replace hx187_0 := keep_cell HK.out hx187_0 (by first | (rw [add_block]; exact hf1 _ rfl (by omega)) | exact hf1 _ rfl (by omega) | exact hf1 ad187 rfl (by omega)); replace p187 := eq_true p187; replace q187 := eq_true q187))
   go_ret
   exact ⟨by first | rfl | (simp [errW_none, errW_some] <;> rfl) | (simp [*, errW_none, errW_some] <;> rfl), by repeat (first | (with_reducible first | exact HI0.out | apply IsS48.alloc | apply IsS48.drewN | apply IsS48.drew | apply IsS48.set_1 | apply IsS48.set_2) | exact HI0.out), by repeat (first | (with_reducible first | exact HB.out | apply below_alloc | apply pw_below_drewN | apply below_drew1 | refine below_set ?_ (IsS48.ge HI0.out)) | exact HB.out), by repeat (first | (with_reducible first | exact HK.out | apply KeepBut.set_ | apply keep_drewN | apply keep_drew | apply keep_alloc) | exact HK.out)⟩
  rw [if_neg c5] at H
  exact absurd H (by simp)
 rw [if_neg c4] at H
 exact absurd H (by simp)
def spec_MakeText.l0 : Nat → ByteArray → Int → List Int → Int → Int → Option (ByteArray)
 | 0, _, _, _, _, _ => none
 | k + 1, x4, x5, x192000, x192001, x192002 => if x5 > 0 then ((spec_l01Str.f x192000 x192001 x192002 (([(⟨#[97]⟩ : ByteArray), (⟨#[98, 99]⟩ : ByteArray), (⟨#[32]⟩ : ByteArray), (⟨#[44]⟩ : ByteArray), (⟨#[120, 49]⟩ : ByteArray)] : List ByteArray))).bind fun bt198 => (if x4.size + bt198.1.size ≤ 9223372036854775807 then (spec_MakeText.l0 k (x4 ++ bt198.1) (wrap64 (x5 - 1)) x192000 bt198.2.1 bt198.2.2) else (none))) else (some x4)
def spec_MakeText.f (k : Nat) (l0 : List Int) : Option (ByteArray) := (spec_l01New.f k l0).bind fun bt188 => ((spec_l01Below.f bt188.1 bt188.2.1 bt188.2.2 8).bind fun bt192 => (spec_MakeText.l0 k (⟨#[]⟩ : ByteArray) bt192.1 bt188.1 bt192.2.1 bt192.2.2))
set_option maxHeartbeats 8000000 in
set_option maxRecDepth 100000 in
theorem spec_MakeText.calls (k : Nat) (A0 : Option Addr) (c0 : Nat) (l0 : List Int) (r : ByteArray) (w : World) (hr0 : Kd.C (Kd.int .u8) w A0 l0.length l0) (hc0 : l0.length ≤ c0) (h : spec_MakeText.f k l0 = some r) :
  Calls Tryd.prog 11 #[.slice A0 l0.length c0] w fun e w' => e = .returned (.string r) ∧ Below w.heap.size w w' := by
 have HR0 := Aside0.mk hr0
 have HC0 := Aside0.mk hc0
 clear hr0 hc0
 have HB := Aside0.mk (Below.refl w.heap.size w)
 have H : ((spec_l01New.f k l0).bind fun bt188 => ((spec_l01Below.f bt188.1 bt188.2.1 bt188.2.2 8).bind fun bt192 => (spec_MakeText.l0 k (⟨#[]⟩ : ByteArray) bt192.1 bt188.1 bt192.2.1 bt192.2.2))) = some r := h
 clear h
 replace H := Option.bind_eq_some_iff.mp H
 obtain ⟨⟨t188, t189, t190⟩, A20, H⟩ := H
 replace H : ((spec_l01Below.f t188 t189 t190 8).bind fun bt192 => (spec_MakeText.l0 k (⟨#[]⟩ : ByteArray) bt192.1 t188 bt192.2.1 bt192.2.2)) = some r := H
 have A2 := Aside0.mk A20
 clear A20
 replace H := Option.bind_eq_some_iff.mp H
 obtain ⟨⟨t192, t193, t194⟩, A30, H⟩ := H
 replace H : (spec_MakeText.l0 k (⟨#[]⟩ : ByteArray) t192 t188 t193 t194) = some r := H
 have A3 := Aside0.mk A30
 clear A30
 have H' := Aside0.mk H
 clear H
 go_enter Tryd.func11, Tryd.ntmps11
 go_wp2_with (first | ((with_reducible refine gate_callee (f := 21) rfl ?_); refine goesM_ (some 7) rfl rfl Tryd.func21 (by kernel_rfl) rfl #[.slice A0 l0.length c0] rfl ?_; (with_reducible refine (spec_l01New.calls k _ _ l0 t188 t189 t190 w _ ?side1 ?side2 ?side3 A2.out).mono ?_); (case side1 => exact Lz HB); (case side2 => exact HR0.out); (case side3 => exact HC0.out); rintro e w4 ⟨g191, rfl, hi, hb, hb2⟩; refine ⟨_, rfl, ?_⟩; replace HB := Aside0.mk (hb); have HI191 := Aside0.mk (hi); (try clear hb); (try clear hb2); (try clear hk); (try clear hi)) | ((with_reducible refine gate_callee (f := 22) rfl ?_); refine goesM_ (some 9) rfl rfl Tryd.func22 (by kernel_rfl) rfl #[.pointer (some ⟨g191, 0, none⟩), .int .i64 8] rfl ?_; (with_reducible refine (spec_l01Below.calls g191 t188 t189 t190 8 t192 t193 t194 w _ ?side1 ?side2 A3.out).mono ?_); (case side1 => repeat (first | (with_reducible first | exact HI191.out | apply IsS48.alloc | apply IsS48.drewN | apply IsS48.drew | apply IsS48.set_1 | apply IsS48.set_2) | exact HI191.out)); (case side2 => repeat (first | (with_reducible first | exact HB.out | apply below_alloc | apply pw_below_drewN | apply below_drew1 | refine below_set ?_ (IsS48.ge HI191.out)) | exact HB.out)); rintro e w5 ⟨rfl, hi, hb, hk⟩; refine ⟨_, rfl, ?_⟩; replace HB := Aside0.mk (hb); replace HI191 := Aside0.mk (hi); (try clear hb); (try clear hb2); (try clear hk); (try clear hi)))
 go_loopg [4, 5] k (fun kq v4 v5 w' => ∃ (x4_1 : ByteArray) (x5_1 : Int) (x192001_1 : Int) (x192002_1 : Int), v4 = .string x4_1 ∧ v5 = .int .i64 x5_1 ∧ Aside0 (spec_MakeText.l0 kq x4_1 x5_1 t188 x192001_1 x192002_1 = some r) ∧ Aside0 (kq ≤ k) ∧ Aside0 (IsS48 w w' g191 t188 x192001_1 x192002_1) ∧ Aside0 (Below w.heap.size w w'))
 case atStart => exact ⟨((⟨#[]⟩ : ByteArray)), (t192), (t193), (t194), eqA, eqA, H', ⟨Nat.le_refl _⟩, ⟨by repeat (first | (with_reducible first | exact HI191.out | apply IsS48.alloc | apply IsS48.drewN | apply IsS48.drew | apply IsS48.set_1 | apply IsS48.set_2) | exact HI191.out)⟩, ⟨by repeat (first | (with_reducible first | exact HB.out | apply below_alloc | apply pw_below_drewN | apply below_drew1 | refine below_set ?_ (IsS48.ge HI191.out)) | exact HB.out)⟩⟩
 case round =>
  clear H'
  obtain ⟨x4_1, x5_1, x192001_1, x192002_1, rfl, rfl, HA, HK1, HI191, HB⟩ := hrel
  cases gk with
  | zero => exact absurd HA.out (by simp [spec_MakeText.l0])
  | succ k1 =>
   have H := HA.out
   clear HA
   simp only [spec_MakeText.l0] at H
   by_cases c6 : x5_1 > 0
   ·rw [if_pos c6] at H
    have c6b0 : decide (0 < x5_1) = true := decide_eq_true c6
    clear c6
    obtain ⟨y195, hy195⟩ : ∃ y_ : List ByteArray, y_ = (([(⟨#[97]⟩ : ByteArray), (⟨#[98, 99]⟩ : ByteArray), (⟨#[32]⟩ : ByteArray), (⟨#[44]⟩ : ByteArray), (⟨#[120, 49]⟩ : ByteArray)] : List ByteArray)) := ⟨_, rfl⟩
    replace H : ((spec_l01Str.f t188 x192001_1 x192002_1 y195).bind fun bt198 => (if x4_1.size + bt198.1.size ≤ 9223372036854775807 then (spec_MakeText.l0 k1 (x4_1 ++ bt198.1) (wrap64 (x5_1 - 1)) t188 bt198.2.1 bt198.2.2) else (none))) = some r := by first | (rw [hy195]; with_reducible exact H) | (have H2_ := (Option.bind_some _ _).symm.trans H; rw [hy195]; with_reducible exact H2_) | (have H2_ := (Option.bind_some _ _).symm.trans H; with_reducible exact H2_) | with_reducible exact H | (rw [hy195]; exact H) | exact H
    have Ny195 := Aside0.mk hy195
    clear hy195
    replace H := Option.bind_eq_some_iff.mp H
    obtain ⟨⟨t198, t199, t200⟩, A70, H⟩ := H
    replace H : (if x4_1.size + t198.size ≤ 9223372036854775807 then (spec_MakeText.l0 k1 (x4_1 ++ t198) (wrap64 (x5_1 - 1)) t188 t199 t200) else (none)) = some r := H
    have A7 := Aside0.mk A70
    clear A70
    by_cases c8 : x4_1.size + t198.size ≤ 9223372036854775807
    ·rw [if_pos c8] at H
     have c8b0 := eq_true c8
     have c8b1 : decide (x4_1.size + t198.size ≤ 9223372036854775807) = true := decide_eq_true c8
     try have c8b2 : (9223372036854775807 < x4_1.size + t198.size) = False := eq_false (Nat.not_lt.2 c8)
     have H' := Aside0.mk H
     clear H
     go_wp2_with (first | ((with_reducible refine gate_dst (N := 16) rfl ?_); refine Kd.R_lit Kd.string _ 9 ?hg (N := 16) ?hd (xs := ([(⟨#[97]⟩ : ByteArray), (⟨#[98, 99]⟩ : ByteArray), (⟨#[32]⟩ : ByteArray), (⟨#[44]⟩ : ByteArray), (⟨#[120, 49]⟩ : ByteArray)] : List ByteArray)) (inner := [.string (⟨#[97]⟩ : ByteArray), .string (⟨#[98, 99]⟩ : ByteArray), .string (⟨#[32]⟩ : ByteArray), .string (⟨#[44]⟩ : ByteArray), .string (⟨#[120, 49]⟩ : ByteArray)]) (ok := fun _ => True) (okp := fun _ => True) ?hr ?hp (fun _ hk => hk) trivial (Below.refl _ _) (Nat.le_refl _) (by simp) ?_; (case hd => rfl); (case hg => rfl); (case hr => first | (go_simp; done) | (go_simp; rfl)); (case hp => exact (Reps.one (show Kd.M Kd.string _ _ _ (⟨#[97]⟩ : ByteArray) [.string (⟨#[97]⟩ : ByteArray)] from rfl) (Reps.one (show Kd.M Kd.string _ _ _ (⟨#[98, 99]⟩ : ByteArray) [.string (⟨#[98, 99]⟩ : ByteArray)] from rfl) (Reps.one (show Kd.M Kd.string _ _ _ (⟨#[32]⟩ : ByteArray) [.string (⟨#[32]⟩ : ByteArray)] from rfl) (Reps.one (show Kd.M Kd.string _ _ _ (⟨#[44]⟩ : ByteArray) [.string (⟨#[44]⟩ : ByteArray)] from rfl) (Reps.one (show Kd.M Kd.string _ _ _ (⟨#[120, 49]⟩ : ByteArray) [.string (⟨#[120, 49]⟩ : ByteArray)] from rfl) (Reps.none _ _))))))); intro v196 w9 ho10 hb hg_ hnew_; clear hg_ hnew_; (first | rw [← Ny195.out] at ho10 | (simp only [Int.reduceToNat] at ho10; rw [← Ny195.out] at ho10)); have HO197 := Aside0.mk (Kd.R_lower ho10 (below_size (by repeat (first | (with_reducible first | exact HB.out | apply below_alloc | apply pw_below_drewN | apply below_drew1 | refine below_set ?_ (IsS48.ge HI191.out)) | exact HB.out)))); replace HB := Aside0.mk (below_step (by repeat (first | (with_reducible first | exact HB.out | apply below_alloc | apply pw_below_drewN | apply below_drew1 | refine below_set ?_ (IsS48.ge HI191.out)) | exact HB.out)) hb); replace HI191 := Aside0.mk (IsS48.below (by repeat (first | (with_reducible first | exact HI191.out | apply IsS48.alloc | apply IsS48.drewN | apply IsS48.drew | apply IsS48.set_1 | apply IsS48.set_2) | exact HI191.out)) hb); clear hb ho10; obtain ⟨Ao11, co11, eo11⟩ := Kd.R_slice HO197.out; subst eo11) | ((with_reducible refine gate_callee (f := 23) rfl ?_); refine goesM_ (some 17) rfl rfl Tryd.func23 (by kernel_rfl) rfl #[.pointer (some ⟨g191, 0, none⟩), .slice Ao11 y195.length co11] rfl ?_; (with_reducible refine (spec_l01Str.calls g191 t188 x192001_1 x192002_1 _ _ y195 t198 t199 t200 w _ ?side1 ?side2 ?side3 ?side4 ?side5 A7.out).mono ?_); (case side1 => repeat (first | (with_reducible first | exact HI191.out | apply IsS48.alloc | apply IsS48.drewN | apply IsS48.drew | apply IsS48.set_1 | apply IsS48.set_2) | exact HI191.out)); (case side2 => repeat (first | (with_reducible first | exact HB.out | apply below_alloc | apply pw_below_drewN | apply below_drew1 | refine below_set ?_ (IsS48.ge HI191.out)) | exact HB.out)); (case side3 => exact Cz ((Kd.R_reads' HO197.out).2.2)); (case side4 => exact (Kd.R_reads' HO197.out).2.1); (case side5 => exact far_slice (IsS48.own_ne HI191.out HO197.out (by decide))); rintro e w12 ⟨rfl, hi, hb, hk⟩; refine ⟨_, rfl, ?_⟩; replace HO197 := Aside0.mk (Kd.R_mono (Kd.R_keep (IsS48.apart (show IsS48 w _ g191 t188 x192001_1 x192002_1 from by repeat (first | (with_reducible first | exact HI191.out | apply IsS48.alloc | apply IsS48.drewN | apply IsS48.drew | apply IsS48.set_1 | apply IsS48.set_2) | exact HI191.out)) (Rz HO197) (by decide)) hk (fun _ h => h.2)) (fun _ h => h.1)); replace HB := Aside0.mk (hb); replace HI191 := Aside0.mk (hi); (try clear hb); (try clear hb2); (try clear hk); (try clear hi)))
     go_roundg k1
     case measure => have := HK1.out; omega
     case rel => exact ⟨(x4_1 ++ t198), (wrap64 (x5_1 - 1)), (t199), (t200), eqA, eqA, H', ⟨by have := HK1.out; omega⟩, ⟨by repeat (first | (with_reducible first | exact HI191.out | apply IsS48.alloc | apply IsS48.drewN | apply IsS48.drew | apply IsS48.set_1 | apply IsS48.set_2) | exact HI191.out)⟩, ⟨by repeat (first | (with_reducible first | exact HB.out | apply below_alloc | apply pw_below_drewN | apply below_drew1 | refine below_set ?_ (IsS48.ge HI191.out)) | exact HB.out)⟩⟩
    rw [if_neg c8] at H
    exact absurd H (by simp)
   rw [if_neg c6] at H
   have c6b0 : decide (0 < x5_1) = false := decide_eq_false c6
   clear c6
   obtain rfl := Option.some.inj H
   go_wp2
   go_ret
   exact ⟨by first | rfl | (simp [errW_none, errW_some] <;> rfl) | (simp [*, errW_none, errW_some] <;> rfl), by repeat (first | (with_reducible first | exact HB.out | apply below_alloc | apply pw_below_drewN | apply below_drew1 | refine below_set ?_ (IsS48.ge HI191.out)) | exact HB.out)⟩
def strings_Join.f (l0 : List ByteArray) (a1 : ByteArray) : Option (ByteArray) := if l0.length ≤ 140737488355328 ∧ (Lib.join (l0.map (·.data.toList)) a1.data.toList).length ≤ 140737488355328 then (some ⟨(Lib.join (l0.map (·.data.toList)) a1.data.toList).toArray⟩) else (none)
theorem strings_Join.calls (A0 : Option Addr) (c0 : Nat) (l0 : List ByteArray) (a1 : ByteArray) (r : ByteArray) (w : World) (hr0 : Kd.C Kd.string w A0 l0.length l0) (hc0 : l0.length ≤ c0) (h : strings_Join.f l0 a1 = some r) :
  Calls Tryd.prog 24 #[.slice A0 l0.length c0, .string a1] w fun e w' => e = .returned (.string r) ∧ Below w.heap.size w w' := by
  unfold strings_Join.f at h
  by_cases c1 : l0.length ≤ 140737488355328 ∧ (Lib.join (l0.map (·.data.toList)) a1.data.toList).length ≤ 140737488355328
  · rw [if_pos c1] at h
    obtain rfl := Option.some.inj h
    rcases Nat.eq_zero_or_pos l0.length with h0 | h0
    · have hn : l0 = [] := List.eq_nil_of_length_eq_zero h0
      subst hn
      refine (Tryd.strings_Join_none A0 c0 a1 w).mono fun e w' ⟨he, hw⟩ => ⟨?_, ?_⟩
      · rw [he]; rfl
      · rw [hw]; exact Below.refl _ _
    · obtain ⟨ad, rfl, hc⟩ := hr0.2.2 h0
      have hcell : ∀ (j : Nat) x, l0[j]? = some x → w.cell? (ad.add j) = some (.string x) := fun j x hx => by
        obtain ⟨c, _, hk, hcc⟩ := hc j x hx
        have hk' : c = [.string x] := hk
        subst hk'
        have := hcc 0 (.string x) rfl
        simpa [Kd.string, Kd.scalar] using this
      obtain ⟨b, o, sp⟩ := ad
      have h00 := hcell 0 (l0[0]'h0) (List.getElem?_eq_getElem h0)
      have hsp : sp = none := by
        cases sp with
        | none => rfl
        | some s =>
          exfalso
          have e0 : (⟨b, o, some s⟩ : Addr).add 0 = ⟨b, o, some s⟩ := rfl
          rw [e0] at h00
          unfold World.cell? at h00
          split at h00 <;> simp at h00
      subst hsp
      have hadd : ∀ j, (⟨b, o, none⟩ : Addr).add j = ⟨b, o + j, none⟩ := fun j => by unfold Addr.add; split <;> simp_all
      have hbk : b < w.heap.size := World.block_lt_of_cell? w _ h00
      exact Tryd.strings_Join b o c0 l0 a1 w (fun j x hx => by rw [← hadd]; exact hcell j x hx) hbk c1.1 hc0 c1.2
  · rw [if_neg c1] at h
    exact absurd h (by simp)
def impl_Join.f (l0 : List ByteArray) (a1 : ByteArray) : Option (ByteArray) := (strings_Join.f l0 a1).bind fun t201 => (some t201)
set_option maxHeartbeats 8000000 in
set_option maxRecDepth 100000 in
theorem impl_Join.calls (A0 : Option Addr) (c0 : Nat) (l0 : List ByteArray) (a1 : ByteArray) (r : ByteArray) (w : World) (hr0 : Kd.C Kd.string w A0 l0.length l0) (hc0 : l0.length ≤ c0) (h : impl_Join.f l0 a1 = some r) :
  Calls Tryd.prog 12 #[.slice A0 l0.length c0, .string a1] w fun e w' => e = .returned (.string r) ∧ Below w.heap.size w w' := by
 have HR0 := Aside0.mk hr0
 have HC0 := Aside0.mk hc0
 clear hr0 hc0
 have HB := Aside0.mk (Below.refl w.heap.size w)
 have H : ((strings_Join.f l0 a1).bind fun t201 => (some t201)) = some r := h
 clear h
 replace H := Option.bind_eq_some_iff.mp H
 obtain ⟨t201, A30, H⟩ := H
 replace H : (some t201) = some r := H
 have A3 := Aside0.mk A30
 clear A30
 obtain rfl := Option.some.inj H
 go_enter Tryd.func12, Tryd.ntmps12
 go_wp2_with (first | ((with_reducible refine gate_callee (f := 24) rfl ?_); refine goesM_ (some 7) rfl rfl Tryd.func24 (by kernel_rfl) rfl #[.slice A0 l0.length c0, .string a1] rfl ?_; (with_reducible refine (strings_Join.calls _ _ l0 a1 t201 _ ?side1 ?side2 A3.out).mono ?_); (case side1 => exact Cz (HR0.out)); (case side2 => exact HC0.out); rintro e w4 ⟨rfl, hb⟩; refine ⟨_, rfl, ?_⟩; replace HB := Aside0.mk (below_step (Lz HB) hb); (try clear hb); (try clear hb2); (try clear hk); (try clear hi)))
 go_ret
 exact ⟨by first | rfl | (simp [errW_none, errW_some] <;> rfl) | (simp [*, errW_none, errW_some] <;> rfl), by exact Lz HB⟩
def strings_IndexByte.f (a0 : ByteArray) (a1 : Int) : Option (Int) := some (Lib.indexByte a0.data.toList a1.toNat.toUInt8)
set_option maxHeartbeats 1000000 in
set_option maxRecDepth 100000 in
theorem strings_IndexByte.inner (s : ByteArray) (c : Int) (w : World) :
    Calls Tryd.prog 32 #[.string s, .int .u8 c] w fun e w' => e = .returned (.int .i64 (Lib.indexByte s.data.toList c.toNat.toUInt8)) ∧ w' = w := by
  go_enter Tryd.func32, Tryd.ntmps32
  go_wp2
  rw [run_callFunc_extern Tryd.func41 (by kernel_rfl) (by kernel_rfl) (by kernel_rfl) (e := Extern.BytealgIndexByte.indexByte) (by kernel_rfl), Lib.run_indexByteString]
  simp only [Result.andThen]
  rw [Oper.upon_value]
  go_wp2
  go_ret
  exact ⟨rfl, rfl⟩
set_option maxHeartbeats 1000000 in
theorem strings_IndexByte.calls (a0 : ByteArray) (a1 : Int) (r : Int) (w : World) (h : strings_IndexByte.f a0 a1 = some r) :
  Calls Tryd.prog 25 #[.string a0, .int .u8 a1] w fun e w' => e = .returned (.int .i64 r) ∧ Drawn0 w w' := by
  obtain rfl := Option.some.inj h
  go_enter Tryd.func25, Tryd.ntmps25
  go_wp2_with (go_at_call 32; refine (strings_IndexByte.inner _ _ _).mono ?_; rintro e w' ⟨rfl, rfl⟩)
  go_ret
  exact ⟨rfl, Drawn0.refl _⟩
def impl_SplitAny.l0 : Nat → ByteArray → ByteArray → List ByteArray → Int → Int → Option (List ByteArray)
 | 0, _, _, _, _, _ => none
 | k + 1, x0, x1, x5, x6, x7 => if x7 < (x0.size : Int) then (if 0 ≤ x7 then ((strings_IndexByte.f x1 (bt x0 x7)).bind fun t205 => (if t205 ≥ 0 then (if 0 ≤ x6 then (if x6 ≤ x7 then (if x7 ≤ (x0.size : Int) then (if x5.length < 8796093022208 then (impl_SplitAny.l0 k x0 x1 (x5 ++ [x0.extract (x6 : Int).toNat (x7 : Int).toNat]) (wrap64 (x7 + 1)) (wrap64 (x7 + 1))) else (none)) else (none)) else (none)) else (none)) else (impl_SplitAny.l0 k x0 x1 x5 x6 (wrap64 (x7 + 1))))) else (none)) else (if 0 ≤ x6 then (if x6 ≤ (x0.size : Int) then (if x5.length < 8796093022208 then (some (x5 ++ [x0.extract (x6 : Int).toNat x0.size])) else (none)) else (none)) else (none))
def impl_SplitAny.f (k : Nat) (a0 : ByteArray) (a1 : ByteArray) : Option (List ByteArray) := impl_SplitAny.l0 k a0 a1 ([] : List ByteArray) 0 0
set_option maxHeartbeats 8000000 in
set_option maxRecDepth 100000 in
theorem impl_SplitAny.calls (k : Nat) (a0 : ByteArray) (a1 : ByteArray) (r : List ByteArray) (w : World) (h : impl_SplitAny.f k a0 a1 = some r) :
  Calls Tryd.prog 13 #[.string a0, .string a1] w fun e w' => ∃ v0_ : Value, e = .returned (v0_) ∧ Kd.R Kd.string 9 w' w.heap.size (fun _ => True) v0_ r ∧ Below w.heap.size w w' := by
 have HB := Aside0.mk (Below.refl w.heap.size w)
 have H : (impl_SplitAny.l0 k a0 a1 ([] : List ByteArray) 0 0) = some r := h
 clear h
 have H' := Aside0.mk H
 clear H
 go_enter Tryd.func13, Tryd.ntmps13
 go_wp2
 go_loopg [5, 6, 7] k (fun kq v5 v6 v7 w' => ∃ (x5_1 : List ByteArray) (x6_1 : Int) (x7_1 : Int), v6 = .int .i64 x6_1 ∧ v7 = .int .i64 x7_1 ∧ Aside0 (impl_SplitAny.l0 kq a0 a1 x5_1 x6_1 x7_1 = some r) ∧ Aside0 (kq ≤ k) ∧ Aside0 (Kd.R Kd.string 9 w' w.heap.size (fun _ => True) v5 x5_1) ∧ Aside0 (Below w.heap.size w w'))
 case atStart => exact ⟨(([] : List ByteArray)), (0), (0), eqA, eqA, H', ⟨Nat.le_refl _⟩, ⟨by first | exact Kd.R_nil _ _ _ _ _ | exact Kd.N_nil _ _ _ _ _ | exact Kd.V_nil _ _ _ _ _ | exact Kd.Q_nil _ _ _ _ _ | exact Kd.S_nil _ _ _ _ _⟩, ⟨by exact Lz HB⟩⟩
 case round =>
  clear H'
  obtain ⟨x5_1, x6_1, x7_1, rfl, rfl, HA, HK1, HO_5, HB⟩ := hrel
  cases gk with
  | zero => exact absurd HA.out (by simp [impl_SplitAny.l0])
  | succ k1 =>
   have H := HA.out
   clear HA
   simp only [impl_SplitAny.l0] at H
   by_cases c3 : x7_1 < (a0.size : Int)
   ·rw [if_pos c3] at H
    have c3b0 : decide (x7_1 < (a0.size : Int)) = true := decide_eq_true c3
    clear c3
    by_cases c4 : 0 ≤ x7_1
    ·rw [if_pos c4] at H
     have c4b0 : decide (0 ≤ x7_1) = true := decide_eq_true c4
     clear c4
     replace H := Option.bind_eq_some_iff.mp H
     obtain ⟨t205, A60, H⟩ := H
     replace H : (if t205 ≥ 0 then (if 0 ≤ x6_1 then (if x6_1 ≤ x7_1 then (if x7_1 ≤ (a0.size : Int) then (if x5_1.length < 8796093022208 then (impl_SplitAny.l0 k1 a0 a1 (x5_1 ++ [a0.extract (x6_1 : Int).toNat (x7_1 : Int).toNat]) (wrap64 (x7_1 + 1)) (wrap64 (x7_1 + 1))) else (none)) else (none)) else (none)) else (none)) else (impl_SplitAny.l0 k1 a0 a1 x5_1 x6_1 (wrap64 (x7_1 + 1)))) = some r := H
     have A6 := Aside0.mk A60
     clear A60
     by_cases c7 : t205 ≥ 0
     ·rw [if_pos c7] at H
      have c7b0 : decide (0 ≤ t205) = true := decide_eq_true c7
      clear c7
      by_cases c8 : 0 ≤ x6_1
      ·rw [if_pos c8] at H
       have c8b0 := eq_true c8
       have c8b1 : decide (0 ≤ x6_1) = true := decide_eq_true c8
       clear c8
       by_cases c9 : x6_1 ≤ x7_1
       ·rw [if_pos c9] at H
        have c9b0 := eq_true c9
        have c9b1 : decide (x6_1 ≤ x7_1) = true := decide_eq_true c9
        clear c9
        by_cases c10 : x7_1 ≤ (a0.size : Int)
        ·rw [if_pos c10] at H
         have c10b0 := eq_true c10
         have c10b1 : decide (x7_1 ≤ (a0.size : Int)) = true := decide_eq_true c10
         clear c10
         by_cases c11 : x5_1.length < 8796093022208
         ·rw [if_pos c11] at H
          have LMc11 := Aside0.mk c11
          clear c11
          obtain ⟨y206, hy206⟩ : ∃ y_ : List ByteArray, y_ = (x5_1 ++ [a0.extract (x6_1 : Int).toNat (x7_1 : Int).toNat]) := ⟨_, rfl⟩
          replace H : (impl_SplitAny.l0 k1 a0 a1 y206 (wrap64 (x7_1 + 1)) (wrap64 (x7_1 + 1))) = some r := by first | (rw [hy206]; with_reducible exact H) | (have H2_ := (Option.bind_some _ _).symm.trans H; rw [hy206]; with_reducible exact H2_) | (have H2_ := (Option.bind_some _ _).symm.trans H; with_reducible exact H2_) | with_reducible exact H | (rw [hy206]; exact H) | exact H
          have Ny206 := Aside0.mk hy206
          clear hy206
          have H' := Aside0.mk H
          clear H
          have p5 : 0 ≤ (x7_1 : Int) := ofA
          have q5 : x7_1 < (a0.size : Int) := ofA
          have hx5 := bt_at a0 x7_1
          replace p5 := eq_true p5
          replace q5 := eq_true q5
          go_wp2_with (first | ((with_reducible refine gate_callee (f := 25) rfl ?_); refine goesM_ (some 18) rfl rfl Tryd.func25 (by kernel_rfl) rfl #[.string a1, .int .u8 (bt a0 x7_1)] rfl ?_; (with_reducible refine (strings_IndexByte.calls a1 (bt a0 x7_1) t205 _ A6.out).mono ?_); rintro e w' ⟨rfl, ⟨nd, rfl⟩⟩; refine ⟨_, rfl, ?_⟩) | ((with_reducible refine gate_builtin (b := .append) (xs := #[.tmp 20, .tmp 25]) rfl ?_); at_builtin; refine Kd.R_append Kd.string (w0 := w) w.heap.size rfl (.tmp 20) (.tmp 25) 31 9 (.string ⟨#[]⟩) 16 rfl Tryd.underlying31 info9 rfl (by decide) (by omega) u5 x5_1 (a0.extract (x6_1 : Int).toNat (x7_1 : Int).toNat) [.string (a0.extract (x6_1 : Int).toNat (x7_1 : Int).toNat)] (fun _ => True) (fun _ => False) rfl rfl ?aP (fun _ hk => hk.elim) ?aF ?aO ?aB ?aS ?aL ?_; (case aP => exact rfl); (case aB => exact (Lz HB)); (case aF => exact (fun _ _ => trivial)); (case aO => exact (Rz HO_5)); (case aS => exact (below_size (Lz HB))); (case aL => have := LMc11.out; omega); intro v207 w12 ho hb hg hat; rw [← Ny206.out] at ho; replace HB := Aside0.mk (hb); have HO208 := Aside0.mk (ho); clear HO_5; clear ho hb hg hat))
          go_roundg k1
          case measure => have := HK1.out; omega
          case rel => exact ⟨(y206), (wrap64 (x7_1 + 1)), (wrap64 (x7_1 + 1)), eqA, eqA, H', ⟨by have := HK1.out; omega⟩, ⟨by exact Rz HO208⟩, ⟨by exact Lz HB⟩⟩
         rw [if_neg c11] at H
         exact absurd H (by simp)
        rw [if_neg c10] at H
        exact absurd H (by simp)
       rw [if_neg c9] at H
       exact absurd H (by simp)
      rw [if_neg c8] at H
      exact absurd H (by simp)
     rw [if_neg c7] at H
     have c7b0 : decide (0 ≤ t205) = false := decide_eq_false c7
     clear c7
     have H' := Aside0.mk H
     clear H
     have p5 : 0 ≤ (x7_1 : Int) := ofA
     have q5 : x7_1 < (a0.size : Int) := ofA
     have hx5 := bt_at a0 x7_1
     replace p5 := eq_true p5
     replace q5 := eq_true q5
     go_wp2_with (first | ((with_reducible refine gate_callee (f := 25) rfl ?_); refine goesM_ (some 18) rfl rfl Tryd.func25 (by kernel_rfl) rfl #[.string a1, .int .u8 (bt a0 x7_1)] rfl ?_; (with_reducible refine (strings_IndexByte.calls a1 (bt a0 x7_1) t205 _ A6.out).mono ?_); rintro e w' ⟨rfl, ⟨nd, rfl⟩⟩; refine ⟨_, rfl, ?_⟩))
     go_roundg k1
     case measure => have := HK1.out; omega
     case rel => exact ⟨(x5_1), (x6_1), (wrap64 (x7_1 + 1)), eqA, eqA, H', ⟨by have := HK1.out; omega⟩, ⟨by exact Rz HO_5⟩, ⟨by exact Lz HB⟩⟩
    rw [if_neg c4] at H
    exact absurd H (by simp)
   rw [if_neg c3] at H
   have c3b0 : decide (x7_1 < (a0.size : Int)) = false := decide_eq_false c3
   clear c3
   by_cases c13 : 0 ≤ x6_1
   ·rw [if_pos c13] at H
    have c13b0 := eq_true c13
    have c13b1 : decide (0 ≤ x6_1) = true := decide_eq_true c13
    clear c13
    by_cases c14 : x6_1 ≤ (a0.size : Int)
    ·rw [if_pos c14] at H
     have c14b0 := eq_true c14
     have c14b1 : decide (x6_1 ≤ (a0.size : Int)) = true := decide_eq_true c14
     clear c14
     by_cases c15 : x5_1.length < 8796093022208
     ·rw [if_pos c15] at H
      have LMc15 := Aside0.mk c15
      clear c15
      obtain ⟨y202, hy202⟩ : ∃ y_ : List ByteArray, y_ = (x5_1 ++ [a0.extract (x6_1 : Int).toNat a0.size]) := ⟨_, rfl⟩
      replace H : (some y202) = some r := by first | (rw [hy202]; with_reducible exact H) | (have H2_ := (Option.bind_some _ _).symm.trans H; rw [hy202]; with_reducible exact H2_) | (have H2_ := (Option.bind_some _ _).symm.trans H; with_reducible exact H2_) | with_reducible exact H | (rw [hy202]; exact H) | exact H
      have Ny202 := Aside0.mk hy202
      clear hy202
      obtain rfl := Option.some.inj H
      go_wp2_with (first | ((with_reducible refine gate_builtin (b := .append) (xs := #[.tmp 29, .tmp 33]) rfl ?_); at_builtin; refine Kd.R_append Kd.string (w0 := w) w.heap.size rfl (.tmp 29) (.tmp 33) 31 9 (.string ⟨#[]⟩) 16 rfl Tryd.underlying31 info9 rfl (by decide) (by omega) u5 x5_1 (a0.extract (x6_1 : Int).toNat a0.size) [.string (a0.extract (x6_1 : Int).toNat a0.size)] (fun _ => True) (fun _ => False) rfl rfl ?aP (fun _ hk => hk.elim) ?aF ?aO ?aB ?aS ?aL ?_; (case aP => exact rfl); (case aB => exact (Lz HB)); (case aF => exact (fun _ _ => trivial)); (case aO => exact (Rz HO_5)); (case aS => exact (below_size (Lz HB))); (case aL => have := LMc15.out; omega); intro v203 w16 ho hb hg hat; rw [← Ny202.out] at ho; replace HB := Aside0.mk (hb); have HO204 := Aside0.mk (ho); clear HO_5; clear ho hb hg hat))
      go_ret
      exact ⟨_, by first | rfl | (simp [errW_none, errW_some] <;> rfl) | (simp [*, errW_none, errW_some] <;> rfl), by exact Rz HO204, by exact Lz HB⟩
     rw [if_neg c15] at H
     exact absurd H (by simp)
    rw [if_neg c14] at H
    exact absurd H (by simp)
   rw [if_neg c13] at H
   exact absurd H (by simp)
mutual
def impl_IsName.j0 : Nat → ByteArray → Bool → Option (Bool)
 | 0, _, _ => none
 | k + 1, x0, x13 => if x13 = true then (some false) else (impl_IsName.l0 k x0 0)
def impl_IsName.l0 : Nat → ByteArray → Int → Option (Bool)
 | 0, _, _ => none
 | k + 1, x0, x3 => if x3 < (x0.size : Int) then (if 0 ≤ x3 then (if (bt x0 x3) ≥ 97 then (if (bt x0 x3) ≥ 48 then (if ((bt x0 x3) ≤ 122) then (impl_IsName.j2 k x0 x3 false) else (if x3 = 0 then (impl_IsName.j2 k x0 x3 true) else (impl_IsName.j2 k x0 x3 (!(decide ((bt x0 x3) ≤ 57)))))) else (if ((bt x0 x3) ≤ 122) then (impl_IsName.j3 k x0 x3 false) else (if x3 = 0 then (impl_IsName.j3 k x0 x3 true) else (impl_IsName.j3 k x0 x3 (!false))))) else (if (bt x0 x3) ≥ 48 then (if x3 = 0 then (some false) else (if ((bt x0 x3) ≤ 57) then (impl_IsName.l0 k x0 (wrap64 (x3 + 1))) else (some false))) else (if x3 = 0 then (some false) else (some false)))) else (none)) else (some true)
def impl_IsName.j2 : Nat → ByteArray → Int → Bool → Option (Bool)
 | 0, _, _, _ => none
 | k + 1, x0, x3, x49 => if x49 = true then (some false) else (impl_IsName.l0 k x0 (wrap64 (x3 + 1)))
def impl_IsName.j3 : Nat → ByteArray → Int → Bool → Option (Bool)
 | 0, _, _, _ => none
 | k + 1, x0, x3, x49 => if x49 = true then (some false) else (impl_IsName.l0 k x0 (wrap64 (x3 + 1)))
end
def impl_IsName.f (k : Nat) (a0 : ByteArray) : Option (Bool) := if (a0.size : Int) < 1 then (impl_IsName.j0 k a0 true) else (impl_IsName.j0 k a0 (decide ((a0.size : Int) > 8)))
set_option maxHeartbeats 8000000 in
set_option maxRecDepth 100000 in
theorem impl_IsName.calls (k : Nat) (a0 : ByteArray) (r : Bool) (w : World) (h : impl_IsName.f k a0 = some r) :
  Calls Tryd.prog 14 #[.string a0] w fun e w' => e = .returned (.bool r) ∧ Drawn0 w w' := by
 have H : (if (a0.size : Int) < 1 then (impl_IsName.j0 k a0 true) else (impl_IsName.j0 k a0 (decide ((a0.size : Int) > 8)))) = some r := h
 clear h
 have HC2 := Aside0.mk H
 clear H
 go_enter Tryd.func14, Tryd.ntmps14
 go_upto_region 1 with (fail)
 go_cut [13] (fun v13 wc => ∃ (kq : Nat) (x13_1 : Bool), v13 = .bool x13_1 ∧ Aside0 (impl_IsName.j0 kq a0 x13_1 = some r) ∧ Aside0 (kq ≤ k) ∧ Drawn0 w wc)
 case first =>
  have H := HC2.out
  clear HC2
  by_cases c3 : (a0.size : Int) < 1
  ·rw [if_pos c3] at H
   have c3b0 : decide ((a0.size : Int) < 1) = true := decide_eq_true c3
   have c3b1 : decide (a0.size < 1) = true := decide_eq_true (by omega)
   clear c3
   (first | rw [c3b0] | (simp only [i64_w, i32_w]; rw [c3b0]) | skip)
   have H' := Aside0.mk H
   clear H
   go_wp2
   go_meet
   case rel => exact ⟨_, (true), eqA, H', ⟨by first | omega | exact Nat.le_refl _⟩, by repeat (first | exact Drawn0.refl _ | apply Drawn0.step)⟩
  rw [if_neg c3] at H
  have c3b0 : decide ((a0.size : Int) < 1) = false := decide_eq_false c3
  have c3b1 : decide (a0.size < 1) = false := decide_eq_false (by omega)
  clear c3
  (first | rw [c3b0] | (simp only [i64_w, i32_w]; rw [c3b0]) | skip)
  have H' := Aside0.mk H
  clear H
  go_wp2
  go_meet
  case rel => exact ⟨_, (decide ((a0.size : Int) > 8)), eqA, H', ⟨by first | omega | exact Nat.le_refl _⟩, by repeat (first | exact Drawn0.refl _ | apply Drawn0.step)⟩
 case rest =>
  clear HC2
  try clear c3
  try clear c3b0
  try clear c3b1
  obtain ⟨kq, x13_1, rfl, HA, HJ1, ⟨mc1, rfl⟩⟩ := hcut
  cases kq with
  | zero => exact absurd HA.out (by simp [impl_IsName.j0])
  | succ kj1 =>
   have H := HA.out
   clear HA
   simp only [impl_IsName.j0] at H
   by_cases c4 : x13_1 = true
   ·subst c4
    have H1 : (some false) = some r := by rw [if_pos rfl] at H; exact H
    clear H
    have H := H1
    clear H1
    obtain rfl := Option.some.inj H
    go_wp2
    go_ret
    exact ⟨eqA, by repeat (first | exact Drawn0.refl _ | apply Drawn0.step)⟩
   replace c4 := Bool.eq_false_iff.mpr c4
   subst c4
   have H1 : (impl_IsName.l0 kj1 a0 0) = some r := by rw [if_neg (show ¬ (false = true) by decide)] at H; exact H
   clear H
   have H := H1
   clear H1
   have H' := Aside0.mk H
   clear H
   go_wp2
   go_loopg [3] kj1 (fun kq v3 w' => ∃ (x3_2 : Int), v3 = .int .i64 x3_2 ∧ Aside0 (impl_IsName.l0 kq a0 x3_2 = some r) ∧ Aside0 (kq ≤ kj1) ∧ Drawn0 w w')
   case atStart => exact ⟨(0), eqA, H', ⟨Nat.le_refl _⟩, by repeat (first | exact Drawn0.refl _ | apply Drawn0.step)⟩
   case round =>
    clear H'
    try clear c3
    try clear c3b0
    try clear c3b1
    try clear c4
    obtain ⟨x3_2, rfl, HA, HK2, ⟨m2, rfl⟩⟩ := hrel
    cases gk with
    | zero => exact absurd HA.out (by simp [impl_IsName.l0])
    | succ k2 =>
     have H := HA.out
     clear HA
     simp only [impl_IsName.l0] at H
     by_cases c5 : x3_2 < (a0.size : Int)
     ·rw [if_pos c5] at H
      have c5b0 : decide (x3_2 < (a0.size : Int)) = true := decide_eq_true c5
      clear c5
      by_cases c6 : 0 ≤ x3_2
      ·rw [if_pos c6] at H
       have c6b0 : decide (0 ≤ x3_2) = true := decide_eq_true c6
       clear c6
       by_cases c8 : (bt a0 x3_2) ≥ 97
       ·rw [if_pos c8] at H
        have c8b0 : decide (97 ≤ (bt a0 x3_2)) = true := decide_eq_true c8
        clear c8
        by_cases c11 : (bt a0 x3_2) ≥ 48
        ·rw [if_pos c11] at H
         have c11b0 : decide (48 ≤ (bt a0 x3_2)) = true := decide_eq_true c11
         clear c11
         have HC13 := Aside0.mk H
         clear H
         have p7 : 0 ≤ (x3_2 : Int) := ofA
         have q7 : x3_2 < (a0.size : Int) := ofA
         have hx7 := bt_at a0 x3_2
         replace p7 := eq_true p7
         replace q7 := eq_true q7
         have p9 : 0 ≤ (x3_2 : Int) := ofA
         have q9 : x3_2 < (a0.size : Int) := ofA
         have hx9 := bt_at a0 x3_2
         replace p9 := eq_true p9
         replace q9 := eq_true q9
         have p10 : 0 ≤ (x3_2 : Int) := ofA
         have q10 : x3_2 < (a0.size : Int) := ofA
         have hx10 := bt_at a0 x3_2
         replace p10 := eq_true p10
         replace q10 := eq_true q10
         have p12 : 0 ≤ (x3_2 : Int) := ofA
         have q12 : x3_2 < (a0.size : Int) := ofA
         have hx12 := bt_at a0 x3_2
         replace p12 := eq_true p12
         replace q12 := eq_true q12
         go_upto_region 8 with (fail)
         go_cut [49] (fun v49 wc => ∃ (kq : Nat) (x49_12 : Bool), v49 = .bool x49_12 ∧ Aside0 (impl_IsName.j2 kq a0 x3_2 x49_12 = some r) ∧ Aside0 (kq ≤ k2) ∧ Drawn0 w wc)
         case first =>
          have H := HC13.out
          clear HC13
          by_cases c14 : ((bt a0 x3_2) ≤ 122)
          ·rw [if_pos c14] at H
           have c14b0 : decide ((bt a0 x3_2) ≤ 122) = true := decide_eq_true c14
           clear c14
           (have c14z := c14b0; simp only [c14b0] at * <;> (try replace c14b0 := c14z))
           have H' := Aside0.mk H
           clear H
           go_wp2
           go_meet
           case rel => exact ⟨_, (false), eqA, H', ⟨by have := HJ1.out; have := HK2.out; first | omega | exact Nat.le_refl _⟩, by repeat (first | exact Drawn0.refl _ | apply Drawn0.step)⟩
          rw [if_neg c14] at H
          have c14b0 : decide ((bt a0 x3_2) ≤ 122) = false := decide_eq_false c14
          clear c14
          (have c14z := c14b0; simp only [c14b0] at * <;> (try replace c14b0 := c14z))
          by_cases c15 : x3_2 = 0
          ·rw [if_pos c15] at H
           have c15b0 : (x3_2 == 0) = true := beq_iff_eq.mpr c15
           have c15b1 : (x3_2 != 0) = false := bne_eq_false_iff_eq.mpr c15
           clear c15
           have H' := Aside0.mk H
           clear H
           go_wp2
           go_meet
           case rel => exact ⟨_, (true), eqA, H', ⟨by have := HJ1.out; have := HK2.out; first | omega | exact Nat.le_refl _⟩, by repeat (first | exact Drawn0.refl _ | apply Drawn0.step)⟩
          rw [if_neg c15] at H
          have c15b0 : (x3_2 == 0) = false := beq_eq_false_iff_ne.mpr c15
          have c15b1 : (x3_2 != 0) = true := bne_iff_ne.mpr c15
          have H' := Aside0.mk H
          clear H
          go_wp2
          go_meet
          case rel => exact ⟨_, (!(decide ((bt a0 x3_2) ≤ 57))), eqA, H', ⟨by have := HJ1.out; have := HK2.out; first | omega | exact Nat.le_refl _⟩, by repeat (first | exact Drawn0.refl _ | apply Drawn0.step)⟩
         case rest =>
          clear HC13
          try clear c3
          try clear c3b0
          try clear c3b1
          try clear c4
          try clear c5
          try clear c5b0
          try clear c6
          try clear c6b0
          try clear p7
          try clear q7
          try clear c8
          try clear c8b0
          try clear p9
          try clear q9
          try clear p10
          try clear q10
          try clear c11
          try clear c11b0
          try clear p12
          try clear q12
          try clear c14
          try clear c14b0
          try clear c15
          try clear c15b0
          try clear c15b1
          try clear p10
          try clear p12
          try clear p7
          try clear p9
          try clear q10
          try clear q12
          try clear q7
          try clear q9
          obtain ⟨kq, x49_12, rfl, HA, HJ12, ⟨mc12, rfl⟩⟩ := hcut
          cases kq with
          | zero => exact absurd HA.out (by simp [impl_IsName.j2])
          | succ kj12 =>
           have H := HA.out
           clear HA
           simp only [impl_IsName.j2] at H
           by_cases c16 : x49_12 = true
           ·subst c16
            have H1 : (some false) = some r := by rw [if_pos rfl] at H; exact H
            clear H
            have H := H1
            clear H1
            obtain rfl := Option.some.inj H
            go_wp2
            go_ret
            exact ⟨eqA, by repeat (first | exact Drawn0.refl _ | apply Drawn0.step)⟩
           replace c16 := Bool.eq_false_iff.mpr c16
           subst c16
           have H1 : (impl_IsName.l0 kj12 a0 (wrap64 (x3_2 + 1))) = some r := by rw [if_neg (show ¬ (false = true) by decide)] at H; exact H
           clear H
           have H := H1
           clear H1
           have H' := Aside0.mk H
           clear H
           go_wp2
           go_roundg kj12
           case measure => have := HJ1.out; have := HK2.out; have := HJ12.out; omega
           case rel => exact ⟨(wrap64 (x3_2 + 1)), eqA, H', ⟨by have := HJ1.out; have := HK2.out; have := HJ12.out; omega⟩, by repeat (first | exact Drawn0.refl _ | apply Drawn0.step)⟩
        rw [if_neg c11] at H
        have c11b0 : decide (48 ≤ (bt a0 x3_2)) = false := decide_eq_false c11
        clear c11
        have HC17 := Aside0.mk H
        clear H
        have p7 : 0 ≤ (x3_2 : Int) := ofA
        have q7 : x3_2 < (a0.size : Int) := ofA
        have hx7 := bt_at a0 x3_2
        replace p7 := eq_true p7
        replace q7 := eq_true q7
        have p9 : 0 ≤ (x3_2 : Int) := ofA
        have q9 : x3_2 < (a0.size : Int) := ofA
        have hx9 := bt_at a0 x3_2
        replace p9 := eq_true p9
        replace q9 := eq_true q9
        have p10 : 0 ≤ (x3_2 : Int) := ofA
        have q10 : x3_2 < (a0.size : Int) := ofA
        have hx10 := bt_at a0 x3_2
        replace p10 := eq_true p10
        replace q10 := eq_true q10
        go_upto_region 8 with (fail)
        go_cut [49] (fun v49 wc => ∃ (kq : Nat) (x49_16 : Bool), v49 = .bool x49_16 ∧ Aside0 (impl_IsName.j3 kq a0 x3_2 x49_16 = some r) ∧ Aside0 (kq ≤ k2) ∧ Drawn0 w wc)
        case first =>
         have H := HC17.out
         clear HC17
         by_cases c18 : ((bt a0 x3_2) ≤ 122)
         ·rw [if_pos c18] at H
          have c18b0 : decide ((bt a0 x3_2) ≤ 122) = true := decide_eq_true c18
          clear c18
          (have c18z := c18b0; simp only [c18b0] at * <;> (try replace c18b0 := c18z))
          have H' := Aside0.mk H
          clear H
          go_wp2
          go_meet
          case rel => exact ⟨_, (false), eqA, H', ⟨by have := HJ1.out; have := HK2.out; first | omega | exact Nat.le_refl _⟩, by repeat (first | exact Drawn0.refl _ | apply Drawn0.step)⟩
         rw [if_neg c18] at H
         have c18b0 : decide ((bt a0 x3_2) ≤ 122) = false := decide_eq_false c18
         clear c18
         (have c18z := c18b0; simp only [c18b0] at * <;> (try replace c18b0 := c18z))
         by_cases c19 : x3_2 = 0
         ·rw [if_pos c19] at H
          have c19b0 : (x3_2 == 0) = true := beq_iff_eq.mpr c19
          have c19b1 : (x3_2 != 0) = false := bne_eq_false_iff_eq.mpr c19
          clear c19
          have H' := Aside0.mk H
          clear H
          go_wp2
          go_meet
          case rel => exact ⟨_, (true), eqA, H', ⟨by have := HJ1.out; have := HK2.out; first | omega | exact Nat.le_refl _⟩, by repeat (first | exact Drawn0.refl _ | apply Drawn0.step)⟩
         rw [if_neg c19] at H
         have c19b0 : (x3_2 == 0) = false := beq_eq_false_iff_ne.mpr c19
         have c19b1 : (x3_2 != 0) = true := bne_iff_ne.mpr c19
         have H' := Aside0.mk H
         clear H
         go_wp2
         go_meet
         case rel => exact ⟨_, (!false), eqA, H', ⟨by have := HJ1.out; have := HK2.out; first | omega | exact Nat.le_refl _⟩, by repeat (first | exact Drawn0.refl _ | apply Drawn0.step)⟩
        case rest =>
         clear HC17
         try clear c3
         try clear c3b0
         try clear c3b1
         try clear c4
         try clear c5
         try clear c5b0
         try clear c6
         try clear c6b0
         try clear p7
         try clear q7
         try clear c8
         try clear c8b0
         try clear p9
         try clear q9
         try clear p10
         try clear q10
         try clear c11
         try clear c11b0
         try clear p12
         try clear q12
         try clear c14
         try clear c14b0
         try clear c15
         try clear c15b0
         try clear c15b1
         try clear c16
         try clear c18
         try clear c18b0
         try clear c19
         try clear c19b0
         try clear c19b1
         try clear p10
         try clear p12
         try clear p7
         try clear p9
         try clear q10
         try clear q12
         try clear q7
         try clear q9
         obtain ⟨kq, x49_16, rfl, HA, HJ16, ⟨mc16, rfl⟩⟩ := hcut
         cases kq with
         | zero => exact absurd HA.out (by simp [impl_IsName.j3])
         | succ kj16 =>
          have H := HA.out
          clear HA
          simp only [impl_IsName.j3] at H
          by_cases c20 : x49_16 = true
          ·subst c20
           have H1 : (some false) = some r := by rw [if_pos rfl] at H; exact H
           clear H
           have H := H1
           clear H1
           obtain rfl := Option.some.inj H
           go_wp2
           go_ret
           exact ⟨eqA, by repeat (first | exact Drawn0.refl _ | apply Drawn0.step)⟩
          replace c20 := Bool.eq_false_iff.mpr c20
          subst c20
          have H1 : (impl_IsName.l0 kj16 a0 (wrap64 (x3_2 + 1))) = some r := by rw [if_neg (show ¬ (false = true) by decide)] at H; exact H
          clear H
          have H := H1
          clear H1
          have H' := Aside0.mk H
          clear H
          go_wp2
          go_roundg kj16
          case measure => have := HJ1.out; have := HK2.out; have := HJ16.out; omega
          case rel => exact ⟨(wrap64 (x3_2 + 1)), eqA, H', ⟨by have := HJ1.out; have := HK2.out; have := HJ16.out; omega⟩, by repeat (first | exact Drawn0.refl _ | apply Drawn0.step)⟩
       rw [if_neg c8] at H
       have c8b0 : decide (97 ≤ (bt a0 x3_2)) = false := decide_eq_false c8
       clear c8
       by_cases c22 : (bt a0 x3_2) ≥ 48
       ·rw [if_pos c22] at H
        have c22b0 : decide (48 ≤ (bt a0 x3_2)) = true := decide_eq_true c22
        clear c22
        by_cases c24 : x3_2 = 0
        ·rw [if_pos c24] at H
         have c24b0 : (x3_2 == 0) = true := beq_iff_eq.mpr c24
         have c24b1 : (x3_2 != 0) = false := bne_eq_false_iff_eq.mpr c24
         clear c24
         obtain rfl := Option.some.inj H
         have p7 : 0 ≤ (x3_2 : Int) := ofA
         have q7 : x3_2 < (a0.size : Int) := ofA
         have hx7 := bt_at a0 x3_2
         replace p7 := eq_true p7
         replace q7 := eq_true q7
         have p21 : 0 ≤ (x3_2 : Int) := ofA
         have q21 : x3_2 < (a0.size : Int) := ofA
         have hx21 := bt_at a0 x3_2
         replace p21 := eq_true p21
         replace q21 := eq_true q21
         have p23 : 0 ≤ (x3_2 : Int) := ofA
         have q23 : x3_2 < (a0.size : Int) := ofA
         have hx23 := bt_at a0 x3_2
         replace p23 := eq_true p23
         replace q23 := eq_true q23
         go_wp2
         go_ret
         exact ⟨eqA, by repeat (first | exact Drawn0.refl _ | apply Drawn0.step)⟩
        rw [if_neg c24] at H
        have c24b0 : (x3_2 == 0) = false := beq_eq_false_iff_ne.mpr c24
        have c24b1 : (x3_2 != 0) = true := bne_iff_ne.mpr c24
        by_cases c25 : ((bt a0 x3_2) ≤ 57)
        ·rw [if_pos c25] at H
         have c25b0 : decide ((bt a0 x3_2) ≤ 57) = true := decide_eq_true c25
         clear c25
         have H' := Aside0.mk H
         clear H
         have p7 : 0 ≤ (x3_2 : Int) := ofA
         have q7 : x3_2 < (a0.size : Int) := ofA
         have hx7 := bt_at a0 x3_2
         replace p7 := eq_true p7
         replace q7 := eq_true q7
         have p21 : 0 ≤ (x3_2 : Int) := ofA
         have q21 : x3_2 < (a0.size : Int) := ofA
         have hx21 := bt_at a0 x3_2
         replace p21 := eq_true p21
         replace q21 := eq_true q21
         have p23 : 0 ≤ (x3_2 : Int) := ofA
         have q23 : x3_2 < (a0.size : Int) := ofA
         have hx23 := bt_at a0 x3_2
         replace p23 := eq_true p23
         replace q23 := eq_true q23
         go_wp2
         go_roundg k2
         case measure => have := HJ1.out; have := HK2.out; omega
         case rel => exact ⟨(wrap64 (x3_2 + 1)), eqA, H', ⟨by have := HJ1.out; have := HK2.out; omega⟩, by repeat (first | exact Drawn0.refl _ | apply Drawn0.step)⟩
        rw [if_neg c25] at H
        have c25b0 : decide ((bt a0 x3_2) ≤ 57) = false := decide_eq_false c25
        clear c25
        obtain rfl := Option.some.inj H
        have p7 : 0 ≤ (x3_2 : Int) := ofA
        have q7 : x3_2 < (a0.size : Int) := ofA
        have hx7 := bt_at a0 x3_2
        replace p7 := eq_true p7
        replace q7 := eq_true q7
        have p21 : 0 ≤ (x3_2 : Int) := ofA
        have q21 : x3_2 < (a0.size : Int) := ofA
        have hx21 := bt_at a0 x3_2
        replace p21 := eq_true p21
        replace q21 := eq_true q21
        have p23 : 0 ≤ (x3_2 : Int) := ofA
        have q23 : x3_2 < (a0.size : Int) := ofA
        have hx23 := bt_at a0 x3_2
        replace p23 := eq_true p23
        replace q23 := eq_true q23
        go_wp2
        go_ret
        exact ⟨eqA, by repeat (first | exact Drawn0.refl _ | apply Drawn0.step)⟩
       rw [if_neg c22] at H
       have c22b0 : decide (48 ≤ (bt a0 x3_2)) = false := decide_eq_false c22
       clear c22
       by_cases c26 : x3_2 = 0
       ·rw [if_pos c26] at H
        have c26b0 : (x3_2 == 0) = true := beq_iff_eq.mpr c26
        have c26b1 : (x3_2 != 0) = false := bne_eq_false_iff_eq.mpr c26
        clear c26
        obtain rfl := Option.some.inj H
        have p7 : 0 ≤ (x3_2 : Int) := ofA
        have q7 : x3_2 < (a0.size : Int) := ofA
        have hx7 := bt_at a0 x3_2
        replace p7 := eq_true p7
        replace q7 := eq_true q7
        have p21 : 0 ≤ (x3_2 : Int) := ofA
        have q21 : x3_2 < (a0.size : Int) := ofA
        have hx21 := bt_at a0 x3_2
        replace p21 := eq_true p21
        replace q21 := eq_true q21
        go_wp2
        go_ret
        exact ⟨eqA, by repeat (first | exact Drawn0.refl _ | apply Drawn0.step)⟩
       rw [if_neg c26] at H
       have c26b0 : (x3_2 == 0) = false := beq_eq_false_iff_ne.mpr c26
       have c26b1 : (x3_2 != 0) = true := bne_iff_ne.mpr c26
       obtain rfl := Option.some.inj H
       have p7 : 0 ≤ (x3_2 : Int) := ofA
       have q7 : x3_2 < (a0.size : Int) := ofA
       have hx7 := bt_at a0 x3_2
       replace p7 := eq_true p7
       replace q7 := eq_true q7
       have p21 : 0 ≤ (x3_2 : Int) := ofA
       have q21 : x3_2 < (a0.size : Int) := ofA
       have hx21 := bt_at a0 x3_2
       replace p21 := eq_true p21
       replace q21 := eq_true q21
       go_wp2
       go_ret
       exact ⟨eqA, by repeat (first | exact Drawn0.refl _ | apply Drawn0.step)⟩
      rw [if_neg c6] at H
      exact absurd H (by simp)
     rw [if_neg c5] at H
     have c5b0 : decide (x3_2 < (a0.size : Int)) = false := decide_eq_false c5
     clear c5
     obtain rfl := Option.some.inj H
     go_wp2
     go_ret
     exact ⟨eqA, by repeat (first | exact Drawn0.refl _ | apply Drawn0.step)⟩
def impl_SplitLines.f (k : Nat) (a0 : ByteArray) : Option (List ByteArray) := (impl_SplitAny.f k a0 (⟨#[10]⟩ : ByteArray)).bind fun t209 => (if 0 ≤ (wrap64 ((t209.length : Int) - 1)) then (if (wrap64 ((t209.length : Int) - 1)) < (t209.length : Int) then (if (rdOf ByteArray.empty t209 (wrap64 ((t209.length : Int) - 1))).toList = ([] : List UInt8) then (if (wrap64 ((t209.length : Int) - 1)) ≤ (t209.length : Int) then (some (t209.take ((wrap64 ((t209.length : Int) - 1)) : Int).toNat)) else (none)) else (some t209)) else (none)) else (none))
set_option maxHeartbeats 8000000 in
set_option maxRecDepth 100000 in
theorem impl_SplitLines.calls (k : Nat) (a0 : ByteArray) (r : List ByteArray) (w : World) (h : impl_SplitLines.f k a0 = some r) :
  Calls Tryd.prog 15 #[.string a0] w fun e w' => ∃ v0_ : Value, e = .returned (v0_) ∧ Kd.R Kd.string 9 w' w.heap.size (fun _ => True) v0_ r ∧ Below w.heap.size w w' := by
 have HB := Aside0.mk (Below.refl w.heap.size w)
 have H : ((impl_SplitAny.f k a0 (⟨#[10]⟩ : ByteArray)).bind fun t209 => (if 0 ≤ (wrap64 ((t209.length : Int) - 1)) then (if (wrap64 ((t209.length : Int) - 1)) < (t209.length : Int) then (if (rdOf ByteArray.empty t209 (wrap64 ((t209.length : Int) - 1))).toList = ([] : List UInt8) then (if (wrap64 ((t209.length : Int) - 1)) ≤ (t209.length : Int) then (some (t209.take ((wrap64 ((t209.length : Int) - 1)) : Int).toNat)) else (none)) else (some t209)) else (none)) else (none))) = some r := h
 clear h
 replace H := Option.bind_eq_some_iff.mp H
 obtain ⟨t209, A20, H⟩ := H
 replace H : (if 0 ≤ (wrap64 ((t209.length : Int) - 1)) then (if (wrap64 ((t209.length : Int) - 1)) < (t209.length : Int) then (if (rdOf ByteArray.empty t209 (wrap64 ((t209.length : Int) - 1))).toList = ([] : List UInt8) then (if (wrap64 ((t209.length : Int) - 1)) ≤ (t209.length : Int) then (some (t209.take ((wrap64 ((t209.length : Int) - 1)) : Int).toNat)) else (none)) else (some t209)) else (none)) else (none)) = some r := H
 have A2 := Aside0.mk A20
 clear A20
 obtain ⟨ji3, hji3⟩ : ∃ j_ : Int, (wrap64 ((t209.length : Int) - 1)) = j_ := ⟨_, rfl⟩
 replace H : (if 0 ≤ (ji3) then (if (ji3) < (t209.length : Int) then (if (rdOf ByteArray.empty t209 (ji3)).toList = ([] : List UInt8) then (if (ji3) ≤ (t209.length : Int) then (some (t209.take ((ji3) : Int).toNat)) else (none)) else (some t209)) else (none)) else (none)) = some r := by first | (rw [hji3] at H; exact H) | (simp only [hji3] at H ⊢; exact H)
 (try rw [hji3] at A2)
 have hji3w : (IntKind.i64.wrap ((t209.length : Int) - 1)) = ji3 := (i64_w _).trans hji3
 by_cases c4 : 0 ≤ (ji3)
 ·rw [if_pos c4] at H
  have c4b0 : decide (0 ≤ (ji3)) = true := decide_eq_true c4
  clear c4
  by_cases c5 : (ji3) < (t209.length : Int)
  ·rw [if_pos c5] at H
   have c5b0 : decide ((ji3) < (t209.length : Int)) = true := decide_eq_true c5
   clear c5
   by_cases c6 : (rdOf ByteArray.empty t209 (ji3)).toList = ([] : List UInt8)
   ·rw [if_pos c6] at H
    have c6b0 : ((rdOf ByteArray.empty t209 (ji3)).toList == ([] : List UInt8)) = true := beq_iff_eq.mpr c6
    have c6b1 : ((rdOf ByteArray.empty t209 (ji3)).toList != ([] : List UInt8)) = false := bne_eq_false_iff_eq.mpr c6
    clear c6
    by_cases c7 : (ji3) ≤ (t209.length : Int)
    ·rw [if_pos c7] at H
     have c7b0 := eq_true c7
     have c7b1 : decide ((ji3) ≤ (t209.length : Int)) = true := decide_eq_true c7
     clear c7
     obtain ⟨y213, hy213⟩ : ∃ y_ : List ByteArray, y_ = (t209.take ((ji3) : Int).toNat) := ⟨_, rfl⟩
     replace H : (some y213) = some r := by first | (rw [hy213]; with_reducible exact H) | (have H2_ := (Option.bind_some _ _).symm.trans H; rw [hy213]; with_reducible exact H2_) | (have H2_ := (Option.bind_some _ _).symm.trans H; with_reducible exact H2_) | with_reducible exact H | (rw [hy213]; exact H) | exact H
     have Ny213 := Aside0.mk hy213
     clear hy213
     obtain rfl := Option.some.inj H
     go_enter Tryd.func15, Tryd.ntmps15
     go_wp2_with (first | ((with_reducible refine gate_callee (f := 13) rfl ?_); refine goesM_ (some 5) rfl rfl Tryd.func13 (by kernel_rfl) rfl #[.string a0, .string (⟨#[10]⟩ : ByteArray)] rfl ?_; (with_reducible refine (impl_SplitAny.calls k a0 (⟨#[10]⟩ : ByteArray) t209 _ A2.out).mono ?_); rintro e w8 ⟨v210, rfl, ho0, hb⟩; refine ⟨_, rfl, ?_⟩; have HO211 := Aside0.mk (Kd.R_lower ho0 (below_size (Lz HB))); replace HB := Aside0.mk (below_step (Lz HB) hb); (try clear hb); (try clear ho0); obtain ⟨Ao9, co9, eo9⟩ := Kd.R_slice HO211.out; subst eo9; have p212 : 0 ≤ ((ji3) : Int) := ofA; have q212 : (ji3) < (t209.length : Int) := ofA; obtain ⟨ad212, e212, hx212_0⟩ := Kd.at_string (Kd.R_reads' HO211.out).2.2 (ji3) p212 q212; cases e212; replace p212 := eq_true p212; replace q212 := eq_true q212; have q10 : ((ji3) : Int) ≤ ((t209.length : Int) : Int) := ofA; obtain ⟨i010, hi010, _, hsz10, _⟩ := info_parts info9; have hcut10 := cut_to (P := Tryd.prog) 31 9 .i64 Tryd.underlying31 hi010 (some ad212) t209.length co9 (ji3) (ofA) q10 (Kd.R_reads' HO211.out).2.1; have hr10 := Kd.R_take (m := ((ji3) : Int).toNat) HO211.out (by omega); have hy10 : y213.length = ((ji3) : Int).toNat := (by rw [Ny213.out, List.length_take]; omega); rw [← Ny213.out] at hr10; rw [← hy10] at hr10 hcut10; clear hy10 hi010 hsz10 HO211; have HO215 := Aside0.mk hr10; clear hr10; replace q10 := eq_true q10))
     go_ret
     exact ⟨_, by first | rfl | (simp [errW_none, errW_some] <;> rfl) | (simp only [← hji3]; first | rfl | (simp [errW_none, errW_some] <;> rfl)) | (simp [*, errW_none, errW_some] <;> rfl), by exact Rz HO215, by exact Lz HB⟩
    rw [if_neg c7] at H
    exact absurd H (by simp)
   rw [if_neg c6] at H
   have c6b0 : ((rdOf ByteArray.empty t209 (ji3)).toList == ([] : List UInt8)) = false := beq_eq_false_iff_ne.mpr c6
   have c6b1 : ((rdOf ByteArray.empty t209 (ji3)).toList != ([] : List UInt8)) = true := bne_iff_ne.mpr c6
   obtain rfl := Option.some.inj H
   go_enter Tryd.func15, Tryd.ntmps15
   go_wp2_with (first | ((with_reducible refine gate_callee (f := 13) rfl ?_); refine goesM_ (some 5) rfl rfl Tryd.func13 (by kernel_rfl) rfl #[.string a0, .string (⟨#[10]⟩ : ByteArray)] rfl ?_; (with_reducible refine (impl_SplitAny.calls k a0 (⟨#[10]⟩ : ByteArray) t209 _ A2.out).mono ?_); rintro e w11 ⟨v210, rfl, ho0, hb⟩; refine ⟨_, rfl, ?_⟩; have HO211 := Aside0.mk (Kd.R_lower ho0 (below_size (Lz HB))); replace HB := Aside0.mk (below_step (Lz HB) hb); (try clear hb); (try clear ho0); obtain ⟨Ao12, co12, eo12⟩ := Kd.R_slice HO211.out; subst eo12; have p212 : 0 ≤ ((ji3) : Int) := ofA; have q212 : (ji3) < (t209.length : Int) := ofA; obtain ⟨ad212, e212, hx212_0⟩ := Kd.at_string (Kd.R_reads' HO211.out).2.2 (ji3) p212 q212; cases e212; replace p212 := eq_true p212; replace q212 := eq_true q212))
   go_ret
   exact ⟨_, by first | rfl | (simp [errW_none, errW_some] <;> rfl) | (simp only [← hji3]; first | rfl | (simp [errW_none, errW_some] <;> rfl)) | (simp [*, errW_none, errW_some] <;> rfl), by exact Rz HO211, by exact Lz HB⟩
  rw [if_neg c5] at H
  exact absurd H (by simp)
 rw [if_neg c4] at H
 exact absurd H (by simp)
def laws_FnWords.j0 : Nat → List Int → Option (Bool)
 | 0, _ => none
 | k + 1, x0 => (spec_MakeNum.f k x0 1).bind fun t216 => ((impl_FormatInt.f (wrap64 (t216 - 30000))).bind fun t217 => ((impl_ParseInt.f t217).bind fun bt218 => ((spec_MakeText.f k x0).bind fun t220 => (if bt218.2 = true then (if bt218.1 = (wrap64 (t216 - 30000)) then ((impl_SplitAny.f k t220 (⟨#[32]⟩ : ByteArray)).bind fun t221 => ((impl_Join.f t221 (⟨#[32]⟩ : ByteArray)).bind fun t224 => (if t224.toList = t220.toList then ((impl_IsName.f k (⟨#[120, 49]⟩ : ByteArray)).bind fun t225 => (if t225 = true then ((impl_SplitLines.f k (⟨#[97, 10, 98, 10]⟩ : ByteArray)).bind fun t226 => (some ((t226.length : Int) == 2))) else (some false))) else (some false)))) else (some false)) else (some false)))))
def laws_FnWords.f (k : Nat) (l0 : List Int) : Option (Bool) := if (l0.length : Int) > 1048576 then (some true) else (laws_FnWords.j0 k l0)
set_option maxHeartbeats 8000000 in
set_option maxRecDepth 100000 in
theorem laws_FnWords.calls (k : Nat) (A0 : Option Addr) (c0 : Nat) (l0 : List Int) (r : Bool) (w : World) (hErr0_ : Err0 w) (hTab0_ : Tab0 w) (hr0 : Kd.C (Kd.int .u8) w A0 l0.length l0) (hc0 : l0.length ≤ c0) (h : laws_FnWords.f k l0 = some r) (hR_ : r = true := by rfl) :
  Calls Tryd.prog 5 #[.slice A0 l0.length c0] w fun e w' => e = .returned (.bool r) ∧ Below w.heap.size w w' := by
 have HR_ := Aside0.mk hR_
 clear hR_
 have HR0 := Aside0.mk hr0
 have HC0 := Aside0.mk hc0
 clear hr0 hc0
 have HB := Aside0.mk (Below.refl w.heap.size w)
 have H : (if (l0.length : Int) > 1048576 then (some true) else (laws_FnWords.j0 k l0)) = some r := h
 clear h
 have HC2 := Aside0.mk H
 clear H
 go_enter Tryd.func5, Tryd.ntmps5
 go_upto_if 9 with (fail)
 go_cut [] (fun wc => ∃ (kq : Nat), Aside0 (laws_FnWords.j0 kq l0 = some r) ∧ Aside0 (kq ≤ k) ∧ Aside0 (Below w.heap.size w wc))
 case first =>
  have H := HC2.out
  clear HC2
  by_cases c3 : (l0.length : Int) > 1048576
  ·rw [if_pos c3] at H
   have c3b0 : decide (1048576 < (l0.length : Int)) = true := decide_eq_true c3
   have c3b1 : decide (1048576 < l0.length) = true := decide_eq_true (by omega)
   clear c3
   (first | rw [c3b0] | (simp only [i64_w, i32_w]; rw [c3b0]) | skip)
   obtain rfl := Option.some.inj H
   go_wp2
   go_ret
   exact ⟨by first | rfl | (simp [errW_none, errW_some] <;> rfl) | (simp [*, errW_none, errW_some] <;> rfl), by exact Lz HB⟩
  rw [if_neg c3] at H
  have c3b0 : decide (1048576 < (l0.length : Int)) = false := decide_eq_false c3
  have c3b1 : decide (1048576 < l0.length) = false := decide_eq_false (by omega)
  clear c3
  (first | rw [c3b0] | (simp only [i64_w, i32_w]; rw [c3b0]) | skip)
  have H' := Aside0.mk H
  clear H
  go_wp2
  go_meet
  case rel => exact ⟨_, H', ⟨by first | omega | exact Nat.le_refl _⟩, ⟨by exact Lz HB⟩⟩
 case rest =>
  clear HC2
  try clear c3
  try clear c3b0
  try clear c3b1
  obtain ⟨kq, HA, HJ1, HB⟩ := hcut
  cases kq with
  | zero => exact absurd HA.out (by simp [laws_FnWords.j0])
  | succ kj1 =>
   have H := HA.out
   clear HA
   simp only [laws_FnWords.j0] at H
   replace H := Option.bind_eq_some_iff.mp H
   obtain ⟨t216, A40, H⟩ := H
   replace H : ((impl_FormatInt.f (wrap64 (t216 - 30000))).bind fun t217 => ((impl_ParseInt.f t217).bind fun bt218 => ((spec_MakeText.f kj1 l0).bind fun t220 => (if bt218.2 = true then (if bt218.1 = (wrap64 (t216 - 30000)) then ((impl_SplitAny.f kj1 t220 (⟨#[32]⟩ : ByteArray)).bind fun t221 => ((impl_Join.f t221 (⟨#[32]⟩ : ByteArray)).bind fun t224 => (if t224.toList = t220.toList then ((impl_IsName.f kj1 (⟨#[120, 49]⟩ : ByteArray)).bind fun t225 => (if t225 = true then ((impl_SplitLines.f kj1 (⟨#[97, 10, 98, 10]⟩ : ByteArray)).bind fun t226 => (some ((t226.length : Int) == 2))) else (some false))) else (some false)))) else (some false)) else (some false))))) = some r := H
   have A4 := Aside0.mk A40
   clear A40
   replace H := Option.bind_eq_some_iff.mp H
   obtain ⟨t217, A50, H⟩ := H
   replace H : ((impl_ParseInt.f t217).bind fun bt218 => ((spec_MakeText.f kj1 l0).bind fun t220 => (if bt218.2 = true then (if bt218.1 = (wrap64 (t216 - 30000)) then ((impl_SplitAny.f kj1 t220 (⟨#[32]⟩ : ByteArray)).bind fun t221 => ((impl_Join.f t221 (⟨#[32]⟩ : ByteArray)).bind fun t224 => (if t224.toList = t220.toList then ((impl_IsName.f kj1 (⟨#[120, 49]⟩ : ByteArray)).bind fun t225 => (if t225 = true then ((impl_SplitLines.f kj1 (⟨#[97, 10, 98, 10]⟩ : ByteArray)).bind fun t226 => (some ((t226.length : Int) == 2))) else (some false))) else (some false)))) else (some false)) else (some false)))) = some r := H
   have A5 := Aside0.mk A50
   clear A50
   replace H := Option.bind_eq_some_iff.mp H
   obtain ⟨⟨t218, t219⟩, A60, H⟩ := H
   replace H : ((spec_MakeText.f kj1 l0).bind fun t220 => (if t219 = true then (if t218 = (wrap64 (t216 - 30000)) then ((impl_SplitAny.f kj1 t220 (⟨#[32]⟩ : ByteArray)).bind fun t221 => ((impl_Join.f t221 (⟨#[32]⟩ : ByteArray)).bind fun t224 => (if t224.toList = t220.toList then ((impl_IsName.f kj1 (⟨#[120, 49]⟩ : ByteArray)).bind fun t225 => (if t225 = true then ((impl_SplitLines.f kj1 (⟨#[97, 10, 98, 10]⟩ : ByteArray)).bind fun t226 => (some ((t226.length : Int) == 2))) else (some false))) else (some false)))) else (some false)) else (some false))) = some r := H
   have A6 := Aside0.mk A60
   clear A60
   replace H := Option.bind_eq_some_iff.mp H
   obtain ⟨t220, A70, H⟩ := H
   replace H : (if t219 = true then (if t218 = (wrap64 (t216 - 30000)) then ((impl_SplitAny.f kj1 t220 (⟨#[32]⟩ : ByteArray)).bind fun t221 => ((impl_Join.f t221 (⟨#[32]⟩ : ByteArray)).bind fun t224 => (if t224.toList = t220.toList then ((impl_IsName.f kj1 (⟨#[120, 49]⟩ : ByteArray)).bind fun t225 => (if t225 = true then ((impl_SplitLines.f kj1 (⟨#[97, 10, 98, 10]⟩ : ByteArray)).bind fun t226 => (some ((t226.length : Int) == 2))) else (some false))) else (some false)))) else (some false)) else (some false)) = some r := H
   have A7 := Aside0.mk A70
   clear A70
   by_cases c8 : t219 = true
   ·subst c8
    have H1 : (if t218 = (wrap64 (t216 - 30000)) then ((impl_SplitAny.f kj1 t220 (⟨#[32]⟩ : ByteArray)).bind fun t221 => ((impl_Join.f t221 (⟨#[32]⟩ : ByteArray)).bind fun t224 => (if t224.toList = t220.toList then ((impl_IsName.f kj1 (⟨#[120, 49]⟩ : ByteArray)).bind fun t225 => (if t225 = true then ((impl_SplitLines.f kj1 (⟨#[97, 10, 98, 10]⟩ : ByteArray)).bind fun t226 => (some ((t226.length : Int) == 2))) else (some false))) else (some false)))) else (some false)) = some r := by rw [if_pos rfl] at H; exact H
    clear H
    have H := H1
    clear H1
    by_cases c9 : t218 = (wrap64 (t216 - 30000))
    ·rw [if_pos c9] at H
     have c9b0 : (t218 == (wrap64 (t216 - 30000))) = true := beq_iff_eq.mpr c9
     have c9b1 : (t218 != (wrap64 (t216 - 30000))) = false := bne_eq_false_iff_eq.mpr c9
     clear c9
     replace H := Option.bind_eq_some_iff.mp H
     obtain ⟨t221, A100, H⟩ := H
     replace H : ((impl_Join.f t221 (⟨#[32]⟩ : ByteArray)).bind fun t224 => (if t224.toList = t220.toList then ((impl_IsName.f kj1 (⟨#[120, 49]⟩ : ByteArray)).bind fun t225 => (if t225 = true then ((impl_SplitLines.f kj1 (⟨#[97, 10, 98, 10]⟩ : ByteArray)).bind fun t226 => (some ((t226.length : Int) == 2))) else (some false))) else (some false))) = some r := H
     have A10 := Aside0.mk A100
     clear A100
     replace H := Option.bind_eq_some_iff.mp H
     obtain ⟨t224, A110, H⟩ := H
     replace H : (if t224.toList = t220.toList then ((impl_IsName.f kj1 (⟨#[120, 49]⟩ : ByteArray)).bind fun t225 => (if t225 = true then ((impl_SplitLines.f kj1 (⟨#[97, 10, 98, 10]⟩ : ByteArray)).bind fun t226 => (some ((t226.length : Int) == 2))) else (some false))) else (some false)) = some r := H
     have A11 := Aside0.mk A110
     clear A110
     by_cases c12 : t224.toList = t220.toList
     ·rw [if_pos c12] at H
      have c12b0 : (t224.toList == t220.toList) = true := beq_iff_eq.mpr c12
      have c12b1 : (t224.toList != t220.toList) = false := bne_eq_false_iff_eq.mpr c12
      clear c12
      replace H := Option.bind_eq_some_iff.mp H
      obtain ⟨t225, A130, H⟩ := H
      replace H : (if t225 = true then ((impl_SplitLines.f kj1 (⟨#[97, 10, 98, 10]⟩ : ByteArray)).bind fun t226 => (some ((t226.length : Int) == 2))) else (some false)) = some r := H
      have A13 := Aside0.mk A130
      clear A130
      by_cases c14 : t225 = true
      ·subst c14
       have H1 : ((impl_SplitLines.f kj1 (⟨#[97, 10, 98, 10]⟩ : ByteArray)).bind fun t226 => (some ((t226.length : Int) == 2))) = some r := by rw [if_pos rfl] at H; exact H
       clear H
       have H := H1
       clear H1
       replace H := Option.bind_eq_some_iff.mp H
       obtain ⟨t226, A150, H⟩ := H
       replace H : (some ((t226.length : Int) == 2)) = some r := H
       have A15 := Aside0.mk A150
       clear A150
       obtain rfl := Option.some.inj H
       go_wp2_with (first | ((with_reducible refine gate_callee (f := 10) rfl ?_); refine goesM_ (some 11) rfl rfl Tryd.func10 (by kernel_rfl) rfl #[.slice A0 l0.length c0, .int .i64 1] rfl ?_; (with_reducible refine (spec_MakeNum.calls kj1 _ _ l0 1 t216 _ ?side1 ?side2 A4.out).mono ?_); (case side1 => exact Cz ((Kd.C_below HR0.out HB.out))); (case side2 => exact HC0.out); rintro e w16 ⟨rfl, hb⟩; refine ⟨_, rfl, ?_⟩; replace HB := Aside0.mk (below_step (Lz HB) hb); (try clear hb); (try clear hb2); (try clear hk); (try clear hi)) | ((with_reducible refine gate_callee (f := 7) rfl ?_); refine goesM_ (some 15) rfl rfl Tryd.func7 (by kernel_rfl) rfl #[.int .i64 (wrap64 (t216 - 30000))] rfl ?_; (with_reducible refine (impl_FormatInt.calls (wrap64 (t216 - 30000)) t217 _ A5.out).mono ?_); rintro e w17 ⟨rfl, hb⟩; refine ⟨_, rfl, ?_⟩; replace HB := Aside0.mk (below_step (Lz HB) hb); (try clear hb); (try clear hb2); (try clear hk); (try clear hi)) | ((with_reducible refine gate_callee (f := 9) rfl ?_); refine goesM_ (some 16) rfl rfl Tryd.func9 (by kernel_rfl) rfl #[.string t217] rfl ?_; (with_reducible refine (impl_ParseInt.calls t217 t218 true _ A6.out).mono ?_); rintro e w18 ⟨rfl, hb⟩; refine ⟨_, rfl, ?_⟩; replace HB := Aside0.mk (below_step (Lz HB) hb); (try clear hb); (try clear hb2); (try clear hk); (try clear hi)) | ((with_reducible refine gate_callee (f := 11) rfl ?_); refine goesM_ (some 20) rfl rfl Tryd.func11 (by kernel_rfl) rfl #[.slice A0 l0.length c0] rfl ?_; (with_reducible refine (spec_MakeText.calls kj1 _ _ l0 t220 _ ?side1 ?side2 A7.out).mono ?_); (case side1 => exact Cz ((Kd.C_below HR0.out HB.out))); (case side2 => exact HC0.out); rintro e w19 ⟨rfl, hb⟩; refine ⟨_, rfl, ?_⟩; replace HB := Aside0.mk (below_step (Lz HB) hb); (try clear hb); (try clear hb2); (try clear hk); (try clear hi)) | (go_at_call 13; (with_reducible refine (impl_SplitAny.calls kj1 t220 (⟨#[32]⟩ : ByteArray) t221 _ A10.out).mono ?_); rintro e w20 ⟨v222, rfl, ho0, hb⟩; have HO223 := Aside0.mk (Kd.R_lower ho0 (below_size (Lz HB))); replace HB := Aside0.mk (below_step (Lz HB) hb); (try clear hb); (try clear ho0); obtain ⟨Ao21, co21, eo21⟩ := Kd.R_slice HO223.out; subst eo21) | (go_at_call 12; (with_reducible refine (impl_Join.calls _ _ t221 (⟨#[32]⟩ : ByteArray) t224 _ ?side1 ?side2 A11.out).mono ?_); (case side1 => exact Cz ((Kd.R_reads' HO223.out).2.2)); (case side2 => exact (Kd.R_reads' HO223.out).2.1); rintro e w22 ⟨rfl, hb⟩; replace HO223 := Aside0.mk (Kd.R_below (Rz HO223) hb); replace HB := Aside0.mk (below_step (Lz HB) hb); (try clear hb); (try clear hb2); (try clear hk); (try clear hi)) | (go_at_call 14; (with_reducible refine (impl_IsName.calls kj1 (⟨#[120, 49]⟩ : ByteArray) true _ A13.out).mono ?_); rintro e w' ⟨rfl, ⟨nd, rfl⟩⟩) | (go_at_call 15; (with_reducible refine (impl_SplitLines.calls kj1 (⟨#[97, 10, 98, 10]⟩ : ByteArray) t226 _ A15.out).mono ?_); rintro e w23 ⟨v227, rfl, ho0, hb⟩; have HO228 := Aside0.mk (Kd.R_lower (Kd.R_new' ho0 (Kd.R_lt (Rz HO223))) (below_size (Lz HB))); replace HO223 := Aside0.mk (Kd.R_elder' (Rz HO223) (Kd.R_base ho0) hb); replace HB := Aside0.mk (below_step (Lz HB) hb); (try clear hb); (try clear ho0); obtain ⟨Ao24, co24, eo24⟩ := Kd.R_slice HO228.out; subst eo24))
       go_ret
       exact ⟨by first | rfl | (simp [errW_none, errW_some] <;> rfl) | (simp [*, errW_none, errW_some] <;> rfl), by exact Lz HB⟩
      replace c14 := Bool.eq_false_iff.mpr c14
      subst c14
      have H1 : (some false) = some r := by rw [if_neg (show ¬ (false = true) by decide)] at H; exact H
      clear H
      have H := H1
      clear H1
      exact absurd (Option.some.inj H) (by rw [HR_.out]; decide)
     rw [if_neg c12] at H
     have c12b0 : (t224.toList == t220.toList) = false := beq_eq_false_iff_ne.mpr c12
     have c12b1 : (t224.toList != t220.toList) = true := bne_iff_ne.mpr c12
     exact absurd (Option.some.inj H) (by rw [HR_.out]; decide)
    rw [if_neg c9] at H
    have c9b0 : (t218 == (wrap64 (t216 - 30000))) = false := beq_eq_false_iff_ne.mpr c9
    have c9b1 : (t218 != (wrap64 (t216 - 30000))) = true := bne_iff_ne.mpr c9
    exact absurd (Option.some.inj H) (by rw [HR_.out]; decide)
   replace c8 := Bool.eq_false_iff.mpr c8
   subst c8
   have H1 : (some false) = some r := by rw [if_neg (show ¬ (false = true) by decide)] at H; exact H
   clear H
   have H := H1
   clear H1
   exact absurd (Option.some.inj H) (by rw [HR_.out]; decide)
def laws_FnWords.Pure : Prop := ∀ (l0 : List Int), l0.length ≤ maxLen → l0.length * 1 ≤ 140737488351232 → (∀ x ∈ l0, (Lit.int .u8 x).wf = true) → ∃ k, laws_FnWords.f k l0 = some true
end Go.Proofs.YtbbegaofekahdaaDoor.P
end
section
namespace Go.Proofs.YtbbegaofekahdaaDoor.Pure
open Go.RowKit Go.Proofs.YtbbegaofekahdaaDoor.P Go.Proofs.YtbbegaofekahdaaDoorW.PrintWords Go.Proofs.YtbbegaofekahdaaDoorW.PrintLast Go.Proofs.YtbbegaofekahdaaDoorW.PrintMore
def StatFnWords : Prop := ∀ (l0 : List (Int)), (l0.length ≤ maxLen ∧ ∀ x2 ∈ l0, (Lit.int .u8 x2).wf = true) → ∃ k, laws_FnWords.f k l0 = some true
end Go.Proofs.YtbbegaofekahdaaDoor.Pure
end
section
set_option linter.unusedVariables false
set_option linter.unusedSimpArgs false
namespace Go.Proofs.YtbbegaofekahdaaDoor.Pure
open Go.RowKit Go.Proofs.YtbbegaofekahdaaDoor.P Go.Proofs.YtbbegaofekahdaaDoorW.PrintWords Go.Proofs.YtbbegaofekahdaaDoorW.PrintLast Go.Proofs.YtbbegaofekahdaaDoorW.PrintMore Go.Proofs.YtbbegaofekahdaaDoor.Base Go.Proofs.YtbbegaofekahdaaDoor.Loops
theorem dec_le : ∀ (k u : Nat), u < 10 ^ (k + 1) → (Lib.decDigits u).length ≤ k + 1 := by
  intro k
  induction k with
  | zero =>
    intro u h
    rw [Lib.decDigits_one (by omega)]
    simp
  | succ k ih =>
    intro u h
    by_cases c : u < 10
    · rw [Lib.decDigits_one c]
      simp
    · rw [Lib.decDigits, dif_neg c, List.length_append]
      have := ih (u / 10) (by rw [Nat.pow_succ] at h; omega)
      simp only [List.length_singleton]
      omega
theorem dec_len (u : Nat) (h : u ≤ 9223372036854775808) : (Lib.decDigits u).length ≤ 21 := by
  have := dec_le 19 u (by omega)
  omega
theorem implFmt_eq (n : Int) (h0 : -9223372036854775808 ≤ n) (h1 : n ≤ 9223372036854775807) : impl_FormatInt.f n = some ⟨(Lib.itoa n).toArray⟩ := by
  unfold impl_FormatInt.f
  rw [if_pos ⟨h0, h1⟩]
def digs (l : List UInt8) : Prop := ∀ c ∈ l, 48 ≤ c.toNat ∧ c.toNat ≤ 57
def stepV (a : Nat) (c : UInt8) : Nat := a * 10 + (c.toNat - 48)
def valL (a : Nat) (l : List UInt8) : Nat := l.foldl stepV a
theorem valL_nil (a : Nat) : valL a [] = a := rfl
theorem valL_cons (a : Nat) (c : UInt8) (r : List UInt8) : valL a (c :: r) = valL (a * 10 + (c.toNat - 48)) r := by simp only [valL, List.foldl_cons, stepV]
theorem valL_ge (l : List UInt8) (a : Nat) : a ≤ valL a l := by
  induction l generalizing a with
  | nil =>
    rw [valL_nil]
    exact Nat.le_refl _
  | cons c r ih =>
    rw [valL_cons]
    exact Nat.le_trans (Nat.le_trans (Nat.le_mul_of_pos_right a (by decide)) (Nat.le_add_right _ _)) (ih _)
theorem valL_snoc (l : List UInt8) (a : Nat) (c : UInt8) : valL a (l ++ [c]) = valL a l * 10 + (c.toNat - 48) := by
  simp only [valL, List.foldl_append, List.foldl_cons, List.foldl_nil, stepV]
theorem digit_byte (d : Nat) (h : d < 10) : (UInt8.ofNat (48 + d)).toNat = 48 + d := by
  rcases (show d = 0 ∨ d = 1 ∨ d = 2 ∨ d = 3 ∨ d = 4 ∨ d = 5 ∨ d = 6 ∨ d = 7 ∨ d = 8 ∨ d = 9 by omega) with rfl | rfl | rfl | rfl | rfl | rfl | rfl | rfl | rfl | rfl <;> rfl
theorem val_dec (u : Nat) : valL 0 (Lib.decDigits u) = u ∧ digs (Lib.decDigits u) ∧ Lib.decDigits u ≠ [] := by
  induction u using Nat.strongRecOn with
  | _ u ih =>
    by_cases c : u < 10
    · rw [Lib.decDigits_one c]
      refine ⟨?_, ?_, by simp⟩
      · rw [valL_cons, valL_nil, digit_byte u c]; omega
      · intro x hx
        simp only [List.mem_singleton] at hx
        subst hx
        rw [digit_byte u c]
        omega
    · obtain ⟨h1, h2, _⟩ := ih (u / 10) (by omega)
      rw [Lib.decDigits, dif_neg c]
      refine ⟨?_, ?_, by simp⟩
      · rw [valL_snoc, h1, digit_byte (u % 10) (by omega)]
        omega
      · intro x hx
        rcases List.mem_append.1 hx with hx | hx
        · exact h2 x hx
        · simp only [List.mem_singleton] at hx
          subst hx
          rw [digit_byte (u % 10) (by omega)]
          omega
theorem toL (l : List UInt8) : (⟨l.toArray⟩ : ByteArray).toList = l := by rw [ByteArray.toList_eq]
theorem itoa_cases (n : Int) : (∃ u : Nat, 1 ≤ u ∧ n = -(u : Int) ∧ Lib.itoa n = 45 :: Lib.decDigits u) ∨ (∃ u : Nat, n = (u : Int) ∧ Lib.itoa n = Lib.decDigits u) := by
  by_cases c : n < 0
  · obtain ⟨u, rfl⟩ : ∃ u : Nat, n = -(u : Int) := ⟨n.natAbs, by omega⟩
    exact Or.inl ⟨u, by omega, rfl, Lib.itoa_neg u (by omega)⟩
  · obtain ⟨u, rfl⟩ := Int.eq_ofNat_of_zero_le (show 0 ≤ n by omega)
    exact Or.inr ⟨u, rfl, Lib.itoa_nonneg u⟩
theorem dec_head (u : Nat) : ∃ c r, Lib.decDigits u = c :: r ∧ 48 ≤ c.toNat ∧ c.toNat ≤ 57 := by
  obtain ⟨_, h2, h3⟩ := val_dec u
  cases hh : Lib.decDigits u with
  | nil => exact absurd hh h3
  | cons c r =>
    have := h2 c (by rw [hh]; simp)
    exact ⟨c, r, rfl, this⟩
theorem pu_ok : ∀ (l : List UInt8) (a : Nat), digs l → valL a l < 18446744073709551616 → Lib.parseUint10 a l = .ok (valL a l) := by
  intro l
  induction l with
  | nil => intro a _ _; rfl
  | cons c r ih =>
    intro a hd hv
    have hc := hd c (by simp)
    have hge := valL_ge r (a * 10 + (c.toNat - 48))
    rw [valL_cons] at hv ⊢
    simp only [Lib.parseUint10]
    rw [if_pos hc, if_neg (by omega), if_neg (by omega)]
    exact ih _ (fun x hx => hd x (by simp [hx])) hv
theorem mag_dec (u : Nat) (h : u < 18446744073709551616) : Lib.parseMag (Lib.decDigits u) = .ok u := by
  obtain ⟨h1, h2, h3⟩ := val_dec u
  unfold Lib.parseMag
  rw [if_neg h3, pu_ok _ _ h2 (by rw [h1]; exact h), h1]
theorem atoi_itoa (n : Int) (h0 : -9223372036854775808 ≤ n) (h1 : n ≤ 9223372036854775807) : Lib.atoiAll (Lib.itoa n) = .ok n := by
  rcases itoa_cases n with ⟨u, u1, rfl, hu⟩ | ⟨u, rfl, hu⟩
  · rw [hu, Lib.atoiAll_minus, mag_dec u (by omega)]
    unfold Lib.signed
    simp
    omega
  · obtain ⟨c, r, hcr, c0, c1⟩ := dec_head u
    rw [hu, hcr, Lib.atoiAll_plain c r (by omega) (by omega), ← hcr, mag_dec u (by omega)]
    unfold Lib.signless
    simp
    omega
theorem implParse_eq (s : ByteArray) (hs : s.size ≤ 281474976710656) :
    (∀ n : Int, -9223372036854775808 ≤ n → n ≤ 9223372036854775807 → Lib.itoa n = s.data.toList → impl_ParseInt.f s = some (n, true)) ∧
    ((∀ n : Int, -9223372036854775808 ≤ n → n ≤ 9223372036854775807 → Lib.itoa n ≠ s.data.toList) → impl_ParseInt.f s = some (0, false)) := by
  unfold impl_ParseInt.f
  rw [if_pos hs]
  refine ⟨fun n h0 h1 hn => ?_, fun hno => ?_⟩
  · rw [← hn, atoi_itoa n h0 h1]
    simp only
    rw [toL, ByteArray.toList_eq, if_pos hn]
  · cases ha : Lib.atoiAll s.data.toList
    case ok v =>
      obtain ⟨b0, b1⟩ := Lib.atoiAll_bounds ha
      simp only
      rw [toL, ByteArray.toList_eq, if_neg (hno v b0 b1)]
    all_goals rfl
theorem idx_mem (l : List UInt8) (c : UInt8) : 0 ≤ Lib.indexByte l c ↔ c ∈ l := by
  induction l with
  | nil => simp [Lib.indexByte]
  | cons b l ih =>
    unfold Lib.indexByte
    by_cases h : b = c
    · subst h; simp
    · have hge := Lib.indexByte_ge l c
      have hb : (b == c) = false := by simpa using h
      rw [if_neg (by simp [hb])]
      by_cases e : (Lib.indexByte l c == -1) = true
      · rw [if_pos e]
        have e' : Lib.indexByte l c = -1 := by simpa using e
        rw [e'] at ih
        constructor
        · intro h'; omega
        · intro h'
          rcases List.mem_cons.1 h' with h2 | h2
          · exact absurd h2.symm h
          · exact ih.2 h2
      · rw [if_neg e]
        have e' : Lib.indexByte l c ≠ -1 := by simpa using e
        constructor
        · intro _; exact List.mem_cons_of_mem _ (ih.1 (by omega))
        · intro _; omega
theorem bt_byte (s : ByteArray) (i : Nat) (h : i < s.size) : (bt s (i : Int)).toNat.toUInt8 = s[i]'h ∧ bt s (i : Int) = ((s[i]'h).toNat : Int) := by
  have := bt_at s (i : Int) (by simpa using h)
  simp only [Int.toNat_natCast] at this
  rw [← this]
  refine ⟨?_, rfl⟩
  rw [Int.toNat_natCast]
  exact UInt8.ofNat_toNat
def cutF (s b : ByteArray) : Nat → Nat → Nat → List ByteArray → List ByteArray
  | 0, _, p, acc => acc ++ [s.extract p s.size]
  | d + 1, i, p, acc => if h : i < s.size then (if (s[i]'h) ∈ b.data.toList then cutF s b d (i + 1) (i + 1) (acc ++ [s.extract p i]) else cutF s b d (i + 1) p acc) else acc ++ [s.extract p s.size]
theorem cutF_len (s b : ByteArray) : ∀ d i p acc, (cutF s b d i p acc).length ≤ acc.length + d + 1 ∧ acc.length + 1 ≤ (cutF s b d i p acc).length := by
  intro d
  induction d with
  | zero => intro i p acc; simp [cutF]
  | succ d ih =>
    intro i p acc
    simp only [cutF]
    split
    · split
      · have := ih (i + 1) (i + 1) (acc ++ [s.extract p i])
        simp only [List.length_append, List.length_cons, List.length_nil] at this
        omega
      · have := ih (i + 1) p acc
        omega
    · simp
def cuts (s b : ByteArray) : List ByteArray := cutF s b s.size 0 0 []
theorem implSplit_ev (s b : ByteArray) (hs : s.size ≤ 1048576) : Ev (fun k => impl_SplitAny.f k s b) (cuts s b) := by
  have main : ∀ (d i p : Nat) (acc : List ByteArray), i + d = s.size → p ≤ i → acc.length ≤ i → Ev (fun k => impl_SplitAny.l0 k s b acc (p : Int) (i : Int)) (cutF s b d i p acc) := by
    intro d
    induction d with
    | zero =>
      intro i p acc hi hp ha
      refine ev_succ ?_
      simp only [impl_SplitAny.l0, cutF, Int.toNat_natCast]
      exact ev_ifn (by omega) (ev_ift (by omega) (ev_ift (by omega) (ev_ift (by omega) (Ev.now _))))
    | succ d ih =>
      intro i p acc hi hp ha
      have hlt : i < s.size := by omega
      obtain ⟨e1, _⟩ := bt_byte s i hlt
      have hx : strings_IndexByte.f b (bt s (i : Int)) = some (Lib.indexByte b.data.toList (s[i]'hlt)) := by
        unfold strings_IndexByte.f
        rw [e1]
      refine ev_succ ?_
      simp only [impl_SplitAny.l0, cutF, hx, Option.bind_some, Int.toNat_natCast, wrap_succ (show i < 4611686018427387904 by omega), dif_pos hlt]
      refine ev_ift (by omega) (ev_ift (by omega) ?_)
      by_cases c : (s[i]'hlt) ∈ b.data.toList
      · rw [if_pos c]
        have h1 := ih (i + 1) (i + 1) (acc ++ [s.extract p i]) (by omega) (by omega) (by simp; omega)
        exact ev_ift ((idx_mem _ _).2 c) (ev_ift (by omega) (ev_ift (by omega) (ev_ift (by omega) (ev_ift (by omega) h1))))
      · rw [if_neg c]
        have h1 := ih (i + 1) p acc (by omega) (by omega) (by omega)
        exact ev_ifn (fun h => c ((idx_mem _ _).1 h)) h1
  exact main s.size 0 0 [] (by omega) (by omega) (by simp)
theorem and255 (y : Int) : 0 ≤ Go.bits .and .i64 y 255 ∧ Go.bits .and .i64 y 255 ≤ 255 := by
  unfold Go.bits
  dsimp only
  have h : (BitVec.ofInt IntKind.i64.bits y &&& BitVec.ofInt IntKind.i64.bits 255).toNat ≤ 255 := by
    rw [BitVec.toNat_and]
    exact Nat.le_trans Nat.and_le_right (by decide +kernel)
  rw [IntKind.wrap_i64]
  omega
theorem byte_ex (s : List Int) (hs : s.length < 4611686018427387904) (i h : Int) (hi : 0 ≤ i) : ∃ x i' h', spec_l01Byte.f s i h = some (x, i', h') ∧ 0 ≤ x ∧ x ≤ 255 ∧ 0 ≤ i' := by
  unfold spec_l01Byte.f
  by_cases c : i < (s.length : Int)
  · rw [if_pos c, if_pos hi]
    refine ⟨_, _, _, rfl, (and255 _).1, (and255 _).2, ?_⟩
    unfold wrap64; omega
  · rw [if_neg c]
    exact ⟨_, _, _, rfl, (and255 _).1, (and255 _).2, hi⟩
theorem below_ex (s : List Int) (hs : s.length < 4611686018427387904) (i h : Int) (hi : 0 ≤ i) (n : Int) (hn : 0 < n) (hn2 : n ≤ 256) : ∃ x i' h', spec_l01Below.f s i h n = some (x, i', h') ∧ 0 ≤ x ∧ x < n ∧ 0 ≤ i' := by
  obtain ⟨x, i', h', e, x0, _, hi'⟩ := byte_ex s hs i h hi
  unfold spec_l01Below.f
  rw [if_neg (by omega), if_pos hn2, e]
  simp only [Option.bind_some]
  rw [if_neg (by omega)]
  exact ⟨_, _, _, rfl, Int.tmod_nonneg _ x0, Int.tmod_lt_of_pos _ hn, hi'⟩
theorem new_ex (code : List Int) (hc : code.length < 4611686018427387904) : ∃ h, Ev (fun k => spec_l01New.f k code) (code, 0, h) := by
  have main : ∀ (d i : Nat) (h : Int), i + d = code.length → ∃ h', Ev (fun k => spec_l01New.l0 k code h (i : Int)) (code, 0, h') := by
    intro d
    induction d with
    | zero =>
      intro i h hi
      refine ⟨h, ev_succ ?_⟩
      simp only [spec_l01New.l0]
      exact ev_ifn (by omega) (Ev.now _)
    | succ d ih =>
      intro i h hi
      obtain ⟨h', hh⟩ := ih (i + 1) (Go.bits .and .i64 (wrap64 ((wrap64 ((wrap64 (h * 97)) + (wrap64 (rd code i)))) + 7)) 1073741823) (by omega)
      by_cases c : i < 4000
      · refine ⟨h', ev_succ ?_⟩
        simp only [spec_l01New.l0, wrap_succ (show i < 4611686018427387904 by omega)]
        exact ev_ift (by omega) (ev_ift (by omega) (ev_ift (by omega) hh))
      · refine ⟨h, ev_succ ?_⟩
        simp only [spec_l01New.l0]
        exact ev_ift (by omega) (ev_ifn (by omega) (Ev.now _))
  unfold spec_l01New.f
  exact main code.length 0 _ (by omega)
theorem l21New_ex (code : List Int) (hc : code.length < 4611686018427387904) (n : Nat) (hn : n < 1000) : ∃ i h, Ev (fun k => spec_l21New.f k code (n : Int)) (code, i, h) ∧ 0 ≤ i := by
  obtain ⟨h, hh⟩ := new_ex code hc
  have main : ∀ (d j : Nat) (i h : Int), 0 ≤ i → j + d = n → ∃ i' h', Ev (fun k => spec_l21New.l0 k (n : Int) (j : Int) code i h) (code, i', h') ∧ 0 ≤ i' := by
    intro d
    induction d with
    | zero =>
      intro j i h hi hj
      refine ⟨i, h, ev_succ ?_, hi⟩
      simp only [spec_l21New.l0]
      exact ev_ifn (by omega) (Ev.now _)
    | succ d ih =>
      intro j i h hi hj
      obtain ⟨x, i1, h1, e1, _, _, hi1⟩ := byte_ex code hc i h hi
      obtain ⟨i', h', r1, r2⟩ := ih (j + 1) i1 h1 hi1 (by omega)
      refine ⟨i', h', ev_succ ?_, r2⟩
      simp only [spec_l21New.l0, e1, Option.bind_some, wrap_succ (show j < 4611686018427387904 by omega)]
      exact ev_ift (by omega) r1
  obtain ⟨i', h', r1, r2⟩ := main n 0 0 h (by omega) (by omega)
  exact ⟨i', h', by simp only [spec_l21New.f]; exact Ev.bind hh r1, r2⟩
theorem makeNum_ex (code : List Int) (hc : code.length < 4611686018427387904) (n : Nat) (hn : n < 1000) : ∃ v, Ev (fun k => spec_MakeNum.f k code (n : Int)) v ∧ 0 ≤ v := by
  obtain ⟨i, h, e0, hi⟩ := l21New_ex code hc n hn
  obtain ⟨x, i1, h1, e1, x0, x1, hi1⟩ := byte_ex code hc i h hi
  obtain ⟨y, i2, h2, e2, y0, y1, hi2⟩ := byte_ex code hc i1 h1 hi1
  refine ⟨wrap64 (wrap64 (x * 256) + y), ?_, by unfold wrap64; omega⟩
  simp only [spec_MakeNum.f]
  refine Ev.bind e0 ?_
  simp only [e1, e2, Option.bind_some]
  exact Ev.now _
theorem join_snoc (sep y : List UInt8) (acc : List (List UInt8)) : Go.Lib.join (acc ++ [y]) sep = if acc = [] then y else Go.Lib.join acc sep ++ sep ++ y := by
  cases acc with
  | nil => rw [if_pos rfl]; exact Go.Lib.join_one y sep
  | cons x r =>
    rw [if_neg (by simp), List.cons_append, Go.Lib.join_cons, Go.Lib.join_cons]
    unfold Go.Lib.joinTail
    simp
theorem ext_list (s : ByteArray) (p i : Nat) : (s.extract p i).data.toList = (s.data.toList.drop p).take (i - p) := by
  rw [ByteArray.data_extract, Array.toList_extract]
theorem cutF_join (s : ByteArray) : ∀ (d i p : Nat) (acc : List ByteArray), i + d = s.size → p ≤ i → ((acc = [] ∧ p = 0) ∨ (acc ≠ [] ∧ Go.Lib.join (acc.map (·.data.toList)) [32] ++ [32] = s.data.toList.take p)) →
    Go.Lib.join ((cutF s ⟨#[32]⟩ d i p acc).map (·.data.toList)) [32] = s.data.toList := by
  have hl : s.data.toList.length = s.size := by simp
  have last : ∀ (p : Nat) (acc : List ByteArray), p ≤ s.size → ((acc = [] ∧ p = 0) ∨ (acc ≠ [] ∧ Go.Lib.join (acc.map (·.data.toList)) [32] ++ [32] = s.data.toList.take p)) →
      Go.Lib.join ((acc ++ [s.extract p s.size]).map (·.data.toList)) [32] = s.data.toList := by
    intro p acc hp h
    rw [List.map_append, List.map_cons, List.map_nil, join_snoc, ext_list]
    have hd : (s.data.toList.drop p).take (s.size - p) = s.data.toList.drop p := List.take_of_length_le (by simp)
    rw [hd]
    rcases h with ⟨rfl, rfl⟩ | ⟨ha, h⟩
    · simp
    · rw [if_neg (by simpa using ha), h, List.take_append_drop]
  intro d
  induction d with
  | zero =>
    intro i p acc hi hp h
    simp only [cutF]
    exact last p acc (by omega) h
  | succ d ih =>
    intro i p acc hi hp h
    simp only [cutF]
    rw [dif_pos (show i < s.size by omega)]
    split
    · rename_i hc
      refine ih (i + 1) (i + 1) _ (by omega) (Nat.le_refl _) (Or.inr ⟨by simp, ?_⟩)
      have hb : s[i]'(by omega) = 32 := by simpa using hc
      have hgi : s.data.toList[i]'(by rw [hl]; omega) = 32 := by
        rw [← hb]
        simp
        rfl
      have ht : s.data.toList.take (i + 1) = s.data.toList.take i ++ [32] := by
        rw [List.take_succ_eq_append_getElem (by rw [hl]; omega), hgi]
      rw [List.map_append, List.map_cons, List.map_nil, join_snoc, ext_list, ht]
      have hti : s.data.toList.take i = s.data.toList.take p ++ (s.data.toList.drop p).take (i - p) := by
        conv => lhs; rw [show i = p + (i - p) by omega, List.take_add]
      rcases h with ⟨rfl, rfl⟩ | ⟨ha, h⟩
      · simp
      · rw [if_neg (by simpa using ha), h, hti]
    · exact ih (i + 1) p acc (by omega) (by omega) h
theorem makeText_ex (code : List Int) (hc : code.length < 4611686018427387904) : ∃ t : ByteArray, Ev (fun k => spec_MakeText.f k code) t ∧ t.size ≤ 100 := by
  obtain ⟨h0, e0⟩ := new_ex code hc
  obtain ⟨n, i1, h1, e1, n0, n1, hi1⟩ := below_ex code hc 0 h0 (by omega) 8 (by omega) (by omega)
  have main : ∀ (d : Nat) (acc : ByteArray) (i h : Int), 0 ≤ i → acc.size + 2 * d ≤ 100 → ∃ t : ByteArray, Ev (fun k => spec_MakeText.l0 k acc (d : Int) code i h) t ∧ t.size ≤ acc.size + 2 * d := by
    intro d
    induction d with
    | zero =>
      intro acc i h hi ha
      refine ⟨acc, ev_succ ?_, by omega⟩
      simp only [spec_MakeText.l0]
      exact ev_ifn (by omega) (Ev.now _)
    | succ d ih =>
      intro acc i h hi ha
      obtain ⟨x, i2, h2, e2, x0, x1, hi2⟩ := below_ex code hc i h hi 5 (by omega) (by omega)
      have hs : (rdOf ByteArray.empty ([(⟨#[97]⟩ : ByteArray), (⟨#[98, 99]⟩ : ByteArray), (⟨#[32]⟩ : ByteArray), (⟨#[44]⟩ : ByteArray), (⟨#[120, 49]⟩ : ByteArray)] : List ByteArray) x).size ≤ 2 := by
        rcases (show x = 0 ∨ x = 1 ∨ x = 2 ∨ x = 3 ∨ x = 4 by omega) with rfl | rfl | rfl | rfl | rfl <;> decide
      have e3 : spec_l01Str.f code i h ([(⟨#[97]⟩ : ByteArray), (⟨#[98, 99]⟩ : ByteArray), (⟨#[32]⟩ : ByteArray), (⟨#[44]⟩ : ByteArray), (⟨#[120, 49]⟩ : ByteArray)] : List ByteArray) = some (rdOf ByteArray.empty ([(⟨#[97]⟩ : ByteArray), (⟨#[98, 99]⟩ : ByteArray), (⟨#[32]⟩ : ByteArray), (⟨#[44]⟩ : ByteArray), (⟨#[120, 49]⟩ : ByteArray)] : List ByteArray) x, i2, h2) := by
        unfold spec_l01Str.f
        rw [show (([(⟨#[97]⟩ : ByteArray), (⟨#[98, 99]⟩ : ByteArray), (⟨#[32]⟩ : ByteArray), (⟨#[44]⟩ : ByteArray), (⟨#[120, 49]⟩ : ByteArray)] : List ByteArray).length : Int) = 5 from rfl, e2]
        simp only [Option.bind_some]
        rw [if_pos x0, if_pos x1]
      generalize rdOf ByteArray.empty ([(⟨#[97]⟩ : ByteArray), (⟨#[98, 99]⟩ : ByteArray), (⟨#[32]⟩ : ByteArray), (⟨#[44]⟩ : ByteArray), (⟨#[120, 49]⟩ : ByteArray)] : List ByteArray) x = y at hs e3
      have hsz : (acc ++ y).size = acc.size + y.size := ByteArray.size_append
      obtain ⟨t, g, gt⟩ := ih (acc ++ y) i2 h2 hi2 (by omega)
      refine ⟨t, ev_succ ?_, by omega⟩
      simp only [spec_MakeText.l0, e3, Option.bind_some]
      rw [show wrap64 (((d + 1 : Nat) : Int) - 1) = (d : Int) by unfold wrap64; omega]
      exact ev_ift (by omega) (ev_ift (by omega) g)
  obtain ⟨m, rfl⟩ := Int.eq_ofNat_of_zero_le n0
  have hz : (⟨#[]⟩ : ByteArray).size = 0 := rfl
  obtain ⟨t, g, gt⟩ := main m ⟨#[]⟩ i1 h1 hi1 (by omega)
  refine ⟨t, ?_, by omega⟩
  simp only [spec_MakeText.f]
  refine Ev.bind e0 ?_
  dsimp only
  rw [e1]
  simp only [Option.bind_some]
  exact g
theorem name_x1_at (m : Nat) : impl_IsName.f (m + 10) (⟨#[120, 49]⟩ : ByteArray) = some true := by kernel_rfl
theorem cuts_ab : cuts ⟨#[97, 10, 98, 10]⟩ ⟨#[10]⟩ = [⟨#[97]⟩, ⟨#[98]⟩, ⟨#[]⟩] := by decide
theorem name_x1 : Ev (fun k => impl_IsName.f k (⟨#[120, 49]⟩ : ByteArray)) true := ⟨10, fun k hk => by
  obtain ⟨m, rfl⟩ : ∃ m, k = m + 10 := ⟨k - 10, by omega⟩
  exact name_x1_at m⟩
theorem lawWords (code : List Int) (hc : code.length ≤ 9223372036854775807) : Ev (fun k => laws_FnWords.f k code) true := by
  simp only [laws_FnWords.f]
  by_cases h20 : (code.length : Int) > 1048576
  · exact ev_ift h20 (Ev.now _)
  refine ev_ifn h20 (ev_succ ?_)
  obtain ⟨v, hv, _⟩ := makeNum_ex code (by omega) 1 (by omega)
  obtain ⟨t, ht, hts⟩ := makeText_ex code (by omega)
  obtain ⟨n, hn⟩ : ∃ n, n = wrap64 (v - 30000) := ⟨_, rfl⟩
  have hb : -9223372036854775808 ≤ n ∧ n ≤ 9223372036854775807 := by rw [hn]; unfold wrap64; omega
  have e1 := implFmt_eq n hb.1 hb.2
  have hlen : (⟨(Lib.itoa n).toArray⟩ : ByteArray).size ≤ 281474976710656 := by
    show (Lib.itoa n).length ≤ _
    rcases itoa_cases n with ⟨u, u1, rfl, hu⟩ | ⟨u, rfl, hu⟩
    · have := dec_len u (by omega)
      rw [hu, List.length_cons]
      omega
    · have := dec_len u (by omega)
      rw [hu]
      omega
  have e2 := (implParse_eq ⟨(Lib.itoa n).toArray⟩ hlen).1 n hb.1 hb.2 rfl
  have e3 := implSplit_ev t ⟨#[32]⟩ (by omega)
  have hj : Go.Lib.join ((cuts t ⟨#[32]⟩).map (·.data.toList)) [32] = t.data.toList := cutF_join t t.size 0 0 [] (by omega) (by omega) (Or.inl ⟨rfl, rfl⟩)
  have hcl : (cuts t ⟨#[32]⟩).length ≤ 140737488355328 := by
    have := (cutF_len t ⟨#[32]⟩ t.size 0 0 []).1
    unfold cuts
    simp only [List.length_nil] at this
    omega
  have e4 : impl_Join.f (cuts t ⟨#[32]⟩) (⟨#[32]⟩ : ByteArray) = some t := by
    unfold impl_Join.f strings_Join.f
    have hd : (⟨#[32]⟩ : ByteArray).data.toList = [32] := rfl
    rw [hd, hj, if_pos ⟨hcl, by simp; omega⟩]
    simp only [Option.bind_some]
  have e5 : Ev (fun k => impl_SplitLines.f k (⟨#[97, 10, 98, 10]⟩ : ByteArray)) [⟨#[97]⟩, ⟨#[98]⟩] := by
    have g1 := implSplit_ev ⟨#[97, 10, 98, 10]⟩ ⟨#[10]⟩ (by decide)
    rw [show cuts ⟨#[97, 10, 98, 10]⟩ ⟨#[10]⟩ = [⟨#[97]⟩, ⟨#[98]⟩, ⟨#[]⟩] from cuts_ab] at g1
    simp only [impl_SplitLines.f]
    refine Ev.bind g1 ?_
    have hw : wrap64 ((([⟨#[97]⟩, ⟨#[98]⟩, ⟨#[]⟩] : List ByteArray).length : Int) - 1) = 2 := by
      show wrap64 (((3 : Nat) : Int) - 1) = 2
      unfold wrap64
      omega
    rw [hw]
    refine ev_ift (by decide) (ev_ift (by decide) (ev_ift ?_ (ev_ift (by decide) (Ev.now _))))
    show (⟨#[]⟩ : ByteArray).toList = []
    rw [ByteArray.toList_eq]
  simp only [laws_FnWords.j0]
  refine Ev.bind hv ?_
  rw [← hn]
  simp only [e1, Option.bind_some, e2]
  refine Ev.bind ht ?_
  refine ev_ift (by first | rfl | trivial) (ev_ift (by first | rfl | trivial) (Ev.bind e3 ?_))
  simp only [e4, Option.bind_some]
  refine ev_ift (by first | rfl | trivial) (Ev.bind name_x1 (ev_ift (by first | rfl | trivial) (Ev.bind e5 ?_)))
  exact Ev.now _
theorem FnWords : StatFnWords := by
  intro code ⟨hc, _⟩
  have hc' : code.length ≤ 9223372036854775807 := by unfold maxLen at hc; omega
  exact Ev.rounds (r := true) (lawWords code hc')
end Go.Proofs.YtbbegaofekahdaaDoor.Pure
end
