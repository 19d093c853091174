/-
  No cell of these rows narrows 'for every input' (looked for: loops, veiled, ifaces, maps, wideKeys, modest, calm, conditions, laid).
  DERIVED. THE GIVEN ROWS OF THIS SEAT. 7 by the template 'for every input the law returns true; each argument reads behind the call as it read before'; 0 by the template 'total and deterministic' (their statements: YtbcfccdoffbncaaTotals.lean).
  GIVEN WITH THE SEED: the statements are not yours to turn. If you find one false, say at which input.
  Laid BY PROGRAM, IN A SANDBOX (cutbox-rows.mjs): the forced cells as the released guide's own fill.sh prints them over the translation 1d5892b9b6ca5f20… (all of the seat's roots in one cut). By AI agents, Wed Nov 11 2026. No macro, syntax, notation, axiom, sorry.
-/
import Derived.Test.YtbcfccdoffbncaaChecked
import GoSem.Claim
import GoSem.ClaimJoined
import GoSem.ClaimMapViews
import Derived.JoinedTies
import Derived.KernelRfl
namespace Go.Proofs.Ytbcfccdoffbncaa
/- THE CELL 'sum', in the pinned program and in every row, IS THE sha256 OF THE DUMP (.gsa) THAT YtbcfccdoffbncaaProg.lean LOADS. Nothing in Lean hashes anything: it is a label: what it is worth is what the hold of that sum in a sandbox is worth. -/
noncomputable def Try.pinned : Pinned := { name := "ytbcfccdoffbncaa", sum := "1d5892b9b6ca5f201766d7a2d0668bd401897145e41125953808bc8bce02fd40", checked := Try.checked }
namespace Rows
def none {H : Type} : Left H := { results := [], args := [] }

/-- 'laws.FnExactWinningScript': WHATEVER THE INPUT: true; the input reads as it did. -/
def fnExactWinningScriptSpec : ChangeSpec := { name := "fnExactWinningScript", fn := fun _ => fun
  | [d1, d2] => { results := [.lit (.bool true)], args := [d1, d2] }
  | _ => none }
def fnExactWinningScriptRow : OpenClaim := { program := "ytbcfccdoffbncaa", sum := "1d5892b9b6ca5f201766d7a2d0668bd401897145e41125953808bc8bce02fd40", func := "loop.example/g00841/laws.FnExactWinningScript", spec := "fnExactWinningScript", unfollowed := true, recurses := true, apart := false }
def FnExactWinningScriptSaid : Prop := fnExactWinningScriptRow.holds Try.pinned (OpenSpec.ofChange fnExactWinningScriptSpec)

/-- ITS FALSE NEIGHBOUR: 'it returns false'. Refute it at one input. -/
def fnExactWinningScriptWrong : ChangeSpec := { name := "fnExactWinningScript", fn := fun _ => fun
  | [d1, d2] => { results := [.lit (.bool false)], args := [d1, d2] }
  | _ => none }
def FnExactWinningScriptWrongFalsely : Prop := fnExactWinningScriptRow.holds Try.pinned (OpenSpec.ofChange fnExactWinningScriptWrong)

/-- 'laws.FnExactScriptBetween': WHATEVER THE INPUT: true; the input reads as it did. -/
def fnExactScriptBetweenSpec : ChangeSpec := { name := "fnExactScriptBetween", fn := fun _ => fun
  | [d1, d2, d3] => { results := [.lit (.bool true)], args := [d1, d2, d3] }
  | _ => none }
def fnExactScriptBetweenRow : OpenClaim := { program := "ytbcfccdoffbncaa", sum := "1d5892b9b6ca5f201766d7a2d0668bd401897145e41125953808bc8bce02fd40", func := "loop.example/g00841/laws.FnExactScriptBetween", spec := "fnExactScriptBetween", unfollowed := true, recurses := true, apart := false }
def FnExactScriptBetweenSaid : Prop := fnExactScriptBetweenRow.holds Try.pinned (OpenSpec.ofChange fnExactScriptBetweenSpec)

/-- ITS FALSE NEIGHBOUR: 'it returns false'. Refute it at one input. -/
def fnExactScriptBetweenWrong : ChangeSpec := { name := "fnExactScriptBetween", fn := fun _ => fun
  | [d1, d2, d3] => { results := [.lit (.bool false)], args := [d1, d2, d3] }
  | _ => none }
def FnExactScriptBetweenWrongFalsely : Prop := fnExactScriptBetweenRow.holds Try.pinned (OpenSpec.ofChange fnExactScriptBetweenWrong)

/-- 'laws.FnReduced': WHATEVER THE INPUT: true; the input reads as it did. -/
def fnReducedSpec : ChangeSpec := { name := "fnReduced", fn := fun _ => fun
  | [d] => { results := [.lit (.bool true)], args := [d] }
  | _ => none }
def fnReducedRow : OpenClaim := { program := "ytbcfccdoffbncaa", sum := "1d5892b9b6ca5f201766d7a2d0668bd401897145e41125953808bc8bce02fd40", func := "loop.example/g00841/laws.FnReduced", spec := "fnReduced", unfollowed := true, recurses := true, apart := false }
def FnReducedSaid : Prop := fnReducedRow.holds Try.pinned (OpenSpec.ofChange fnReducedSpec)

/-- ITS FALSE NEIGHBOUR: 'it returns false'. Refute it at one input. -/
def fnReducedWrong : ChangeSpec := { name := "fnReduced", fn := fun _ => fun
  | [d] => { results := [.lit (.bool false)], args := [d] }
  | _ => none }
def FnReducedWrongFalsely : Prop := fnReducedRow.holds Try.pinned (OpenSpec.ofChange fnReducedWrong)

/-- 'laws.FnLegal': WHATEVER THE INPUT: true; the input reads as it did. -/
def fnLegalSpec : ChangeSpec := { name := "fnLegal", fn := fun _ => fun
  | [d] => { results := [.lit (.bool true)], args := [d] }
  | _ => none }
def fnLegalRow : OpenClaim := { program := "ytbcfccdoffbncaa", sum := "1d5892b9b6ca5f201766d7a2d0668bd401897145e41125953808bc8bce02fd40", func := "loop.example/g00841/laws.FnLegal", spec := "fnLegal", unfollowed := true, recurses := true, apart := false }
def FnLegalSaid : Prop := fnLegalRow.holds Try.pinned (OpenSpec.ofChange fnLegalSpec)

/-- ITS FALSE NEIGHBOUR: 'it returns false'. Refute it at one input. -/
def fnLegalWrong : ChangeSpec := { name := "fnLegal", fn := fun _ => fun
  | [d] => { results := [.lit (.bool false)], args := [d] }
  | _ => none }
def FnLegalWrongFalsely : Prop := fnLegalRow.holds Try.pinned (OpenSpec.ofChange fnLegalWrong)

/-- 'laws.FnScripts': WHATEVER THE INPUT: true; the input reads as it did. -/
def fnScriptsSpec : ChangeSpec := { name := "fnScripts", fn := fun _ => fun
  | [d] => { results := [.lit (.bool true)], args := [d] }
  | _ => none }
def fnScriptsRow : OpenClaim := { program := "ytbcfccdoffbncaa", sum := "1d5892b9b6ca5f201766d7a2d0668bd401897145e41125953808bc8bce02fd40", func := "loop.example/g00841/laws.FnScripts", spec := "fnScripts", unfollowed := true, recurses := true, apart := false }
def FnScriptsSaid : Prop := fnScriptsRow.holds Try.pinned (OpenSpec.ofChange fnScriptsSpec)

/-- ITS FALSE NEIGHBOUR: 'it returns false'. Refute it at one input. -/
def fnScriptsWrong : ChangeSpec := { name := "fnScripts", fn := fun _ => fun
  | [d] => { results := [.lit (.bool false)], args := [d] }
  | _ => none }
def FnScriptsWrongFalsely : Prop := fnScriptsRow.holds Try.pinned (OpenSpec.ofChange fnScriptsWrong)

/-- 'laws.FnFires': WHATEVER THE INPUT: true; the input reads as it did. -/
def fnFiresSpec : ChangeSpec := { name := "fnFires", fn := fun _ => fun
  | [d] => { results := [.lit (.bool true)], args := [d] }
  | _ => none }
def fnFiresRow : OpenClaim := { program := "ytbcfccdoffbncaa", sum := "1d5892b9b6ca5f201766d7a2d0668bd401897145e41125953808bc8bce02fd40", func := "loop.example/g00841/laws.FnFires", spec := "fnFires", unfollowed := true, recurses := true, apart := false }
def FnFiresSaid : Prop := fnFiresRow.holds Try.pinned (OpenSpec.ofChange fnFiresSpec)

/-- ITS FALSE NEIGHBOUR: 'it returns false'. Refute it at one input. -/
def fnFiresWrong : ChangeSpec := { name := "fnFires", fn := fun _ => fun
  | [d] => { results := [.lit (.bool false)], args := [d] }
  | _ => none }
def FnFiresWrongFalsely : Prop := fnFiresRow.holds Try.pinned (OpenSpec.ofChange fnFiresWrong)

/-- 'laws.FnGraphs': WHATEVER THE INPUT: true; the input reads as it did. -/
def fnGraphsSpec : ChangeSpec := { name := "fnGraphs", fn := fun _ => fun
  | [d] => { results := [.lit (.bool true)], args := [d] }
  | _ => none }
def fnGraphsRow : OpenClaim := { program := "ytbcfccdoffbncaa", sum := "1d5892b9b6ca5f201766d7a2d0668bd401897145e41125953808bc8bce02fd40", func := "loop.example/g00841/laws.FnGraphs", spec := "fnGraphs", unfollowed := true, recurses := true, apart := false }
def FnGraphsSaid : Prop := fnGraphsRow.holds Try.pinned (OpenSpec.ofChange fnGraphsSpec)

/-- ITS FALSE NEIGHBOUR: 'it returns false'. Refute it at one input. -/
def fnGraphsWrong : ChangeSpec := { name := "fnGraphs", fn := fun _ => fun
  | [d] => { results := [.lit (.bool false)], args := [d] }
  | _ => none }
def FnGraphsWrongFalsely : Prop := fnGraphsRow.holds Try.pinned (OpenSpec.ofChange fnGraphsWrong)

/- THE SECOND FORM. 'bulk': how many values and letters a reading holds, each counted each time it is reached (what is shared counts as often as it is met; a slice's spare places count too). A statement '..UptoSaid' is the law's where the arguments, and the package variables that the reading takes, are together of bulk at most 1048576: NARROWER than '..Said'. Prove '..Said' where nothing that the law and all that it calls make is longer than what came in: it says more and counts as full. Else prove '..UptoSaid'. A law counts once. -/
mutual
def uptoBulk {H : Type} : DataW H → Nat
  | .lit (.string bytes) => bytes.length + 1
  | .lit _ => 1
  | .nil => 1
  | .ptr d => uptoBulk d + 1
  | .slice elems spare => uptoBulkAll elems + uptoBulkAll spare + 1
  | .agg parts => uptoBulkAll parts + 1
  | .iface _ d => uptoBulk d + 1
  | .map entries => uptoBulkEntries entries + 1
  | .held _ => 1
def uptoBulkAll {H : Type} : List (DataW H) → Nat
  | [] => 0
  | d :: r => uptoBulk d + uptoBulkAll r
def uptoBulkEntries {H : Type} : List (Lit × DataW H) → Nat
  | [] => 0
  | x :: r => uptoBulkEntry x + uptoBulkEntries r
def uptoBulkEntry {H : Type} : Lit × DataW H → Nat
  | (.string bytes, d) => bytes.length + uptoBulk d + 1
  | (_, d) => uptoBulk d + 1
 end
def uptoSmall : (H : Type) → List (DataW H) → Bool := fun _ ds => decide (uptoBulkAll ds ≤ 1048576)
def OpenSpec.upto (s : _root_.Go.ChangeSpec) : _root_.Go.OpenSpec := { _root_.Go.OpenSpec.ofChange s with cond := some uptoSmall }

/-- 'laws.FnExactWinningScript', WHERE WHAT IT READS IS OF BULK AT MOST 1048576: true; the input reads as it did. -/
def fnExactWinningScriptUptoRow : OpenClaim := { program := "ytbcfccdoffbncaa", sum := "1d5892b9b6ca5f201766d7a2d0668bd401897145e41125953808bc8bce02fd40", func := "loop.example/g00841/laws.FnExactWinningScript", spec := "fnExactWinningScript", unfollowed := true, recurses := true, apart := false, narrowed := true }
def FnExactWinningScriptUptoSaid : Prop := fnExactWinningScriptUptoRow.holds Try.pinned (OpenSpec.upto fnExactWinningScriptSpec)

/-- 'laws.FnExactScriptBetween', WHERE WHAT IT READS IS OF BULK AT MOST 1048576: true; the input reads as it did. -/
def fnExactScriptBetweenUptoRow : OpenClaim := { program := "ytbcfccdoffbncaa", sum := "1d5892b9b6ca5f201766d7a2d0668bd401897145e41125953808bc8bce02fd40", func := "loop.example/g00841/laws.FnExactScriptBetween", spec := "fnExactScriptBetween", unfollowed := true, recurses := true, apart := false, narrowed := true }
def FnExactScriptBetweenUptoSaid : Prop := fnExactScriptBetweenUptoRow.holds Try.pinned (OpenSpec.upto fnExactScriptBetweenSpec)

/-- 'laws.FnReduced', WHERE WHAT IT READS IS OF BULK AT MOST 1048576: true; the input reads as it did. -/
def fnReducedUptoRow : OpenClaim := { program := "ytbcfccdoffbncaa", sum := "1d5892b9b6ca5f201766d7a2d0668bd401897145e41125953808bc8bce02fd40", func := "loop.example/g00841/laws.FnReduced", spec := "fnReduced", unfollowed := true, recurses := true, apart := false, narrowed := true }
def FnReducedUptoSaid : Prop := fnReducedUptoRow.holds Try.pinned (OpenSpec.upto fnReducedSpec)

/-- 'laws.FnLegal', WHERE WHAT IT READS IS OF BULK AT MOST 1048576: true; the input reads as it did. -/
def fnLegalUptoRow : OpenClaim := { program := "ytbcfccdoffbncaa", sum := "1d5892b9b6ca5f201766d7a2d0668bd401897145e41125953808bc8bce02fd40", func := "loop.example/g00841/laws.FnLegal", spec := "fnLegal", unfollowed := true, recurses := true, apart := false, narrowed := true }
def FnLegalUptoSaid : Prop := fnLegalUptoRow.holds Try.pinned (OpenSpec.upto fnLegalSpec)

/-- 'laws.FnScripts', WHERE WHAT IT READS IS OF BULK AT MOST 1048576: true; the input reads as it did. -/
def fnScriptsUptoRow : OpenClaim := { program := "ytbcfccdoffbncaa", sum := "1d5892b9b6ca5f201766d7a2d0668bd401897145e41125953808bc8bce02fd40", func := "loop.example/g00841/laws.FnScripts", spec := "fnScripts", unfollowed := true, recurses := true, apart := false, narrowed := true }
def FnScriptsUptoSaid : Prop := fnScriptsUptoRow.holds Try.pinned (OpenSpec.upto fnScriptsSpec)

/-- 'laws.FnFires', WHERE WHAT IT READS IS OF BULK AT MOST 1048576: true; the input reads as it did. -/
def fnFiresUptoRow : OpenClaim := { program := "ytbcfccdoffbncaa", sum := "1d5892b9b6ca5f201766d7a2d0668bd401897145e41125953808bc8bce02fd40", func := "loop.example/g00841/laws.FnFires", spec := "fnFires", unfollowed := true, recurses := true, apart := false, narrowed := true }
def FnFiresUptoSaid : Prop := fnFiresUptoRow.holds Try.pinned (OpenSpec.upto fnFiresSpec)

/-- 'laws.FnGraphs', WHERE WHAT IT READS IS OF BULK AT MOST 1048576: true; the input reads as it did. -/
def fnGraphsUptoRow : OpenClaim := { program := "ytbcfccdoffbncaa", sum := "1d5892b9b6ca5f201766d7a2d0668bd401897145e41125953808bc8bce02fd40", func := "loop.example/g00841/laws.FnGraphs", spec := "fnGraphs", unfollowed := true, recurses := true, apart := false, narrowed := true }
def FnGraphsUptoSaid : Prop := fnGraphsUptoRow.holds Try.pinned (OpenSpec.upto fnGraphsSpec)

end Rows
end Go.Proofs.Ytbcfccdoffbncaa
