/-
  No cell of these rows narrows 'for every input' (looked for: loops, veiled, ifaces, maps, wideKeys, modest, calm, conditions, laid).
  DERIVED. THE GIVEN ROWS OF THIS SEAT. 9 by the template 'for every input the law returns true; each argument reads behind the call as it read before'; 0 by the template 'total and deterministic' (their statements: YtaapnjhgkbjdkaaTotals.lean).
  GIVEN WITH THE SEED: the statements are not yours to turn. If you find one false, say at which input.
  Laid BY PROGRAM, IN A SANDBOX (cutbox-rows.mjs): the forced cells as the released guide's own fill.sh prints them over the translation 091b6e9157cb4f5a… (all of the seat's roots in one cut). By AI agents, Wed Nov 11 2026. No macro, syntax, notation, axiom, sorry.
-/
import Derived.Test.YtaapnjhgkbjdkaaChecked
import GoSem.Claim
import GoSem.ClaimJoined
import GoSem.ClaimMapViews
import Derived.JoinedTies
import Derived.KernelRfl
namespace Go.Proofs.Ytaapnjhgkbjdkaa
/- THE CELL 'sum', in the pinned program and in every row, IS THE sha256 OF THE DUMP (.gsa) THAT YtaapnjhgkbjdkaaProg.lean LOADS. Nothing in Lean hashes anything: it is a label: what it is worth is what the hold of that sum in a sandbox is worth. -/
noncomputable def Try.pinned : Pinned := { name := "ytaapnjhgkbjdkaa", sum := "091b6e9157cb4f5a4be78ade6ff78ef411187e0e1368320f01773bba05fd3011", checked := Try.checked }
namespace Rows
def none {H : Type} : Left H := { results := [], args := [] }

/-- 'laws.FnPackings': WHATEVER THE INPUT: true; the input reads as it did. -/
def fnPackingsSpec : ChangeSpec := { name := "fnPackings", fn := fun _ => fun
  | [d] => { results := [.lit (.bool true)], args := [d] }
  | _ => none }
def fnPackingsRow : OpenClaim := { program := "ytaapnjhgkbjdkaa", sum := "091b6e9157cb4f5a4be78ade6ff78ef411187e0e1368320f01773bba05fd3011", func := "loop.example/g00944/laws.FnPackings", spec := "fnPackings", unfollowed := true, recurses := true, apart := false }
def FnPackingsSaid : Prop := fnPackingsRow.holds Try.pinned (OpenSpec.ofChange fnPackingsSpec)

/-- ITS FALSE NEIGHBOUR: 'it returns false'. Refute it at one input. -/
def fnPackingsWrong : ChangeSpec := { name := "fnPackings", fn := fun _ => fun
  | [d] => { results := [.lit (.bool false)], args := [d] }
  | _ => none }
def FnPackingsWrongFalsely : Prop := fnPackingsRow.holds Try.pinned (OpenSpec.ofChange fnPackingsWrong)

/-- 'laws.FnExactBestUnits': WHATEVER THE INPUT: true; the input reads as it did. -/
def fnExactBestUnitsSpec : ChangeSpec := { name := "fnExactBestUnits", fn := fun _ => fun
  | [d1, d2] => { results := [.lit (.bool true)], args := [d1, d2] }
  | _ => none }
def fnExactBestUnitsRow : OpenClaim := { program := "ytaapnjhgkbjdkaa", sum := "091b6e9157cb4f5a4be78ade6ff78ef411187e0e1368320f01773bba05fd3011", func := "loop.example/g00944/laws.FnExactBestUnits", spec := "fnExactBestUnits", unfollowed := true, recurses := true, apart := false }
def FnExactBestUnitsSaid : Prop := fnExactBestUnitsRow.holds Try.pinned (OpenSpec.ofChange fnExactBestUnitsSpec)

/-- ITS FALSE NEIGHBOUR: 'it returns false'. Refute it at one input. -/
def fnExactBestUnitsWrong : ChangeSpec := { name := "fnExactBestUnits", fn := fun _ => fun
  | [d1, d2] => { results := [.lit (.bool false)], args := [d1, d2] }
  | _ => none }
def FnExactBestUnitsWrongFalsely : Prop := fnExactBestUnitsRow.holds Try.pinned (OpenSpec.ofChange fnExactBestUnitsWrong)

/-- 'laws.FnExactFirstFit': WHATEVER THE INPUT: true; the input reads as it did. -/
def fnExactFirstFitSpec : ChangeSpec := { name := "fnExactFirstFit", fn := fun _ => fun
  | [d1, d2] => { results := [.lit (.bool true)], args := [d1, d2] }
  | _ => none }
def fnExactFirstFitRow : OpenClaim := { program := "ytaapnjhgkbjdkaa", sum := "091b6e9157cb4f5a4be78ade6ff78ef411187e0e1368320f01773bba05fd3011", func := "loop.example/g00944/laws.FnExactFirstFit", spec := "fnExactFirstFit", unfollowed := true, recurses := true, apart := false }
def FnExactFirstFitSaid : Prop := fnExactFirstFitRow.holds Try.pinned (OpenSpec.ofChange fnExactFirstFitSpec)

/-- ITS FALSE NEIGHBOUR: 'it returns false'. Refute it at one input. -/
def fnExactFirstFitWrong : ChangeSpec := { name := "fnExactFirstFit", fn := fun _ => fun
  | [d1, d2] => { results := [.lit (.bool false)], args := [d1, d2] }
  | _ => none }
def FnExactFirstFitWrongFalsely : Prop := fnExactFirstFitRow.holds Try.pinned (OpenSpec.ofChange fnExactFirstFitWrong)

/-- 'laws.FnExactLeastRolls': WHATEVER THE INPUT: true; the input reads as it did. -/
def fnExactLeastRollsSpec : ChangeSpec := { name := "fnExactLeastRolls", fn := fun _ => fun
  | [d1, d2] => { results := [.lit (.bool true)], args := [d1, d2] }
  | _ => none }
def fnExactLeastRollsRow : OpenClaim := { program := "ytaapnjhgkbjdkaa", sum := "091b6e9157cb4f5a4be78ade6ff78ef411187e0e1368320f01773bba05fd3011", func := "loop.example/g00944/laws.FnExactLeastRolls", spec := "fnExactLeastRolls", unfollowed := true, recurses := true, apart := false }
def FnExactLeastRollsSaid : Prop := fnExactLeastRollsRow.holds Try.pinned (OpenSpec.ofChange fnExactLeastRollsSpec)

/-- ITS FALSE NEIGHBOUR: 'it returns false'. Refute it at one input. -/
def fnExactLeastRollsWrong : ChangeSpec := { name := "fnExactLeastRolls", fn := fun _ => fun
  | [d1, d2] => { results := [.lit (.bool false)], args := [d1, d2] }
  | _ => none }
def FnExactLeastRollsWrongFalsely : Prop := fnExactLeastRollsRow.holds Try.pinned (OpenSpec.ofChange fnExactLeastRollsWrong)

/-- 'laws.FnExactBestPacking': WHATEVER THE INPUT: true; the input reads as it did. -/
def fnExactBestPackingSpec : ChangeSpec := { name := "fnExactBestPacking", fn := fun _ => fun
  | [d1, d2] => { results := [.lit (.bool true)], args := [d1, d2] }
  | _ => none }
def fnExactBestPackingRow : OpenClaim := { program := "ytaapnjhgkbjdkaa", sum := "091b6e9157cb4f5a4be78ade6ff78ef411187e0e1368320f01773bba05fd3011", func := "loop.example/g00944/laws.FnExactBestPacking", spec := "fnExactBestPacking", unfollowed := true, recurses := true, apart := false }
def FnExactBestPackingSaid : Prop := fnExactBestPackingRow.holds Try.pinned (OpenSpec.ofChange fnExactBestPackingSpec)

/-- ITS FALSE NEIGHBOUR: 'it returns false'. Refute it at one input. -/
def fnExactBestPackingWrong : ChangeSpec := { name := "fnExactBestPacking", fn := fun _ => fun
  | [d1, d2] => { results := [.lit (.bool false)], args := [d1, d2] }
  | _ => none }
def FnExactBestPackingWrongFalsely : Prop := fnExactBestPackingRow.holds Try.pinned (OpenSpec.ofChange fnExactBestPackingWrong)

/-- 'laws.FnExactMakeCut': WHATEVER THE INPUT: true; the input reads as it did. -/
def fnExactMakeCutSpec : ChangeSpec := { name := "fnExactMakeCut", fn := fun _ => fun
  | [d1, d2] => { results := [.lit (.bool true)], args := [d1, d2] }
  | _ => none }
def fnExactMakeCutRow : OpenClaim := { program := "ytaapnjhgkbjdkaa", sum := "091b6e9157cb4f5a4be78ade6ff78ef411187e0e1368320f01773bba05fd3011", func := "loop.example/g00944/laws.FnExactMakeCut", spec := "fnExactMakeCut", unfollowed := true, recurses := true, apart := false }
def FnExactMakeCutSaid : Prop := fnExactMakeCutRow.holds Try.pinned (OpenSpec.ofChange fnExactMakeCutSpec)

/-- ITS FALSE NEIGHBOUR: 'it returns false'. Refute it at one input. -/
def fnExactMakeCutWrong : ChangeSpec := { name := "fnExactMakeCut", fn := fun _ => fun
  | [d1, d2] => { results := [.lit (.bool false)], args := [d1, d2] }
  | _ => none }
def FnExactMakeCutWrongFalsely : Prop := fnExactMakeCutRow.holds Try.pinned (OpenSpec.ofChange fnExactMakeCutWrong)

/-- 'laws.FnExactRunCuts': WHATEVER THE INPUT: true; the input reads as it did. -/
def fnExactRunCutsSpec : ChangeSpec := { name := "fnExactRunCuts", fn := fun _ => fun
  | [d1, d2] => { results := [.lit (.bool true)], args := [d1, d2] }
  | _ => none }
def fnExactRunCutsRow : OpenClaim := { program := "ytaapnjhgkbjdkaa", sum := "091b6e9157cb4f5a4be78ade6ff78ef411187e0e1368320f01773bba05fd3011", func := "loop.example/g00944/laws.FnExactRunCuts", spec := "fnExactRunCuts", apart := false }
def FnExactRunCutsSaid : Prop := fnExactRunCutsRow.holds Try.pinned (OpenSpec.ofChange fnExactRunCutsSpec)

/-- ITS FALSE NEIGHBOUR: 'it returns false'. Refute it at one input. -/
def fnExactRunCutsWrong : ChangeSpec := { name := "fnExactRunCuts", fn := fun _ => fun
  | [d1, d2] => { results := [.lit (.bool false)], args := [d1, d2] }
  | _ => none }
def FnExactRunCutsWrongFalsely : Prop := fnExactRunCutsRow.holds Try.pinned (OpenSpec.ofChange fnExactRunCutsWrong)

/-- 'laws.FnBestPackings': WHATEVER THE INPUT: true; the input reads as it did. -/
def fnBestPackingsSpec : ChangeSpec := { name := "fnBestPackings", fn := fun _ => fun
  | [d] => { results := [.lit (.bool true)], args := [d] }
  | _ => none }
def fnBestPackingsRow : OpenClaim := { program := "ytaapnjhgkbjdkaa", sum := "091b6e9157cb4f5a4be78ade6ff78ef411187e0e1368320f01773bba05fd3011", func := "loop.example/g00944/laws.FnBestPackings", spec := "fnBestPackings", unfollowed := true, recurses := true, apart := false }
def FnBestPackingsSaid : Prop := fnBestPackingsRow.holds Try.pinned (OpenSpec.ofChange fnBestPackingsSpec)

/-- ITS FALSE NEIGHBOUR: 'it returns false'. Refute it at one input. -/
def fnBestPackingsWrong : ChangeSpec := { name := "fnBestPackings", fn := fun _ => fun
  | [d] => { results := [.lit (.bool false)], args := [d] }
  | _ => none }
def FnBestPackingsWrongFalsely : Prop := fnBestPackingsRow.holds Try.pinned (OpenSpec.ofChange fnBestPackingsWrong)

/-- 'laws.FnExactLongestFirst': WHATEVER THE INPUT: true; the input reads as it did. -/
def fnExactLongestFirstSpec : ChangeSpec := { name := "fnExactLongestFirst", fn := fun _ => fun
  | [d1, d2] => { results := [.lit (.bool true)], args := [d1, d2] }
  | _ => none }
def fnExactLongestFirstRow : OpenClaim := { program := "ytaapnjhgkbjdkaa", sum := "091b6e9157cb4f5a4be78ade6ff78ef411187e0e1368320f01773bba05fd3011", func := "loop.example/g00944/laws.FnExactLongestFirst", spec := "fnExactLongestFirst", unfollowed := true, recurses := true, apart := false }
def FnExactLongestFirstSaid : Prop := fnExactLongestFirstRow.holds Try.pinned (OpenSpec.ofChange fnExactLongestFirstSpec)

/-- ITS FALSE NEIGHBOUR: 'it returns false'. Refute it at one input. -/
def fnExactLongestFirstWrong : ChangeSpec := { name := "fnExactLongestFirst", fn := fun _ => fun
  | [d1, d2] => { results := [.lit (.bool false)], args := [d1, d2] }
  | _ => none }
def FnExactLongestFirstWrongFalsely : Prop := fnExactLongestFirstRow.holds Try.pinned (OpenSpec.ofChange fnExactLongestFirstWrong)

/- THE SECOND FORM. 'bulk': how many values and letters a reading holds, each counted each time it is reached (what is shared counts as often as it is met; a slice's spare places count too). A statement '..UptoSaid' is the law's where the arguments, and the package variables that the reading takes, are together of bulk at most 1048576: NARROWER than '..Said'. Prove '..Said' where nothing that the law and all that it calls make is longer than what came in: it says more and counts as full. Else prove '..UptoSaid'. A law counts once. -/
mutual
def uptoBulk {H : Type} : DataW H → Nat
  | .lit (.string bytes) => bytes.length + 1
  | .lit _ => 1
  | .nil => 1
  | .ptr d => uptoBulk d + 1
  | .slice elems spare => uptoBulkAll elems + uptoBulkAll spare + 1
  | .agg parts => uptoBulkAll parts + 1
  | .iface _ d => uptoBulk d + 1
  | .map entries => uptoBulkEntries entries + 1
  | .held _ => 1
def uptoBulkAll {H : Type} : List (DataW H) → Nat
  | [] => 0
  | d :: r => uptoBulk d + uptoBulkAll r
def uptoBulkEntries {H : Type} : List (Lit × DataW H) → Nat
  | [] => 0
  | x :: r => uptoBulkEntry x + uptoBulkEntries r
def uptoBulkEntry {H : Type} : Lit × DataW H → Nat
  | (.string bytes, d) => bytes.length + uptoBulk d + 1
  | (_, d) => uptoBulk d + 1
 end
def uptoSmall : (H : Type) → List (DataW H) → Bool := fun _ ds => decide (uptoBulkAll ds ≤ 1048576)
def OpenSpec.upto (s : _root_.Go.ChangeSpec) : _root_.Go.OpenSpec := { _root_.Go.OpenSpec.ofChange s with cond := some uptoSmall }

/-- 'laws.FnPackings', WHERE WHAT IT READS IS OF BULK AT MOST 1048576: true; the input reads as it did. -/
def fnPackingsUptoRow : OpenClaim := { program := "ytaapnjhgkbjdkaa", sum := "091b6e9157cb4f5a4be78ade6ff78ef411187e0e1368320f01773bba05fd3011", func := "loop.example/g00944/laws.FnPackings", spec := "fnPackings", unfollowed := true, recurses := true, apart := false, narrowed := true }
def FnPackingsUptoSaid : Prop := fnPackingsUptoRow.holds Try.pinned (OpenSpec.upto fnPackingsSpec)

/-- 'laws.FnExactBestUnits', WHERE WHAT IT READS IS OF BULK AT MOST 1048576: true; the input reads as it did. -/
def fnExactBestUnitsUptoRow : OpenClaim := { program := "ytaapnjhgkbjdkaa", sum := "091b6e9157cb4f5a4be78ade6ff78ef411187e0e1368320f01773bba05fd3011", func := "loop.example/g00944/laws.FnExactBestUnits", spec := "fnExactBestUnits", unfollowed := true, recurses := true, apart := false, narrowed := true }
def FnExactBestUnitsUptoSaid : Prop := fnExactBestUnitsUptoRow.holds Try.pinned (OpenSpec.upto fnExactBestUnitsSpec)

/-- 'laws.FnExactFirstFit', WHERE WHAT IT READS IS OF BULK AT MOST 1048576: true; the input reads as it did. -/
def fnExactFirstFitUptoRow : OpenClaim := { program := "ytaapnjhgkbjdkaa", sum := "091b6e9157cb4f5a4be78ade6ff78ef411187e0e1368320f01773bba05fd3011", func := "loop.example/g00944/laws.FnExactFirstFit", spec := "fnExactFirstFit", unfollowed := true, recurses := true, apart := false, narrowed := true }
def FnExactFirstFitUptoSaid : Prop := fnExactFirstFitUptoRow.holds Try.pinned (OpenSpec.upto fnExactFirstFitSpec)

/-- 'laws.FnExactLeastRolls', WHERE WHAT IT READS IS OF BULK AT MOST 1048576: true; the input reads as it did. -/
def fnExactLeastRollsUptoRow : OpenClaim := { program := "ytaapnjhgkbjdkaa", sum := "091b6e9157cb4f5a4be78ade6ff78ef411187e0e1368320f01773bba05fd3011", func := "loop.example/g00944/laws.FnExactLeastRolls", spec := "fnExactLeastRolls", unfollowed := true, recurses := true, apart := false, narrowed := true }
def FnExactLeastRollsUptoSaid : Prop := fnExactLeastRollsUptoRow.holds Try.pinned (OpenSpec.upto fnExactLeastRollsSpec)

/-- 'laws.FnExactBestPacking', WHERE WHAT IT READS IS OF BULK AT MOST 1048576: true; the input reads as it did. -/
def fnExactBestPackingUptoRow : OpenClaim := { program := "ytaapnjhgkbjdkaa", sum := "091b6e9157cb4f5a4be78ade6ff78ef411187e0e1368320f01773bba05fd3011", func := "loop.example/g00944/laws.FnExactBestPacking", spec := "fnExactBestPacking", unfollowed := true, recurses := true, apart := false, narrowed := true }
def FnExactBestPackingUptoSaid : Prop := fnExactBestPackingUptoRow.holds Try.pinned (OpenSpec.upto fnExactBestPackingSpec)

/-- 'laws.FnExactMakeCut', WHERE WHAT IT READS IS OF BULK AT MOST 1048576: true; the input reads as it did. -/
def fnExactMakeCutUptoRow : OpenClaim := { program := "ytaapnjhgkbjdkaa", sum := "091b6e9157cb4f5a4be78ade6ff78ef411187e0e1368320f01773bba05fd3011", func := "loop.example/g00944/laws.FnExactMakeCut", spec := "fnExactMakeCut", unfollowed := true, recurses := true, apart := false, narrowed := true }
def FnExactMakeCutUptoSaid : Prop := fnExactMakeCutUptoRow.holds Try.pinned (OpenSpec.upto fnExactMakeCutSpec)

/-- 'laws.FnExactRunCuts', WHERE WHAT IT READS IS OF BULK AT MOST 1048576: true; the input reads as it did. -/
def fnExactRunCutsUptoRow : OpenClaim := { program := "ytaapnjhgkbjdkaa", sum := "091b6e9157cb4f5a4be78ade6ff78ef411187e0e1368320f01773bba05fd3011", func := "loop.example/g00944/laws.FnExactRunCuts", spec := "fnExactRunCuts", apart := false, narrowed := true }
def FnExactRunCutsUptoSaid : Prop := fnExactRunCutsUptoRow.holds Try.pinned (OpenSpec.upto fnExactRunCutsSpec)

/-- 'laws.FnBestPackings', WHERE WHAT IT READS IS OF BULK AT MOST 1048576: true; the input reads as it did. -/
def fnBestPackingsUptoRow : OpenClaim := { program := "ytaapnjhgkbjdkaa", sum := "091b6e9157cb4f5a4be78ade6ff78ef411187e0e1368320f01773bba05fd3011", func := "loop.example/g00944/laws.FnBestPackings", spec := "fnBestPackings", unfollowed := true, recurses := true, apart := false, narrowed := true }
def FnBestPackingsUptoSaid : Prop := fnBestPackingsUptoRow.holds Try.pinned (OpenSpec.upto fnBestPackingsSpec)

/-- 'laws.FnExactLongestFirst', WHERE WHAT IT READS IS OF BULK AT MOST 1048576: true; the input reads as it did. -/
def fnExactLongestFirstUptoRow : OpenClaim := { program := "ytaapnjhgkbjdkaa", sum := "091b6e9157cb4f5a4be78ade6ff78ef411187e0e1368320f01773bba05fd3011", func := "loop.example/g00944/laws.FnExactLongestFirst", spec := "fnExactLongestFirst", unfollowed := true, recurses := true, apart := false, narrowed := true }
def FnExactLongestFirstUptoSaid : Prop := fnExactLongestFirstUptoRow.holds Try.pinned (OpenSpec.upto fnExactLongestFirstSpec)

end Rows
end Go.Proofs.Ytaapnjhgkbjdkaa
