/-
  No cell of these rows narrows 'for every input' (looked for: loops, veiled, ifaces, maps, wideKeys, modest, calm, conditions, laid).
  DERIVED. THE GIVEN ROWS OF THIS SEAT. 10 by the template 'for every input the law returns true; each argument reads behind the call as it read before'; 0 by the template 'total and deterministic' (their statements: YthapadejldlmfaaTotals.lean).
  GIVEN WITH THE SEED: the statements are not yours to turn. If you find one false, say at which input.
  Laid BY PROGRAM, IN A SANDBOX (cutbox-rows.mjs): the forced cells as the released guide's own fill.sh prints them over the translation b757645598a7693e… (all of the seat's roots in one cut). By AI agents, Wed Nov 11 2026. No macro, syntax, notation, axiom, sorry.
-/
import Derived.Test.YthapadejldlmfaaChecked
import GoSem.Claim
import GoSem.ClaimJoined
import GoSem.ClaimMapViews
import Derived.JoinedTies
import Derived.KernelRfl
namespace Go.Proofs.Ythapadejldlmfaa
/- THE CELL 'sum', in the pinned program and in every row, IS THE sha256 OF THE DUMP (.gsa) THAT YthapadejldlmfaaProg.lean LOADS. Nothing in Lean hashes anything: it is a label: what it is worth is what the hold of that sum in a sandbox is worth. -/
noncomputable def Try.pinned : Pinned := { name := "ythapadejldlmfaa", sum := "b757645598a7693e847d6adc9ed9bf5e39bea2c15f4360e5fee7ebe3daee60ae", checked := Try.checked }
namespace Rows
def none {H : Type} : Left H := { results := [], args := [] }

/-- 'laws.FnNested': WHATEVER THE INPUT: true; the input reads as it did. -/
def fnNestedSpec : ChangeSpec := { name := "fnNested", fn := fun _ => fun
  | [d] => { results := [.lit (.bool true)], args := [d] }
  | _ => none }
def fnNestedRow : OpenClaim := { program := "ythapadejldlmfaa", sum := "b757645598a7693e847d6adc9ed9bf5e39bea2c15f4360e5fee7ebe3daee60ae", func := "loop.example/g00944/laws.FnNested", spec := "fnNested", apart := false }
def FnNestedSaid : Prop := fnNestedRow.holds Try.pinned (OpenSpec.ofChange fnNestedSpec)

/-- ITS FALSE NEIGHBOUR: 'it returns false'. Refute it at one input. -/
def fnNestedWrong : ChangeSpec := { name := "fnNested", fn := fun _ => fun
  | [d] => { results := [.lit (.bool false)], args := [d] }
  | _ => none }
def FnNestedWrongFalsely : Prop := fnNestedRow.holds Try.pinned (OpenSpec.ofChange fnNestedWrong)

/-- 'laws.FnBlocks': WHATEVER THE INPUT: true; the input reads as it did. -/
def fnBlocksSpec : ChangeSpec := { name := "fnBlocks", fn := fun _ => fun
  | [d] => { results := [.lit (.bool true)], args := [d] }
  | _ => none }
def fnBlocksRow : OpenClaim := { program := "ythapadejldlmfaa", sum := "b757645598a7693e847d6adc9ed9bf5e39bea2c15f4360e5fee7ebe3daee60ae", func := "loop.example/g00944/laws.FnBlocks", spec := "fnBlocks", apart := false }
def FnBlocksSaid : Prop := fnBlocksRow.holds Try.pinned (OpenSpec.ofChange fnBlocksSpec)

/-- ITS FALSE NEIGHBOUR: 'it returns false'. Refute it at one input. -/
def fnBlocksWrong : ChangeSpec := { name := "fnBlocks", fn := fun _ => fun
  | [d] => { results := [.lit (.bool false)], args := [d] }
  | _ => none }
def FnBlocksWrongFalsely : Prop := fnBlocksRow.holds Try.pinned (OpenSpec.ofChange fnBlocksWrong)

/-- 'laws.FnUnits': WHATEVER THE INPUT: true; the input reads as it did. -/
def fnUnitsSpec : ChangeSpec := { name := "fnUnits", fn := fun _ => fun
  | [d] => { results := [.lit (.bool true)], args := [d] }
  | _ => none }
def fnUnitsRow : OpenClaim := { program := "ythapadejldlmfaa", sum := "b757645598a7693e847d6adc9ed9bf5e39bea2c15f4360e5fee7ebe3daee60ae", func := "loop.example/g00944/laws.FnUnits", spec := "fnUnits", unfollowed := true, recurses := true, apart := false }
def FnUnitsSaid : Prop := fnUnitsRow.holds Try.pinned (OpenSpec.ofChange fnUnitsSpec)

/-- ITS FALSE NEIGHBOUR: 'it returns false'. Refute it at one input. -/
def fnUnitsWrong : ChangeSpec := { name := "fnUnits", fn := fun _ => fun
  | [d] => { results := [.lit (.bool false)], args := [d] }
  | _ => none }
def FnUnitsWrongFalsely : Prop := fnUnitsRow.holds Try.pinned (OpenSpec.ofChange fnUnitsWrong)

/-- 'laws.FnGrids': WHATEVER THE INPUT: true; the input reads as it did. -/
def fnGridsSpec : ChangeSpec := { name := "fnGrids", fn := fun _ => fun
  | [d] => { results := [.lit (.bool true)], args := [d] }
  | _ => none }
def fnGridsRow : OpenClaim := { program := "ythapadejldlmfaa", sum := "b757645598a7693e847d6adc9ed9bf5e39bea2c15f4360e5fee7ebe3daee60ae", func := "loop.example/g00944/laws.FnGrids", spec := "fnGrids", apart := false }
def FnGridsSaid : Prop := fnGridsRow.holds Try.pinned (OpenSpec.ofChange fnGridsSpec)

/-- ITS FALSE NEIGHBOUR: 'it returns false'. Refute it at one input. -/
def fnGridsWrong : ChangeSpec := { name := "fnGrids", fn := fun _ => fun
  | [d] => { results := [.lit (.bool false)], args := [d] }
  | _ => none }
def FnGridsWrongFalsely : Prop := fnGridsRow.holds Try.pinned (OpenSpec.ofChange fnGridsWrong)

/-- 'laws.FnCreep': WHATEVER THE INPUT: true; the input reads as it did. -/
def fnCreepSpec : ChangeSpec := { name := "fnCreep", fn := fun _ => fun
  | [d] => { results := [.lit (.bool true)], args := [d] }
  | _ => none }
def fnCreepRow : OpenClaim := { program := "ythapadejldlmfaa", sum := "b757645598a7693e847d6adc9ed9bf5e39bea2c15f4360e5fee7ebe3daee60ae", func := "loop.example/g00944/laws.FnCreep", spec := "fnCreep", apart := false }
def FnCreepSaid : Prop := fnCreepRow.holds Try.pinned (OpenSpec.ofChange fnCreepSpec)

/-- ITS FALSE NEIGHBOUR: 'it returns false'. Refute it at one input. -/
def fnCreepWrong : ChangeSpec := { name := "fnCreep", fn := fun _ => fun
  | [d] => { results := [.lit (.bool false)], args := [d] }
  | _ => none }
def FnCreepWrongFalsely : Prop := fnCreepRow.holds Try.pinned (OpenSpec.ofChange fnCreepWrong)

/-- 'laws.FnSignatures': WHATEVER THE INPUT: true; the input reads as it did. -/
def fnSignaturesSpec : ChangeSpec := { name := "fnSignatures", fn := fun _ => fun
  | [d] => { results := [.lit (.bool true)], args := [d] }
  | _ => none }
def fnSignaturesRow : OpenClaim := { program := "ythapadejldlmfaa", sum := "b757645598a7693e847d6adc9ed9bf5e39bea2c15f4360e5fee7ebe3daee60ae", func := "loop.example/g00944/laws.FnSignatures", spec := "fnSignatures", apart := false }
def FnSignaturesSaid : Prop := fnSignaturesRow.holds Try.pinned (OpenSpec.ofChange fnSignaturesSpec)

/-- ITS FALSE NEIGHBOUR: 'it returns false'. Refute it at one input. -/
def fnSignaturesWrong : ChangeSpec := { name := "fnSignatures", fn := fun _ => fun
  | [d] => { results := [.lit (.bool false)], args := [d] }
  | _ => none }
def FnSignaturesWrongFalsely : Prop := fnSignaturesRow.holds Try.pinned (OpenSpec.ofChange fnSignaturesWrong)

/-- 'laws.FnBestGrids': WHATEVER THE INPUT: true; the input reads as it did. -/
def fnBestGridsSpec : ChangeSpec := { name := "fnBestGrids", fn := fun _ => fun
  | [d] => { results := [.lit (.bool true)], args := [d] }
  | _ => none }
def fnBestGridsRow : OpenClaim := { program := "ythapadejldlmfaa", sum := "b757645598a7693e847d6adc9ed9bf5e39bea2c15f4360e5fee7ebe3daee60ae", func := "loop.example/g00944/laws.FnBestGrids", spec := "fnBestGrids", apart := false }
def FnBestGridsSaid : Prop := fnBestGridsRow.holds Try.pinned (OpenSpec.ofChange fnBestGridsSpec)

/-- ITS FALSE NEIGHBOUR: 'it returns false'. Refute it at one input. -/
def fnBestGridsWrong : ChangeSpec := { name := "fnBestGrids", fn := fun _ => fun
  | [d] => { results := [.lit (.bool false)], args := [d] }
  | _ => none }
def FnBestGridsWrongFalsely : Prop := fnBestGridsRow.holds Try.pinned (OpenSpec.ofChange fnBestGridsWrong)

/-- 'laws.FnRuns': WHATEVER THE INPUT: true; the input reads as it did. -/
def fnRunsSpec : ChangeSpec := { name := "fnRuns", fn := fun _ => fun
  | [d] => { results := [.lit (.bool true)], args := [d] }
  | _ => none }
def fnRunsRow : OpenClaim := { program := "ythapadejldlmfaa", sum := "b757645598a7693e847d6adc9ed9bf5e39bea2c15f4360e5fee7ebe3daee60ae", func := "loop.example/g00944/laws.FnRuns", spec := "fnRuns", unfollowed := true, recurses := true, apart := false }
def FnRunsSaid : Prop := fnRunsRow.holds Try.pinned (OpenSpec.ofChange fnRunsSpec)

/-- ITS FALSE NEIGHBOUR: 'it returns false'. Refute it at one input. -/
def fnRunsWrong : ChangeSpec := { name := "fnRuns", fn := fun _ => fun
  | [d] => { results := [.lit (.bool false)], args := [d] }
  | _ => none }
def FnRunsWrongFalsely : Prop := fnRunsRow.holds Try.pinned (OpenSpec.ofChange fnRunsWrong)

/-- 'laws.FnCuts': WHATEVER THE INPUT: true; the input reads as it did. -/
def fnCutsSpec : ChangeSpec := { name := "fnCuts", fn := fun _ => fun
  | [d] => { results := [.lit (.bool true)], args := [d] }
  | _ => none }
def fnCutsRow : OpenClaim := { program := "ythapadejldlmfaa", sum := "b757645598a7693e847d6adc9ed9bf5e39bea2c15f4360e5fee7ebe3daee60ae", func := "loop.example/g00944/laws.FnCuts", spec := "fnCuts", unfollowed := true, recurses := true, apart := false }
def FnCutsSaid : Prop := fnCutsRow.holds Try.pinned (OpenSpec.ofChange fnCutsSpec)

/-- ITS FALSE NEIGHBOUR: 'it returns false'. Refute it at one input. -/
def fnCutsWrong : ChangeSpec := { name := "fnCuts", fn := fun _ => fun
  | [d] => { results := [.lit (.bool false)], args := [d] }
  | _ => none }
def FnCutsWrongFalsely : Prop := fnCutsRow.holds Try.pinned (OpenSpec.ofChange fnCutsWrong)

/-- 'laws.FnDivisions': WHATEVER THE INPUT: true; the input reads as it did. -/
def fnDivisionsSpec : ChangeSpec := { name := "fnDivisions", fn := fun _ => fun
  | [d] => { results := [.lit (.bool true)], args := [d] }
  | _ => none }
def fnDivisionsRow : OpenClaim := { program := "ythapadejldlmfaa", sum := "b757645598a7693e847d6adc9ed9bf5e39bea2c15f4360e5fee7ebe3daee60ae", func := "loop.example/g00944/laws.FnDivisions", spec := "fnDivisions", unfollowed := true, recurses := true, apart := false }
def FnDivisionsSaid : Prop := fnDivisionsRow.holds Try.pinned (OpenSpec.ofChange fnDivisionsSpec)

/-- ITS FALSE NEIGHBOUR: 'it returns false'. Refute it at one input. -/
def fnDivisionsWrong : ChangeSpec := { name := "fnDivisions", fn := fun _ => fun
  | [d] => { results := [.lit (.bool false)], args := [d] }
  | _ => none }
def FnDivisionsWrongFalsely : Prop := fnDivisionsRow.holds Try.pinned (OpenSpec.ofChange fnDivisionsWrong)

/- THE SECOND FORM. 'bulk': how many values and letters a reading holds, each counted each time it is reached (what is shared counts as often as it is met; a slice's spare places count too). A statement '..UptoSaid' is the law's where the arguments, and the package variables that the reading takes, are together of bulk at most 1048576: NARROWER than '..Said'. Prove '..Said' where nothing that the law and all that it calls make is longer than what came in: it says more and counts as full. Else prove '..UptoSaid'. A law counts once. -/
mutual
def uptoBulk {H : Type} : DataW H → Nat
  | .lit (.string bytes) => bytes.length + 1
  | .lit _ => 1
  | .nil => 1
  | .ptr d => uptoBulk d + 1
  | .slice elems spare => uptoBulkAll elems + uptoBulkAll spare + 1
  | .agg parts => uptoBulkAll parts + 1
  | .iface _ d => uptoBulk d + 1
  | .map entries => uptoBulkEntries entries + 1
  | .held _ => 1
def uptoBulkAll {H : Type} : List (DataW H) → Nat
  | [] => 0
  | d :: r => uptoBulk d + uptoBulkAll r
def uptoBulkEntries {H : Type} : List (Lit × DataW H) → Nat
  | [] => 0
  | x :: r => uptoBulkEntry x + uptoBulkEntries r
def uptoBulkEntry {H : Type} : Lit × DataW H → Nat
  | (.string bytes, d) => bytes.length + uptoBulk d + 1
  | (_, d) => uptoBulk d + 1
 end
def uptoSmall : (H : Type) → List (DataW H) → Bool := fun _ ds => decide (uptoBulkAll ds ≤ 1048576)
def OpenSpec.upto (s : _root_.Go.ChangeSpec) : _root_.Go.OpenSpec := { _root_.Go.OpenSpec.ofChange s with cond := some uptoSmall }

/-- 'laws.FnNested', WHERE WHAT IT READS IS OF BULK AT MOST 1048576: true; the input reads as it did. -/
def fnNestedUptoRow : OpenClaim := { program := "ythapadejldlmfaa", sum := "b757645598a7693e847d6adc9ed9bf5e39bea2c15f4360e5fee7ebe3daee60ae", func := "loop.example/g00944/laws.FnNested", spec := "fnNested", apart := false, narrowed := true }
def FnNestedUptoSaid : Prop := fnNestedUptoRow.holds Try.pinned (OpenSpec.upto fnNestedSpec)

/-- 'laws.FnBlocks', WHERE WHAT IT READS IS OF BULK AT MOST 1048576: true; the input reads as it did. -/
def fnBlocksUptoRow : OpenClaim := { program := "ythapadejldlmfaa", sum := "b757645598a7693e847d6adc9ed9bf5e39bea2c15f4360e5fee7ebe3daee60ae", func := "loop.example/g00944/laws.FnBlocks", spec := "fnBlocks", apart := false, narrowed := true }
def FnBlocksUptoSaid : Prop := fnBlocksUptoRow.holds Try.pinned (OpenSpec.upto fnBlocksSpec)

/-- 'laws.FnUnits', WHERE WHAT IT READS IS OF BULK AT MOST 1048576: true; the input reads as it did. -/
def fnUnitsUptoRow : OpenClaim := { program := "ythapadejldlmfaa", sum := "b757645598a7693e847d6adc9ed9bf5e39bea2c15f4360e5fee7ebe3daee60ae", func := "loop.example/g00944/laws.FnUnits", spec := "fnUnits", unfollowed := true, recurses := true, apart := false, narrowed := true }
def FnUnitsUptoSaid : Prop := fnUnitsUptoRow.holds Try.pinned (OpenSpec.upto fnUnitsSpec)

/-- 'laws.FnGrids', WHERE WHAT IT READS IS OF BULK AT MOST 1048576: true; the input reads as it did. -/
def fnGridsUptoRow : OpenClaim := { program := "ythapadejldlmfaa", sum := "b757645598a7693e847d6adc9ed9bf5e39bea2c15f4360e5fee7ebe3daee60ae", func := "loop.example/g00944/laws.FnGrids", spec := "fnGrids", apart := false, narrowed := true }
def FnGridsUptoSaid : Prop := fnGridsUptoRow.holds Try.pinned (OpenSpec.upto fnGridsSpec)

/-- 'laws.FnCreep', WHERE WHAT IT READS IS OF BULK AT MOST 1048576: true; the input reads as it did. -/
def fnCreepUptoRow : OpenClaim := { program := "ythapadejldlmfaa", sum := "b757645598a7693e847d6adc9ed9bf5e39bea2c15f4360e5fee7ebe3daee60ae", func := "loop.example/g00944/laws.FnCreep", spec := "fnCreep", apart := false, narrowed := true }
def FnCreepUptoSaid : Prop := fnCreepUptoRow.holds Try.pinned (OpenSpec.upto fnCreepSpec)

/-- 'laws.FnSignatures', WHERE WHAT IT READS IS OF BULK AT MOST 1048576: true; the input reads as it did. -/
def fnSignaturesUptoRow : OpenClaim := { program := "ythapadejldlmfaa", sum := "b757645598a7693e847d6adc9ed9bf5e39bea2c15f4360e5fee7ebe3daee60ae", func := "loop.example/g00944/laws.FnSignatures", spec := "fnSignatures", apart := false, narrowed := true }
def FnSignaturesUptoSaid : Prop := fnSignaturesUptoRow.holds Try.pinned (OpenSpec.upto fnSignaturesSpec)

/-- 'laws.FnBestGrids', WHERE WHAT IT READS IS OF BULK AT MOST 1048576: true; the input reads as it did. -/
def fnBestGridsUptoRow : OpenClaim := { program := "ythapadejldlmfaa", sum := "b757645598a7693e847d6adc9ed9bf5e39bea2c15f4360e5fee7ebe3daee60ae", func := "loop.example/g00944/laws.FnBestGrids", spec := "fnBestGrids", apart := false, narrowed := true }
def FnBestGridsUptoSaid : Prop := fnBestGridsUptoRow.holds Try.pinned (OpenSpec.upto fnBestGridsSpec)

/-- 'laws.FnRuns', WHERE WHAT IT READS IS OF BULK AT MOST 1048576: true; the input reads as it did. -/
def fnRunsUptoRow : OpenClaim := { program := "ythapadejldlmfaa", sum := "b757645598a7693e847d6adc9ed9bf5e39bea2c15f4360e5fee7ebe3daee60ae", func := "loop.example/g00944/laws.FnRuns", spec := "fnRuns", unfollowed := true, recurses := true, apart := false, narrowed := true }
def FnRunsUptoSaid : Prop := fnRunsUptoRow.holds Try.pinned (OpenSpec.upto fnRunsSpec)

/-- 'laws.FnCuts', WHERE WHAT IT READS IS OF BULK AT MOST 1048576: true; the input reads as it did. -/
def fnCutsUptoRow : OpenClaim := { program := "ythapadejldlmfaa", sum := "b757645598a7693e847d6adc9ed9bf5e39bea2c15f4360e5fee7ebe3daee60ae", func := "loop.example/g00944/laws.FnCuts", spec := "fnCuts", unfollowed := true, recurses := true, apart := false, narrowed := true }
def FnCutsUptoSaid : Prop := fnCutsUptoRow.holds Try.pinned (OpenSpec.upto fnCutsSpec)

/-- 'laws.FnDivisions', WHERE WHAT IT READS IS OF BULK AT MOST 1048576: true; the input reads as it did. -/
def fnDivisionsUptoRow : OpenClaim := { program := "ythapadejldlmfaa", sum := "b757645598a7693e847d6adc9ed9bf5e39bea2c15f4360e5fee7ebe3daee60ae", func := "loop.example/g00944/laws.FnDivisions", spec := "fnDivisions", unfollowed := true, recurses := true, apart := false, narrowed := true }
def FnDivisionsUptoSaid : Prop := fnDivisionsUptoRow.holds Try.pinned (OpenSpec.upto fnDivisionsSpec)

end Rows
end Go.Proofs.Ythapadejldlmfaa
