/-
  No cell of these rows narrows 'for every input' (looked for: loops, veiled, ifaces, maps, wideKeys, modest, calm, conditions, laid).
  DERIVED. THE GIVEN ROWS OF THIS SEAT. 11 by the template 'for every input the law returns true; each argument reads behind the call as it read before'; 0 by the template 'total and deterministic' (their statements: YtpeigljahdnomaaTotals.lean).
  GIVEN WITH THE SEED: the statements are not yours to turn. If you find one false, say at which input.
  Laid BY PROGRAM, IN A SANDBOX (cutbox-rows.mjs): the forced cells as the released guide's own fill.sh prints them over the translation be8f545afeeff82a… (all of the seat's roots in one cut). By AI agents, Wed Nov 11 2026. No macro, syntax, notation, axiom, sorry.
-/
import Derived.Test.YtpeigljahdnomaaChecked
import GoSem.Claim
import GoSem.ClaimJoined
import GoSem.ClaimMapViews
import Derived.JoinedTies
import Derived.KernelRfl
namespace Go.Proofs.Ytpeigljahdnomaa
/- THE CELL 'sum', in the pinned program and in every row, IS THE sha256 OF THE DUMP (.gsa) THAT YtpeigljahdnomaaProg.lean LOADS. Nothing in Lean hashes anything: it is a label: what it is worth is what the hold of that sum in a sandbox is worth. -/
noncomputable def Try.pinned : Pinned := { name := "ytpeigljahdnomaa", sum := "be8f545afeeff82a8318ecc800bb578c89267b3ce88e648cf062d79a8039221a", checked := Try.checked }
namespace Rows
def none {H : Type} : Left H := { results := [], args := [] }

/-- 'laws.FnExactLeastRun': WHATEVER THE INPUT: true; the input reads as it did. -/
def fnExactLeastRunSpec : ChangeSpec := { name := "fnExactLeastRun", fn := fun _ => fun
  | [d1, d2] => { results := [.lit (.bool true)], args := [d1, d2] }
  | _ => none }
def fnExactLeastRunRow : OpenClaim := { program := "ytpeigljahdnomaa", sum := "be8f545afeeff82a8318ecc800bb578c89267b3ce88e648cf062d79a8039221a", func := "loop.example/g00944/laws.FnExactLeastRun", spec := "fnExactLeastRun", unfollowed := true, recurses := true, apart := false }
def FnExactLeastRunSaid : Prop := fnExactLeastRunRow.holds Try.pinned (OpenSpec.ofChange fnExactLeastRunSpec)

/-- ITS FALSE NEIGHBOUR: 'it returns false'. Refute it at one input. -/
def fnExactLeastRunWrong : ChangeSpec := { name := "fnExactLeastRun", fn := fun _ => fun
  | [d1, d2] => { results := [.lit (.bool false)], args := [d1, d2] }
  | _ => none }
def FnExactLeastRunWrongFalsely : Prop := fnExactLeastRunRow.holds Try.pinned (OpenSpec.ofChange fnExactLeastRunWrong)

/-- 'laws.FnExactOversOf': WHATEVER THE INPUT: true; the input reads as it did. -/
def fnExactOversOfSpec : ChangeSpec := { name := "fnExactOversOf", fn := fun _ => fun
  | [d1, d2, d3] => { results := [.lit (.bool true)], args := [d1, d2, d3] }
  | _ => none }
def fnExactOversOfRow : OpenClaim := { program := "ytpeigljahdnomaa", sum := "be8f545afeeff82a8318ecc800bb578c89267b3ce88e648cf062d79a8039221a", func := "loop.example/g00944/laws.FnExactOversOf", spec := "fnExactOversOf", unfollowed := true, recurses := true, apart := false }
def FnExactOversOfSaid : Prop := fnExactOversOfRow.holds Try.pinned (OpenSpec.ofChange fnExactOversOfSpec)

/-- ITS FALSE NEIGHBOUR: 'it returns false'. Refute it at one input. -/
def fnExactOversOfWrong : ChangeSpec := { name := "fnExactOversOf", fn := fun _ => fun
  | [d1, d2, d3] => { results := [.lit (.bool false)], args := [d1, d2, d3] }
  | _ => none }
def FnExactOversOfWrongFalsely : Prop := fnExactOversOfRow.holds Try.pinned (OpenSpec.ofChange fnExactOversOfWrong)

/-- 'laws.FnExactSparesOf': WHATEVER THE INPUT: true; the input reads as it did. -/
def fnExactSparesOfSpec : ChangeSpec := { name := "fnExactSparesOf", fn := fun _ => fun
  | [d1, d2, d3] => { results := [.lit (.bool true)], args := [d1, d2, d3] }
  | _ => none }
def fnExactSparesOfRow : OpenClaim := { program := "ytpeigljahdnomaa", sum := "be8f545afeeff82a8318ecc800bb578c89267b3ce88e648cf062d79a8039221a", func := "loop.example/g00944/laws.FnExactSparesOf", spec := "fnExactSparesOf", unfollowed := true, recurses := true, apart := false }
def FnExactSparesOfSaid : Prop := fnExactSparesOfRow.holds Try.pinned (OpenSpec.ofChange fnExactSparesOfSpec)

/-- ITS FALSE NEIGHBOUR: 'it returns false'. Refute it at one input. -/
def fnExactSparesOfWrong : ChangeSpec := { name := "fnExactSparesOf", fn := fun _ => fun
  | [d1, d2, d3] => { results := [.lit (.bool false)], args := [d1, d2, d3] }
  | _ => none }
def FnExactSparesOfWrongFalsely : Prop := fnExactSparesOfRow.holds Try.pinned (OpenSpec.ofChange fnExactSparesOfWrong)

/-- 'laws.FnExactBestUps': WHATEVER THE INPUT: true; the input reads as it did. -/
def fnExactBestUpsSpec : ChangeSpec := { name := "fnExactBestUps", fn := fun _ => fun
  | [d1, d2] => { results := [.lit (.bool true)], args := [d1, d2] }
  | _ => none }
def fnExactBestUpsRow : OpenClaim := { program := "ytpeigljahdnomaa", sum := "be8f545afeeff82a8318ecc800bb578c89267b3ce88e648cf062d79a8039221a", func := "loop.example/g00944/laws.FnExactBestUps", spec := "fnExactBestUps", unfollowed := true, recurses := true, apart := false }
def FnExactBestUpsSaid : Prop := fnExactBestUpsRow.holds Try.pinned (OpenSpec.ofChange fnExactBestUpsSpec)

/-- ITS FALSE NEIGHBOUR: 'it returns false'. Refute it at one input. -/
def fnExactBestUpsWrong : ChangeSpec := { name := "fnExactBestUps", fn := fun _ => fun
  | [d1, d2] => { results := [.lit (.bool false)], args := [d1, d2] }
  | _ => none }
def FnExactBestUpsWrongFalsely : Prop := fnExactBestUpsRow.holds Try.pinned (OpenSpec.ofChange fnExactBestUpsWrong)

/-- 'laws.FnExactLeastRolls': WHATEVER THE INPUT: true; the input reads as it did. -/
def fnExactLeastRollsSpec : ChangeSpec := { name := "fnExactLeastRolls", fn := fun _ => fun
  | [d1, d2] => { results := [.lit (.bool true)], args := [d1, d2] }
  | _ => none }
def fnExactLeastRollsRow : OpenClaim := { program := "ytpeigljahdnomaa", sum := "be8f545afeeff82a8318ecc800bb578c89267b3ce88e648cf062d79a8039221a", func := "loop.example/g00944/laws.FnExactLeastRolls", spec := "fnExactLeastRolls", unfollowed := true, recurses := true, apart := false }
def FnExactLeastRollsSaid : Prop := fnExactLeastRollsRow.holds Try.pinned (OpenSpec.ofChange fnExactLeastRollsSpec)

/-- ITS FALSE NEIGHBOUR: 'it returns false'. Refute it at one input. -/
def fnExactLeastRollsWrong : ChangeSpec := { name := "fnExactLeastRolls", fn := fun _ => fun
  | [d1, d2] => { results := [.lit (.bool false)], args := [d1, d2] }
  | _ => none }
def FnExactLeastRollsWrongFalsely : Prop := fnExactLeastRollsRow.holds Try.pinned (OpenSpec.ofChange fnExactLeastRollsWrong)

/-- 'laws.FnExactBestPacking': WHATEVER THE INPUT: true; the input reads as it did. -/
def fnExactBestPackingSpec : ChangeSpec := { name := "fnExactBestPacking", fn := fun _ => fun
  | [d1, d2] => { results := [.lit (.bool true)], args := [d1, d2] }
  | _ => none }
def fnExactBestPackingRow : OpenClaim := { program := "ytpeigljahdnomaa", sum := "be8f545afeeff82a8318ecc800bb578c89267b3ce88e648cf062d79a8039221a", func := "loop.example/g00944/laws.FnExactBestPacking", spec := "fnExactBestPacking", unfollowed := true, recurses := true, apart := false }
def FnExactBestPackingSaid : Prop := fnExactBestPackingRow.holds Try.pinned (OpenSpec.ofChange fnExactBestPackingSpec)

/-- ITS FALSE NEIGHBOUR: 'it returns false'. Refute it at one input. -/
def fnExactBestPackingWrong : ChangeSpec := { name := "fnExactBestPacking", fn := fun _ => fun
  | [d1, d2] => { results := [.lit (.bool false)], args := [d1, d2] }
  | _ => none }
def FnExactBestPackingWrongFalsely : Prop := fnExactBestPackingRow.holds Try.pinned (OpenSpec.ofChange fnExactBestPackingWrong)

/-- 'laws.FnExactMakeCut': WHATEVER THE INPUT: true; the input reads as it did. -/
def fnExactMakeCutSpec : ChangeSpec := { name := "fnExactMakeCut", fn := fun _ => fun
  | [d1, d2] => { results := [.lit (.bool true)], args := [d1, d2] }
  | _ => none }
def fnExactMakeCutRow : OpenClaim := { program := "ytpeigljahdnomaa", sum := "be8f545afeeff82a8318ecc800bb578c89267b3ce88e648cf062d79a8039221a", func := "loop.example/g00944/laws.FnExactMakeCut", spec := "fnExactMakeCut", unfollowed := true, recurses := true, apart := false }
def FnExactMakeCutSaid : Prop := fnExactMakeCutRow.holds Try.pinned (OpenSpec.ofChange fnExactMakeCutSpec)

/-- ITS FALSE NEIGHBOUR: 'it returns false'. Refute it at one input. -/
def fnExactMakeCutWrong : ChangeSpec := { name := "fnExactMakeCut", fn := fun _ => fun
  | [d1, d2] => { results := [.lit (.bool false)], args := [d1, d2] }
  | _ => none }
def FnExactMakeCutWrongFalsely : Prop := fnExactMakeCutRow.holds Try.pinned (OpenSpec.ofChange fnExactMakeCutWrong)

/-- 'laws.FnExactDividedCost': WHATEVER THE INPUT: true; the input reads as it did. -/
def fnExactDividedCostSpec : ChangeSpec := { name := "fnExactDividedCost", fn := fun _ => fun
  | [d1, d2, d3, d4] => { results := [.lit (.bool true)], args := [d1, d2, d3, d4] }
  | _ => none }
def fnExactDividedCostRow : OpenClaim := { program := "ytpeigljahdnomaa", sum := "be8f545afeeff82a8318ecc800bb578c89267b3ce88e648cf062d79a8039221a", func := "loop.example/g00944/laws.FnExactDividedCost", spec := "fnExactDividedCost", unfollowed := true, recurses := true, apart := false }
def FnExactDividedCostSaid : Prop := fnExactDividedCostRow.holds Try.pinned (OpenSpec.ofChange fnExactDividedCostSpec)

/-- ITS FALSE NEIGHBOUR: 'it returns false'. Refute it at one input. -/
def fnExactDividedCostWrong : ChangeSpec := { name := "fnExactDividedCost", fn := fun _ => fun
  | [d1, d2, d3, d4] => { results := [.lit (.bool false)], args := [d1, d2, d3, d4] }
  | _ => none }
def FnExactDividedCostWrongFalsely : Prop := fnExactDividedCostRow.holds Try.pinned (OpenSpec.ofChange fnExactDividedCostWrong)

/-- 'laws.FnExactRunCuts': WHATEVER THE INPUT: true; the input reads as it did. -/
def fnExactRunCutsSpec : ChangeSpec := { name := "fnExactRunCuts", fn := fun _ => fun
  | [d1, d2] => { results := [.lit (.bool true)], args := [d1, d2] }
  | _ => none }
def fnExactRunCutsRow : OpenClaim := { program := "ytpeigljahdnomaa", sum := "be8f545afeeff82a8318ecc800bb578c89267b3ce88e648cf062d79a8039221a", func := "loop.example/g00944/laws.FnExactRunCuts", spec := "fnExactRunCuts", apart := false }
def FnExactRunCutsSaid : Prop := fnExactRunCutsRow.holds Try.pinned (OpenSpec.ofChange fnExactRunCutsSpec)

/-- ITS FALSE NEIGHBOUR: 'it returns false'. Refute it at one input. -/
def fnExactRunCutsWrong : ChangeSpec := { name := "fnExactRunCuts", fn := fun _ => fun
  | [d1, d2] => { results := [.lit (.bool false)], args := [d1, d2] }
  | _ => none }
def FnExactRunCutsWrongFalsely : Prop := fnExactRunCutsRow.holds Try.pinned (OpenSpec.ofChange fnExactRunCutsWrong)

/-- 'laws.FnExactBestDivision': WHATEVER THE INPUT: true; the input reads as it did. -/
def fnExactBestDivisionSpec : ChangeSpec := { name := "fnExactBestDivision", fn := fun _ => fun
  | [d1, d2, d3] => { results := [.lit (.bool true)], args := [d1, d2, d3] }
  | _ => none }
def fnExactBestDivisionRow : OpenClaim := { program := "ytpeigljahdnomaa", sum := "be8f545afeeff82a8318ecc800bb578c89267b3ce88e648cf062d79a8039221a", func := "loop.example/g00944/laws.FnExactBestDivision", spec := "fnExactBestDivision", unfollowed := true, recurses := true, apart := false }
def FnExactBestDivisionSaid : Prop := fnExactBestDivisionRow.holds Try.pinned (OpenSpec.ofChange fnExactBestDivisionSpec)

/-- ITS FALSE NEIGHBOUR: 'it returns false'. Refute it at one input. -/
def fnExactBestDivisionWrong : ChangeSpec := { name := "fnExactBestDivision", fn := fun _ => fun
  | [d1, d2, d3] => { results := [.lit (.bool false)], args := [d1, d2, d3] }
  | _ => none }
def FnExactBestDivisionWrongFalsely : Prop := fnExactBestDivisionRow.holds Try.pinned (OpenSpec.ofChange fnExactBestDivisionWrong)

/-- 'laws.FnExactLongestFirst': WHATEVER THE INPUT: true; the input reads as it did. -/
def fnExactLongestFirstSpec : ChangeSpec := { name := "fnExactLongestFirst", fn := fun _ => fun
  | [d1, d2] => { results := [.lit (.bool true)], args := [d1, d2] }
  | _ => none }
def fnExactLongestFirstRow : OpenClaim := { program := "ytpeigljahdnomaa", sum := "be8f545afeeff82a8318ecc800bb578c89267b3ce88e648cf062d79a8039221a", func := "loop.example/g00944/laws.FnExactLongestFirst", spec := "fnExactLongestFirst", unfollowed := true, recurses := true, apart := false }
def FnExactLongestFirstSaid : Prop := fnExactLongestFirstRow.holds Try.pinned (OpenSpec.ofChange fnExactLongestFirstSpec)

/-- ITS FALSE NEIGHBOUR: 'it returns false'. Refute it at one input. -/
def fnExactLongestFirstWrong : ChangeSpec := { name := "fnExactLongestFirst", fn := fun _ => fun
  | [d1, d2] => { results := [.lit (.bool false)], args := [d1, d2] }
  | _ => none }
def FnExactLongestFirstWrongFalsely : Prop := fnExactLongestFirstRow.holds Try.pinned (OpenSpec.ofChange fnExactLongestFirstWrong)

/- THE SECOND FORM. 'bulk': how many values and letters a reading holds, each counted each time it is reached (what is shared counts as often as it is met; a slice's spare places count too). A statement '..UptoSaid' is the law's where the arguments, and the package variables that the reading takes, are together of bulk at most 1048576: NARROWER than '..Said'. Prove '..Said' where nothing that the law and all that it calls make is longer than what came in: it says more and counts as full. Else prove '..UptoSaid'. A law counts once. -/
mutual
def uptoBulk {H : Type} : DataW H → Nat
  | .lit (.string bytes) => bytes.length + 1
  | .lit _ => 1
  | .nil => 1
  | .ptr d => uptoBulk d + 1
  | .slice elems spare => uptoBulkAll elems + uptoBulkAll spare + 1
  | .agg parts => uptoBulkAll parts + 1
  | .iface _ d => uptoBulk d + 1
  | .map entries => uptoBulkEntries entries + 1
  | .held _ => 1
def uptoBulkAll {H : Type} : List (DataW H) → Nat
  | [] => 0
  | d :: r => uptoBulk d + uptoBulkAll r
def uptoBulkEntries {H : Type} : List (Lit × DataW H) → Nat
  | [] => 0
  | x :: r => uptoBulkEntry x + uptoBulkEntries r
def uptoBulkEntry {H : Type} : Lit × DataW H → Nat
  | (.string bytes, d) => bytes.length + uptoBulk d + 1
  | (_, d) => uptoBulk d + 1
 end
def uptoSmall : (H : Type) → List (DataW H) → Bool := fun _ ds => decide (uptoBulkAll ds ≤ 1048576)
def OpenSpec.upto (s : _root_.Go.ChangeSpec) : _root_.Go.OpenSpec := { _root_.Go.OpenSpec.ofChange s with cond := some uptoSmall }

/-- 'laws.FnExactLeastRun', WHERE WHAT IT READS IS OF BULK AT MOST 1048576: true; the input reads as it did. -/
def fnExactLeastRunUptoRow : OpenClaim := { program := "ytpeigljahdnomaa", sum := "be8f545afeeff82a8318ecc800bb578c89267b3ce88e648cf062d79a8039221a", func := "loop.example/g00944/laws.FnExactLeastRun", spec := "fnExactLeastRun", unfollowed := true, recurses := true, apart := false, narrowed := true }
def FnExactLeastRunUptoSaid : Prop := fnExactLeastRunUptoRow.holds Try.pinned (OpenSpec.upto fnExactLeastRunSpec)

/-- 'laws.FnExactOversOf', WHERE WHAT IT READS IS OF BULK AT MOST 1048576: true; the input reads as it did. -/
def fnExactOversOfUptoRow : OpenClaim := { program := "ytpeigljahdnomaa", sum := "be8f545afeeff82a8318ecc800bb578c89267b3ce88e648cf062d79a8039221a", func := "loop.example/g00944/laws.FnExactOversOf", spec := "fnExactOversOf", unfollowed := true, recurses := true, apart := false, narrowed := true }
def FnExactOversOfUptoSaid : Prop := fnExactOversOfUptoRow.holds Try.pinned (OpenSpec.upto fnExactOversOfSpec)

/-- 'laws.FnExactSparesOf', WHERE WHAT IT READS IS OF BULK AT MOST 1048576: true; the input reads as it did. -/
def fnExactSparesOfUptoRow : OpenClaim := { program := "ytpeigljahdnomaa", sum := "be8f545afeeff82a8318ecc800bb578c89267b3ce88e648cf062d79a8039221a", func := "loop.example/g00944/laws.FnExactSparesOf", spec := "fnExactSparesOf", unfollowed := true, recurses := true, apart := false, narrowed := true }
def FnExactSparesOfUptoSaid : Prop := fnExactSparesOfUptoRow.holds Try.pinned (OpenSpec.upto fnExactSparesOfSpec)

/-- 'laws.FnExactBestUps', WHERE WHAT IT READS IS OF BULK AT MOST 1048576: true; the input reads as it did. -/
def fnExactBestUpsUptoRow : OpenClaim := { program := "ytpeigljahdnomaa", sum := "be8f545afeeff82a8318ecc800bb578c89267b3ce88e648cf062d79a8039221a", func := "loop.example/g00944/laws.FnExactBestUps", spec := "fnExactBestUps", unfollowed := true, recurses := true, apart := false, narrowed := true }
def FnExactBestUpsUptoSaid : Prop := fnExactBestUpsUptoRow.holds Try.pinned (OpenSpec.upto fnExactBestUpsSpec)

/-- 'laws.FnExactLeastRolls', WHERE WHAT IT READS IS OF BULK AT MOST 1048576: true; the input reads as it did. -/
def fnExactLeastRollsUptoRow : OpenClaim := { program := "ytpeigljahdnomaa", sum := "be8f545afeeff82a8318ecc800bb578c89267b3ce88e648cf062d79a8039221a", func := "loop.example/g00944/laws.FnExactLeastRolls", spec := "fnExactLeastRolls", unfollowed := true, recurses := true, apart := false, narrowed := true }
def FnExactLeastRollsUptoSaid : Prop := fnExactLeastRollsUptoRow.holds Try.pinned (OpenSpec.upto fnExactLeastRollsSpec)

/-- 'laws.FnExactBestPacking', WHERE WHAT IT READS IS OF BULK AT MOST 1048576: true; the input reads as it did. -/
def fnExactBestPackingUptoRow : OpenClaim := { program := "ytpeigljahdnomaa", sum := "be8f545afeeff82a8318ecc800bb578c89267b3ce88e648cf062d79a8039221a", func := "loop.example/g00944/laws.FnExactBestPacking", spec := "fnExactBestPacking", unfollowed := true, recurses := true, apart := false, narrowed := true }
def FnExactBestPackingUptoSaid : Prop := fnExactBestPackingUptoRow.holds Try.pinned (OpenSpec.upto fnExactBestPackingSpec)

/-- 'laws.FnExactMakeCut', WHERE WHAT IT READS IS OF BULK AT MOST 1048576: true; the input reads as it did. -/
def fnExactMakeCutUptoRow : OpenClaim := { program := "ytpeigljahdnomaa", sum := "be8f545afeeff82a8318ecc800bb578c89267b3ce88e648cf062d79a8039221a", func := "loop.example/g00944/laws.FnExactMakeCut", spec := "fnExactMakeCut", unfollowed := true, recurses := true, apart := false, narrowed := true }
def FnExactMakeCutUptoSaid : Prop := fnExactMakeCutUptoRow.holds Try.pinned (OpenSpec.upto fnExactMakeCutSpec)

/-- 'laws.FnExactDividedCost', WHERE WHAT IT READS IS OF BULK AT MOST 1048576: true; the input reads as it did. -/
def fnExactDividedCostUptoRow : OpenClaim := { program := "ytpeigljahdnomaa", sum := "be8f545afeeff82a8318ecc800bb578c89267b3ce88e648cf062d79a8039221a", func := "loop.example/g00944/laws.FnExactDividedCost", spec := "fnExactDividedCost", unfollowed := true, recurses := true, apart := false, narrowed := true }
def FnExactDividedCostUptoSaid : Prop := fnExactDividedCostUptoRow.holds Try.pinned (OpenSpec.upto fnExactDividedCostSpec)

/-- 'laws.FnExactRunCuts', WHERE WHAT IT READS IS OF BULK AT MOST 1048576: true; the input reads as it did. -/
def fnExactRunCutsUptoRow : OpenClaim := { program := "ytpeigljahdnomaa", sum := "be8f545afeeff82a8318ecc800bb578c89267b3ce88e648cf062d79a8039221a", func := "loop.example/g00944/laws.FnExactRunCuts", spec := "fnExactRunCuts", apart := false, narrowed := true }
def FnExactRunCutsUptoSaid : Prop := fnExactRunCutsUptoRow.holds Try.pinned (OpenSpec.upto fnExactRunCutsSpec)

/-- 'laws.FnExactBestDivision', WHERE WHAT IT READS IS OF BULK AT MOST 1048576: true; the input reads as it did. -/
def fnExactBestDivisionUptoRow : OpenClaim := { program := "ytpeigljahdnomaa", sum := "be8f545afeeff82a8318ecc800bb578c89267b3ce88e648cf062d79a8039221a", func := "loop.example/g00944/laws.FnExactBestDivision", spec := "fnExactBestDivision", unfollowed := true, recurses := true, apart := false, narrowed := true }
def FnExactBestDivisionUptoSaid : Prop := fnExactBestDivisionUptoRow.holds Try.pinned (OpenSpec.upto fnExactBestDivisionSpec)

/-- 'laws.FnExactLongestFirst', WHERE WHAT IT READS IS OF BULK AT MOST 1048576: true; the input reads as it did. -/
def fnExactLongestFirstUptoRow : OpenClaim := { program := "ytpeigljahdnomaa", sum := "be8f545afeeff82a8318ecc800bb578c89267b3ce88e648cf062d79a8039221a", func := "loop.example/g00944/laws.FnExactLongestFirst", spec := "fnExactLongestFirst", unfollowed := true, recurses := true, apart := false, narrowed := true }
def FnExactLongestFirstUptoSaid : Prop := fnExactLongestFirstUptoRow.holds Try.pinned (OpenSpec.upto fnExactLongestFirstSpec)

end Rows
end Go.Proofs.Ytpeigljahdnomaa
