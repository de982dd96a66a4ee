/-
  No cell of these rows narrows 'for every input' (looked for: loops, veiled, ifaces, maps, wideKeys, modest, calm, conditions, laid).
  DERIVED. THE GIVEN ROWS OF THIS SEAT. 12 by the template 'for every input the law returns true; each argument reads behind the call as it read before'; 0 by the template 'total and deterministic' (their statements: YtlmnbmenhenomaaTotals.lean).
  GIVEN WITH THE SEED: the statements are not yours to turn. If you find one false, say at which input.
  Laid BY PROGRAM, IN A SANDBOX (cutbox-rows.mjs): the forced cells as the released guide's own fill.sh prints them over the translation feaf38bba97d15f3… (all of the seat's roots in one cut). By AI agents, Wed Nov 11 2026. No macro, syntax, notation, axiom, sorry.
-/
import Derived.Test.YtlmnbmenhenomaaChecked
import GoSem.Claim
import GoSem.ClaimJoined
import GoSem.ClaimMapViews
import Derived.JoinedTies
import Derived.KernelRfl
namespace Go.Proofs.Ytlmnbmenhenomaa
/- THE CELL 'sum', in the pinned program and in every row, IS THE sha256 OF THE DUMP (.gsa) THAT YtlmnbmenhenomaaProg.lean LOADS. Nothing in Lean hashes anything: it is a label: what it is worth is what the hold of that sum in a sandbox is worth. -/
noncomputable def Try.pinned : Pinned := { name := "ytlmnbmenhenomaa", sum := "feaf38bba97d15f3c69b3e3e13423e4b7759efb44fc60e837a84424deeaf2acf", checked := Try.checked }
namespace Rows
def none {H : Type} : Left H := { results := [], args := [] }

/-- 'laws.FnExactIsRollTask': WHATEVER THE INPUT: true; the input reads as it did. -/
def fnExactIsRollTaskSpec : ChangeSpec := { name := "fnExactIsRollTask", fn := fun _ => fun
  | [d1, d2] => { results := [.lit (.bool true)], args := [d1, d2] }
  | _ => none }
def fnExactIsRollTaskRow : OpenClaim := { program := "ytlmnbmenhenomaa", sum := "feaf38bba97d15f3c69b3e3e13423e4b7759efb44fc60e837a84424deeaf2acf", func := "loop.example/g00944/laws.FnExactIsRollTask", spec := "fnExactIsRollTask", unfollowed := true, recurses := true, apart := false }
def FnExactIsRollTaskSaid : Prop := fnExactIsRollTaskRow.holds Try.pinned (OpenSpec.ofChange fnExactIsRollTaskSpec)

/-- ITS FALSE NEIGHBOUR: 'it returns false'. Refute it at one input. -/
def fnExactIsRollTaskWrong : ChangeSpec := { name := "fnExactIsRollTask", fn := fun _ => fun
  | [d1, d2] => { results := [.lit (.bool false)], args := [d1, d2] }
  | _ => none }
def FnExactIsRollTaskWrongFalsely : Prop := fnExactIsRollTaskRow.holds Try.pinned (OpenSpec.ofChange fnExactIsRollTaskWrong)

/-- 'laws.FnExactTurnTrim': WHATEVER THE INPUT: true; the input reads as it did. -/
def fnExactTurnTrimSpec : ChangeSpec := { name := "fnExactTurnTrim", fn := fun _ => fun
  | [d] => { results := [.lit (.bool true)], args := [d] }
  | _ => none }
def fnExactTurnTrimRow : OpenClaim := { program := "ytlmnbmenhenomaa", sum := "feaf38bba97d15f3c69b3e3e13423e4b7759efb44fc60e837a84424deeaf2acf", func := "loop.example/g00944/laws.FnExactTurnTrim", spec := "fnExactTurnTrim", apart := false }
def FnExactTurnTrimSaid : Prop := fnExactTurnTrimRow.holds Try.pinned (OpenSpec.ofChange fnExactTurnTrimSpec)

/-- ITS FALSE NEIGHBOUR: 'it returns false'. Refute it at one input. -/
def fnExactTurnTrimWrong : ChangeSpec := { name := "fnExactTurnTrim", fn := fun _ => fun
  | [d] => { results := [.lit (.bool false)], args := [d] }
  | _ => none }
def FnExactTurnTrimWrongFalsely : Prop := fnExactTurnTrimRow.holds Try.pinned (OpenSpec.ofChange fnExactTurnTrimWrong)

/-- 'laws.FnExactThicknessRange': WHATEVER THE INPUT: true; the input reads as it did. -/
def fnExactThicknessRangeSpec : ChangeSpec := { name := "fnExactThicknessRange", fn := fun _ => fun
  | [d1, d2] => { results := [.lit (.bool true)], args := [d1, d2] }
  | _ => none }
def fnExactThicknessRangeRow : OpenClaim := { program := "ytlmnbmenhenomaa", sum := "feaf38bba97d15f3c69b3e3e13423e4b7759efb44fc60e837a84424deeaf2acf", func := "loop.example/g00944/laws.FnExactThicknessRange", spec := "fnExactThicknessRange", apart := false }
def FnExactThicknessRangeSaid : Prop := fnExactThicknessRangeRow.holds Try.pinned (OpenSpec.ofChange fnExactThicknessRangeSpec)

/-- ITS FALSE NEIGHBOUR: 'it returns false'. Refute it at one input. -/
def fnExactThicknessRangeWrong : ChangeSpec := { name := "fnExactThicknessRange", fn := fun _ => fun
  | [d1, d2] => { results := [.lit (.bool false)], args := [d1, d2] }
  | _ => none }
def FnExactThicknessRangeWrongFalsely : Prop := fnExactThicknessRangeRow.holds Try.pinned (OpenSpec.ofChange fnExactThicknessRangeWrong)

/-- 'laws.FnExactIsGang': WHATEVER THE INPUT: true; the input reads as it did. -/
def fnExactIsGangSpec : ChangeSpec := { name := "fnExactIsGang", fn := fun _ => fun
  | [d1, d2] => { results := [.lit (.bool true)], args := [d1, d2] }
  | _ => none }
def fnExactIsGangRow : OpenClaim := { program := "ytlmnbmenhenomaa", sum := "feaf38bba97d15f3c69b3e3e13423e4b7759efb44fc60e837a84424deeaf2acf", func := "loop.example/g00944/laws.FnExactIsGang", spec := "fnExactIsGang", unfollowed := true, recurses := true, apart := false }
def FnExactIsGangSaid : Prop := fnExactIsGangRow.holds Try.pinned (OpenSpec.ofChange fnExactIsGangSpec)

/-- ITS FALSE NEIGHBOUR: 'it returns false'. Refute it at one input. -/
def fnExactIsGangWrong : ChangeSpec := { name := "fnExactIsGang", fn := fun _ => fun
  | [d1, d2] => { results := [.lit (.bool false)], args := [d1, d2] }
  | _ => none }
def FnExactIsGangWrongFalsely : Prop := fnExactIsGangRow.holds Try.pinned (OpenSpec.ofChange fnExactIsGangWrong)

/-- 'laws.FnExactCreepTenths': WHATEVER THE INPUT: true; the input reads as it did. -/
def fnExactCreepTenthsSpec : ChangeSpec := { name := "fnExactCreepTenths", fn := fun _ => fun
  | [d1, d2] => { results := [.lit (.bool true)], args := [d1, d2] }
  | _ => none }
def fnExactCreepTenthsRow : OpenClaim := { program := "ytlmnbmenhenomaa", sum := "feaf38bba97d15f3c69b3e3e13423e4b7759efb44fc60e837a84424deeaf2acf", func := "loop.example/g00944/laws.FnExactCreepTenths", spec := "fnExactCreepTenths", apart := false }
def FnExactCreepTenthsSaid : Prop := fnExactCreepTenthsRow.holds Try.pinned (OpenSpec.ofChange fnExactCreepTenthsSpec)

/-- ITS FALSE NEIGHBOUR: 'it returns false'. Refute it at one input. -/
def fnExactCreepTenthsWrong : ChangeSpec := { name := "fnExactCreepTenths", fn := fun _ => fun
  | [d1, d2] => { results := [.lit (.bool false)], args := [d1, d2] }
  | _ => none }
def FnExactCreepTenthsWrongFalsely : Prop := fnExactCreepTenthsRow.holds Try.pinned (OpenSpec.ofChange fnExactCreepTenthsWrong)

/-- 'laws.FnExactLeastSheet': WHATEVER THE INPUT: true; the input reads as it did. -/
def fnExactLeastSheetSpec : ChangeSpec := { name := "fnExactLeastSheet", fn := fun _ => fun
  | [d1, d2, d3, d4] => { results := [.lit (.bool true)], args := [d1, d2, d3, d4] }
  | _ => none }
def fnExactLeastSheetRow : OpenClaim := { program := "ytlmnbmenhenomaa", sum := "feaf38bba97d15f3c69b3e3e13423e4b7759efb44fc60e837a84424deeaf2acf", func := "loop.example/g00944/laws.FnExactLeastSheet", spec := "fnExactLeastSheet", apart := false }
def FnExactLeastSheetSaid : Prop := fnExactLeastSheetRow.holds Try.pinned (OpenSpec.ofChange fnExactLeastSheetSpec)

/-- ITS FALSE NEIGHBOUR: 'it returns false'. Refute it at one input. -/
def fnExactLeastSheetWrong : ChangeSpec := { name := "fnExactLeastSheet", fn := fun _ => fun
  | [d1, d2, d3, d4] => { results := [.lit (.bool false)], args := [d1, d2, d3, d4] }
  | _ => none }
def FnExactLeastSheetWrongFalsely : Prop := fnExactLeastSheetRow.holds Try.pinned (OpenSpec.ofChange fnExactLeastSheetWrong)

/-- 'laws.FnExactMarginsFor': WHATEVER THE INPUT: true; the input reads as it did. -/
def fnExactMarginsForSpec : ChangeSpec := { name := "fnExactMarginsFor", fn := fun _ => fun
  | [d1, d2, d3] => { results := [.lit (.bool true)], args := [d1, d2, d3] }
  | _ => none }
def fnExactMarginsForRow : OpenClaim := { program := "ytlmnbmenhenomaa", sum := "feaf38bba97d15f3c69b3e3e13423e4b7759efb44fc60e837a84424deeaf2acf", func := "loop.example/g00944/laws.FnExactMarginsFor", spec := "fnExactMarginsFor", apart := false }
def FnExactMarginsForSaid : Prop := fnExactMarginsForRow.holds Try.pinned (OpenSpec.ofChange fnExactMarginsForSpec)

/-- ITS FALSE NEIGHBOUR: 'it returns false'. Refute it at one input. -/
def fnExactMarginsForWrong : ChangeSpec := { name := "fnExactMarginsFor", fn := fun _ => fun
  | [d1, d2, d3] => { results := [.lit (.bool false)], args := [d1, d2, d3] }
  | _ => none }
def FnExactMarginsForWrongFalsely : Prop := fnExactMarginsForRow.holds Try.pinned (OpenSpec.ofChange fnExactMarginsForWrong)

/-- 'laws.FnExactCornerOf': WHATEVER THE INPUT: true; the input reads as it did. -/
def fnExactCornerOfSpec : ChangeSpec := { name := "fnExactCornerOf", fn := fun _ => fun
  | [d1, d2, d3, d4] => { results := [.lit (.bool true)], args := [d1, d2, d3, d4] }
  | _ => none }
def fnExactCornerOfRow : OpenClaim := { program := "ytlmnbmenhenomaa", sum := "feaf38bba97d15f3c69b3e3e13423e4b7759efb44fc60e837a84424deeaf2acf", func := "loop.example/g00944/laws.FnExactCornerOf", spec := "fnExactCornerOf", apart := false }
def FnExactCornerOfSaid : Prop := fnExactCornerOfRow.holds Try.pinned (OpenSpec.ofChange fnExactCornerOfSpec)

/-- ITS FALSE NEIGHBOUR: 'it returns false'. Refute it at one input. -/
def fnExactCornerOfWrong : ChangeSpec := { name := "fnExactCornerOf", fn := fun _ => fun
  | [d1, d2, d3, d4] => { results := [.lit (.bool false)], args := [d1, d2, d3, d4] }
  | _ => none }
def FnExactCornerOfWrongFalsely : Prop := fnExactCornerOfRow.holds Try.pinned (OpenSpec.ofChange fnExactCornerOfWrong)

/-- 'laws.FnExactIsCatalogue': WHATEVER THE INPUT: true; the input reads as it did. -/
def fnExactIsCatalogueSpec : ChangeSpec := { name := "fnExactIsCatalogue", fn := fun _ => fun
  | [d] => { results := [.lit (.bool true)], args := [d] }
  | _ => none }
def fnExactIsCatalogueRow : OpenClaim := { program := "ytlmnbmenhenomaa", sum := "feaf38bba97d15f3c69b3e3e13423e4b7759efb44fc60e837a84424deeaf2acf", func := "loop.example/g00944/laws.FnExactIsCatalogue", spec := "fnExactIsCatalogue", unfollowed := true, recurses := true, apart := false }
def FnExactIsCatalogueSaid : Prop := fnExactIsCatalogueRow.holds Try.pinned (OpenSpec.ofChange fnExactIsCatalogueSpec)

/-- ITS FALSE NEIGHBOUR: 'it returns false'. Refute it at one input. -/
def fnExactIsCatalogueWrong : ChangeSpec := { name := "fnExactIsCatalogue", fn := fun _ => fun
  | [d] => { results := [.lit (.bool false)], args := [d] }
  | _ => none }
def FnExactIsCatalogueWrongFalsely : Prop := fnExactIsCatalogueRow.holds Try.pinned (OpenSpec.ofChange fnExactIsCatalogueWrong)

/-- 'laws.FnExactGridOf': WHATEVER THE INPUT: true; the input reads as it did. -/
def fnExactGridOfSpec : ChangeSpec := { name := "fnExactGridOf", fn := fun _ => fun
  | [d1, d2] => { results := [.lit (.bool true)], args := [d1, d2] }
  | _ => none }
def fnExactGridOfRow : OpenClaim := { program := "ytlmnbmenhenomaa", sum := "feaf38bba97d15f3c69b3e3e13423e4b7759efb44fc60e837a84424deeaf2acf", func := "loop.example/g00944/laws.FnExactGridOf", spec := "fnExactGridOf", apart := false }
def FnExactGridOfSaid : Prop := fnExactGridOfRow.holds Try.pinned (OpenSpec.ofChange fnExactGridOfSpec)

/-- ITS FALSE NEIGHBOUR: 'it returns false'. Refute it at one input. -/
def fnExactGridOfWrong : ChangeSpec := { name := "fnExactGridOf", fn := fun _ => fun
  | [d1, d2] => { results := [.lit (.bool false)], args := [d1, d2] }
  | _ => none }
def FnExactGridOfWrongFalsely : Prop := fnExactGridOfRow.holds Try.pinned (OpenSpec.ofChange fnExactGridOfWrong)

/-- 'laws.FnExactWasteArea': WHATEVER THE INPUT: true; the input reads as it did. -/
def fnExactWasteAreaSpec : ChangeSpec := { name := "fnExactWasteArea", fn := fun _ => fun
  | [d1, d2] => { results := [.lit (.bool true)], args := [d1, d2] }
  | _ => none }
def fnExactWasteAreaRow : OpenClaim := { program := "ytlmnbmenhenomaa", sum := "feaf38bba97d15f3c69b3e3e13423e4b7759efb44fc60e837a84424deeaf2acf", func := "loop.example/g00944/laws.FnExactWasteArea", spec := "fnExactWasteArea", apart := false }
def FnExactWasteAreaSaid : Prop := fnExactWasteAreaRow.holds Try.pinned (OpenSpec.ofChange fnExactWasteAreaSpec)

/-- ITS FALSE NEIGHBOUR: 'it returns false'. Refute it at one input. -/
def fnExactWasteAreaWrong : ChangeSpec := { name := "fnExactWasteArea", fn := fun _ => fun
  | [d1, d2] => { results := [.lit (.bool false)], args := [d1, d2] }
  | _ => none }
def FnExactWasteAreaWrongFalsely : Prop := fnExactWasteAreaRow.holds Try.pinned (OpenSpec.ofChange fnExactWasteAreaWrong)

/-- 'laws.FnExactAreaOf': WHATEVER THE INPUT: true; the input reads as it did. -/
def fnExactAreaOfSpec : ChangeSpec := { name := "fnExactAreaOf", fn := fun _ => fun
  | [d] => { results := [.lit (.bool true)], args := [d] }
  | _ => none }
def fnExactAreaOfRow : OpenClaim := { program := "ytlmnbmenhenomaa", sum := "feaf38bba97d15f3c69b3e3e13423e4b7759efb44fc60e837a84424deeaf2acf", func := "loop.example/g00944/laws.FnExactAreaOf", spec := "fnExactAreaOf", unfollowed := true, recurses := true, apart := false }
def FnExactAreaOfSaid : Prop := fnExactAreaOfRow.holds Try.pinned (OpenSpec.ofChange fnExactAreaOfSpec)

/-- ITS FALSE NEIGHBOUR: 'it returns false'. Refute it at one input. -/
def fnExactAreaOfWrong : ChangeSpec := { name := "fnExactAreaOf", fn := fun _ => fun
  | [d] => { results := [.lit (.bool false)], args := [d] }
  | _ => none }
def FnExactAreaOfWrongFalsely : Prop := fnExactAreaOfRow.holds Try.pinned (OpenSpec.ofChange fnExactAreaOfWrong)

/- THE SECOND FORM. 'bulk': how many values and letters a reading holds, each counted each time it is reached (what is shared counts as often as it is met; a slice's spare places count too). A statement '..UptoSaid' is the law's where the arguments, and the package variables that the reading takes, are together of bulk at most 1048576: NARROWER than '..Said'. Prove '..Said' where nothing that the law and all that it calls make is longer than what came in: it says more and counts as full. Else prove '..UptoSaid'. A law counts once. -/
mutual
def uptoBulk {H : Type} : DataW H → Nat
  | .lit (.string bytes) => bytes.length + 1
  | .lit _ => 1
  | .nil => 1
  | .ptr d => uptoBulk d + 1
  | .slice elems spare => uptoBulkAll elems + uptoBulkAll spare + 1
  | .agg parts => uptoBulkAll parts + 1
  | .iface _ d => uptoBulk d + 1
  | .map entries => uptoBulkEntries entries + 1
  | .held _ => 1
def uptoBulkAll {H : Type} : List (DataW H) → Nat
  | [] => 0
  | d :: r => uptoBulk d + uptoBulkAll r
def uptoBulkEntries {H : Type} : List (Lit × DataW H) → Nat
  | [] => 0
  | x :: r => uptoBulkEntry x + uptoBulkEntries r
def uptoBulkEntry {H : Type} : Lit × DataW H → Nat
  | (.string bytes, d) => bytes.length + uptoBulk d + 1
  | (_, d) => uptoBulk d + 1
 end
def uptoSmall : (H : Type) → List (DataW H) → Bool := fun _ ds => decide (uptoBulkAll ds ≤ 1048576)
def OpenSpec.upto (s : _root_.Go.ChangeSpec) : _root_.Go.OpenSpec := { _root_.Go.OpenSpec.ofChange s with cond := some uptoSmall }

/-- 'laws.FnExactIsRollTask', WHERE WHAT IT READS IS OF BULK AT MOST 1048576: true; the input reads as it did. -/
def fnExactIsRollTaskUptoRow : OpenClaim := { program := "ytlmnbmenhenomaa", sum := "feaf38bba97d15f3c69b3e3e13423e4b7759efb44fc60e837a84424deeaf2acf", func := "loop.example/g00944/laws.FnExactIsRollTask", spec := "fnExactIsRollTask", unfollowed := true, recurses := true, apart := false, narrowed := true }
def FnExactIsRollTaskUptoSaid : Prop := fnExactIsRollTaskUptoRow.holds Try.pinned (OpenSpec.upto fnExactIsRollTaskSpec)

/-- 'laws.FnExactTurnTrim', WHERE WHAT IT READS IS OF BULK AT MOST 1048576: true; the input reads as it did. -/
def fnExactTurnTrimUptoRow : OpenClaim := { program := "ytlmnbmenhenomaa", sum := "feaf38bba97d15f3c69b3e3e13423e4b7759efb44fc60e837a84424deeaf2acf", func := "loop.example/g00944/laws.FnExactTurnTrim", spec := "fnExactTurnTrim", apart := false, narrowed := true }
def FnExactTurnTrimUptoSaid : Prop := fnExactTurnTrimUptoRow.holds Try.pinned (OpenSpec.upto fnExactTurnTrimSpec)

/-- 'laws.FnExactThicknessRange', WHERE WHAT IT READS IS OF BULK AT MOST 1048576: true; the input reads as it did. -/
def fnExactThicknessRangeUptoRow : OpenClaim := { program := "ytlmnbmenhenomaa", sum := "feaf38bba97d15f3c69b3e3e13423e4b7759efb44fc60e837a84424deeaf2acf", func := "loop.example/g00944/laws.FnExactThicknessRange", spec := "fnExactThicknessRange", apart := false, narrowed := true }
def FnExactThicknessRangeUptoSaid : Prop := fnExactThicknessRangeUptoRow.holds Try.pinned (OpenSpec.upto fnExactThicknessRangeSpec)

/-- 'laws.FnExactIsGang', WHERE WHAT IT READS IS OF BULK AT MOST 1048576: true; the input reads as it did. -/
def fnExactIsGangUptoRow : OpenClaim := { program := "ytlmnbmenhenomaa", sum := "feaf38bba97d15f3c69b3e3e13423e4b7759efb44fc60e837a84424deeaf2acf", func := "loop.example/g00944/laws.FnExactIsGang", spec := "fnExactIsGang", unfollowed := true, recurses := true, apart := false, narrowed := true }
def FnExactIsGangUptoSaid : Prop := fnExactIsGangUptoRow.holds Try.pinned (OpenSpec.upto fnExactIsGangSpec)

/-- 'laws.FnExactCreepTenths', WHERE WHAT IT READS IS OF BULK AT MOST 1048576: true; the input reads as it did. -/
def fnExactCreepTenthsUptoRow : OpenClaim := { program := "ytlmnbmenhenomaa", sum := "feaf38bba97d15f3c69b3e3e13423e4b7759efb44fc60e837a84424deeaf2acf", func := "loop.example/g00944/laws.FnExactCreepTenths", spec := "fnExactCreepTenths", apart := false, narrowed := true }
def FnExactCreepTenthsUptoSaid : Prop := fnExactCreepTenthsUptoRow.holds Try.pinned (OpenSpec.upto fnExactCreepTenthsSpec)

/-- 'laws.FnExactLeastSheet', WHERE WHAT IT READS IS OF BULK AT MOST 1048576: true; the input reads as it did. -/
def fnExactLeastSheetUptoRow : OpenClaim := { program := "ytlmnbmenhenomaa", sum := "feaf38bba97d15f3c69b3e3e13423e4b7759efb44fc60e837a84424deeaf2acf", func := "loop.example/g00944/laws.FnExactLeastSheet", spec := "fnExactLeastSheet", apart := false, narrowed := true }
def FnExactLeastSheetUptoSaid : Prop := fnExactLeastSheetUptoRow.holds Try.pinned (OpenSpec.upto fnExactLeastSheetSpec)

/-- 'laws.FnExactMarginsFor', WHERE WHAT IT READS IS OF BULK AT MOST 1048576: true; the input reads as it did. -/
def fnExactMarginsForUptoRow : OpenClaim := { program := "ytlmnbmenhenomaa", sum := "feaf38bba97d15f3c69b3e3e13423e4b7759efb44fc60e837a84424deeaf2acf", func := "loop.example/g00944/laws.FnExactMarginsFor", spec := "fnExactMarginsFor", apart := false, narrowed := true }
def FnExactMarginsForUptoSaid : Prop := fnExactMarginsForUptoRow.holds Try.pinned (OpenSpec.upto fnExactMarginsForSpec)

/-- 'laws.FnExactCornerOf', WHERE WHAT IT READS IS OF BULK AT MOST 1048576: true; the input reads as it did. -/
def fnExactCornerOfUptoRow : OpenClaim := { program := "ytlmnbmenhenomaa", sum := "feaf38bba97d15f3c69b3e3e13423e4b7759efb44fc60e837a84424deeaf2acf", func := "loop.example/g00944/laws.FnExactCornerOf", spec := "fnExactCornerOf", apart := false, narrowed := true }
def FnExactCornerOfUptoSaid : Prop := fnExactCornerOfUptoRow.holds Try.pinned (OpenSpec.upto fnExactCornerOfSpec)

/-- 'laws.FnExactIsCatalogue', WHERE WHAT IT READS IS OF BULK AT MOST 1048576: true; the input reads as it did. -/
def fnExactIsCatalogueUptoRow : OpenClaim := { program := "ytlmnbmenhenomaa", sum := "feaf38bba97d15f3c69b3e3e13423e4b7759efb44fc60e837a84424deeaf2acf", func := "loop.example/g00944/laws.FnExactIsCatalogue", spec := "fnExactIsCatalogue", unfollowed := true, recurses := true, apart := false, narrowed := true }
def FnExactIsCatalogueUptoSaid : Prop := fnExactIsCatalogueUptoRow.holds Try.pinned (OpenSpec.upto fnExactIsCatalogueSpec)

/-- 'laws.FnExactGridOf', WHERE WHAT IT READS IS OF BULK AT MOST 1048576: true; the input reads as it did. -/
def fnExactGridOfUptoRow : OpenClaim := { program := "ytlmnbmenhenomaa", sum := "feaf38bba97d15f3c69b3e3e13423e4b7759efb44fc60e837a84424deeaf2acf", func := "loop.example/g00944/laws.FnExactGridOf", spec := "fnExactGridOf", apart := false, narrowed := true }
def FnExactGridOfUptoSaid : Prop := fnExactGridOfUptoRow.holds Try.pinned (OpenSpec.upto fnExactGridOfSpec)

/-- 'laws.FnExactWasteArea', WHERE WHAT IT READS IS OF BULK AT MOST 1048576: true; the input reads as it did. -/
def fnExactWasteAreaUptoRow : OpenClaim := { program := "ytlmnbmenhenomaa", sum := "feaf38bba97d15f3c69b3e3e13423e4b7759efb44fc60e837a84424deeaf2acf", func := "loop.example/g00944/laws.FnExactWasteArea", spec := "fnExactWasteArea", apart := false, narrowed := true }
def FnExactWasteAreaUptoSaid : Prop := fnExactWasteAreaUptoRow.holds Try.pinned (OpenSpec.upto fnExactWasteAreaSpec)

/-- 'laws.FnExactAreaOf', WHERE WHAT IT READS IS OF BULK AT MOST 1048576: true; the input reads as it did. -/
def fnExactAreaOfUptoRow : OpenClaim := { program := "ytlmnbmenhenomaa", sum := "feaf38bba97d15f3c69b3e3e13423e4b7759efb44fc60e837a84424deeaf2acf", func := "loop.example/g00944/laws.FnExactAreaOf", spec := "fnExactAreaOf", unfollowed := true, recurses := true, apart := false, narrowed := true }
def FnExactAreaOfUptoSaid : Prop := fnExactAreaOfUptoRow.holds Try.pinned (OpenSpec.upto fnExactAreaOfSpec)

end Rows
end Go.Proofs.Ytlmnbmenhenomaa
