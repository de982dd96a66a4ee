/-
  No cell of these rows narrows 'for every input' (looked for: loops, veiled, ifaces, maps, wideKeys, modest, calm, conditions, laid).
  DERIVED. THE GIVEN ROWS OF THIS SEAT. 12 by the template 'for every input the law returns true; each argument reads behind the call as it read before'; 0 by the template 'total and deterministic' (their statements: YtbkeajifeaeccaaTotals.lean).
  GIVEN WITH THE SEED: the statements are not yours to turn. If you find one false, say at which input.
  Laid BY PROGRAM, IN A SANDBOX (cutbox-rows.mjs): the forced cells as the released guide's own fill.sh prints them over the translation 92eecac21e135a64… (all of the seat's roots in one cut). By AI agents, Wed Nov 11 2026. No macro, syntax, notation, axiom, sorry.
-/
import Derived.Test.YtbkeajifeaeccaaChecked
import GoSem.Claim
import GoSem.ClaimJoined
import GoSem.ClaimMapViews
import Derived.JoinedTies
import Derived.KernelRfl
namespace Go.Proofs.Ytbkeajifeaeccaa
/- THE CELL 'sum', in the pinned program and in every row, IS THE sha256 OF THE DUMP (.gsa) THAT YtbkeajifeaeccaaProg.lean LOADS. Nothing in Lean hashes anything: it is a label: what it is worth is what the hold of that sum in a sandbox is worth. -/
noncomputable def Try.pinned : Pinned := { name := "ytbkeajifeaeccaa", sum := "92eecac21e135a642e0019ebd38170d2cdeba792c3480fd68d74bdff7486036b", checked := Try.checked }
namespace Rows
def none {H : Type} : Left H := { results := [], args := [] }

/-- 'laws.FnExactRollBound': WHATEVER THE INPUT: true; the input reads as it did. -/
def fnExactRollBoundSpec : ChangeSpec := { name := "fnExactRollBound", fn := fun _ => fun
  | [d1, d2] => { results := [.lit (.bool true)], args := [d1, d2] }
  | _ => none }
def fnExactRollBoundRow : OpenClaim := { program := "ytbkeajifeaeccaa", sum := "92eecac21e135a642e0019ebd38170d2cdeba792c3480fd68d74bdff7486036b", func := "loop.example/g00944/laws.FnExactRollBound", spec := "fnExactRollBound", unfollowed := true, recurses := true, apart := false }
def FnExactRollBoundSaid : Prop := fnExactRollBoundRow.holds Try.pinned (OpenSpec.ofChange fnExactRollBoundSpec)

/-- ITS FALSE NEIGHBOUR: 'it returns false'. Refute it at one input. -/
def fnExactRollBoundWrong : ChangeSpec := { name := "fnExactRollBound", fn := fun _ => fun
  | [d1, d2] => { results := [.lit (.bool false)], args := [d1, d2] }
  | _ => none }
def FnExactRollBoundWrongFalsely : Prop := fnExactRollBoundRow.holds Try.pinned (OpenSpec.ofChange fnExactRollBoundWrong)

/-- 'laws.FnExactBestGrid': WHATEVER THE INPUT: true; the input reads as it did. -/
def fnExactBestGridSpec : ChangeSpec := { name := "fnExactBestGrid", fn := fun _ => fun
  | [d1, d2, d3] => { results := [.lit (.bool true)], args := [d1, d2, d3] }
  | _ => none }
def fnExactBestGridRow : OpenClaim := { program := "ytbkeajifeaeccaa", sum := "92eecac21e135a642e0019ebd38170d2cdeba792c3480fd68d74bdff7486036b", func := "loop.example/g00944/laws.FnExactBestGrid", spec := "fnExactBestGrid", apart := false }
def FnExactBestGridSaid : Prop := fnExactBestGridRow.holds Try.pinned (OpenSpec.ofChange fnExactBestGridSpec)

/-- ITS FALSE NEIGHBOUR: 'it returns false'. Refute it at one input. -/
def fnExactBestGridWrong : ChangeSpec := { name := "fnExactBestGrid", fn := fun _ => fun
  | [d1, d2, d3] => { results := [.lit (.bool false)], args := [d1, d2, d3] }
  | _ => none }
def FnExactBestGridWrongFalsely : Prop := fnExactBestGridRow.holds Try.pinned (OpenSpec.ofChange fnExactBestGridWrong)

/-- 'laws.FnExactCountPieces': WHATEVER THE INPUT: true; the input reads as it did. -/
def fnExactCountPiecesSpec : ChangeSpec := { name := "fnExactCountPieces", fn := fun _ => fun
  | [d1, d2] => { results := [.lit (.bool true)], args := [d1, d2] }
  | _ => none }
def fnExactCountPiecesRow : OpenClaim := { program := "ytbkeajifeaeccaa", sum := "92eecac21e135a642e0019ebd38170d2cdeba792c3480fd68d74bdff7486036b", func := "loop.example/g00944/laws.FnExactCountPieces", spec := "fnExactCountPieces", unfollowed := true, recurses := true, apart := false }
def FnExactCountPiecesSaid : Prop := fnExactCountPiecesRow.holds Try.pinned (OpenSpec.ofChange fnExactCountPiecesSpec)

/-- ITS FALSE NEIGHBOUR: 'it returns false'. Refute it at one input. -/
def fnExactCountPiecesWrong : ChangeSpec := { name := "fnExactCountPieces", fn := fun _ => fun
  | [d1, d2] => { results := [.lit (.bool false)], args := [d1, d2] }
  | _ => none }
def FnExactCountPiecesWrongFalsely : Prop := fnExactCountPiecesRow.holds Try.pinned (OpenSpec.ofChange fnExactCountPiecesWrong)

/-- 'laws.FnExactCanCut': WHATEVER THE INPUT: true; the input reads as it did. -/
def fnExactCanCutSpec : ChangeSpec := { name := "fnExactCanCut", fn := fun _ => fun
  | [d1, d2] => { results := [.lit (.bool true)], args := [d1, d2] }
  | _ => none }
def fnExactCanCutRow : OpenClaim := { program := "ytbkeajifeaeccaa", sum := "92eecac21e135a642e0019ebd38170d2cdeba792c3480fd68d74bdff7486036b", func := "loop.example/g00944/laws.FnExactCanCut", spec := "fnExactCanCut", unfollowed := true, recurses := true, apart := false }
def FnExactCanCutSaid : Prop := fnExactCanCutRow.holds Try.pinned (OpenSpec.ofChange fnExactCanCutSpec)

/-- ITS FALSE NEIGHBOUR: 'it returns false'. Refute it at one input. -/
def fnExactCanCutWrong : ChangeSpec := { name := "fnExactCanCut", fn := fun _ => fun
  | [d1, d2] => { results := [.lit (.bool false)], args := [d1, d2] }
  | _ => none }
def FnExactCanCutWrongFalsely : Prop := fnExactCanCutRow.holds Try.pinned (OpenSpec.ofChange fnExactCanCutWrong)

/-- 'laws.FnExactIsPacking': WHATEVER THE INPUT: true; the input reads as it did. -/
def fnExactIsPackingSpec : ChangeSpec := { name := "fnExactIsPacking", fn := fun _ => fun
  | [d1, d2, d3] => { results := [.lit (.bool true)], args := [d1, d2, d3] }
  | _ => none }
def fnExactIsPackingRow : OpenClaim := { program := "ytbkeajifeaeccaa", sum := "92eecac21e135a642e0019ebd38170d2cdeba792c3480fd68d74bdff7486036b", func := "loop.example/g00944/laws.FnExactIsPacking", spec := "fnExactIsPacking", unfollowed := true, recurses := true, apart := false }
def FnExactIsPackingSaid : Prop := fnExactIsPackingRow.holds Try.pinned (OpenSpec.ofChange fnExactIsPackingSpec)

/-- ITS FALSE NEIGHBOUR: 'it returns false'. Refute it at one input. -/
def fnExactIsPackingWrong : ChangeSpec := { name := "fnExactIsPacking", fn := fun _ => fun
  | [d1, d2, d3] => { results := [.lit (.bool false)], args := [d1, d2, d3] }
  | _ => none }
def FnExactIsPackingWrongFalsely : Prop := fnExactIsPackingRow.holds Try.pinned (OpenSpec.ofChange fnExactIsPackingWrong)

/-- 'laws.FnExactBestUnits': WHATEVER THE INPUT: true; the input reads as it did. -/
def fnExactBestUnitsSpec : ChangeSpec := { name := "fnExactBestUnits", fn := fun _ => fun
  | [d1, d2] => { results := [.lit (.bool true)], args := [d1, d2] }
  | _ => none }
def fnExactBestUnitsRow : OpenClaim := { program := "ytbkeajifeaeccaa", sum := "92eecac21e135a642e0019ebd38170d2cdeba792c3480fd68d74bdff7486036b", func := "loop.example/g00944/laws.FnExactBestUnits", spec := "fnExactBestUnits", unfollowed := true, recurses := true, apart := false }
def FnExactBestUnitsSaid : Prop := fnExactBestUnitsRow.holds Try.pinned (OpenSpec.ofChange fnExactBestUnitsSpec)

/-- ITS FALSE NEIGHBOUR: 'it returns false'. Refute it at one input. -/
def fnExactBestUnitsWrong : ChangeSpec := { name := "fnExactBestUnits", fn := fun _ => fun
  | [d1, d2] => { results := [.lit (.bool false)], args := [d1, d2] }
  | _ => none }
def FnExactBestUnitsWrongFalsely : Prop := fnExactBestUnitsRow.holds Try.pinned (OpenSpec.ofChange fnExactBestUnitsWrong)

/-- 'laws.FnExactDensityBound': WHATEVER THE INPUT: true; the input reads as it did. -/
def fnExactDensityBoundSpec : ChangeSpec := { name := "fnExactDensityBound", fn := fun _ => fun
  | [d1, d2, d3] => { results := [.lit (.bool true)], args := [d1, d2, d3] }
  | _ => none }
def fnExactDensityBoundRow : OpenClaim := { program := "ytbkeajifeaeccaa", sum := "92eecac21e135a642e0019ebd38170d2cdeba792c3480fd68d74bdff7486036b", func := "loop.example/g00944/laws.FnExactDensityBound", spec := "fnExactDensityBound", unfollowed := true, recurses := true, apart := false }
def FnExactDensityBoundSaid : Prop := fnExactDensityBoundRow.holds Try.pinned (OpenSpec.ofChange fnExactDensityBoundSpec)

/-- ITS FALSE NEIGHBOUR: 'it returns false'. Refute it at one input. -/
def fnExactDensityBoundWrong : ChangeSpec := { name := "fnExactDensityBound", fn := fun _ => fun
  | [d1, d2, d3] => { results := [.lit (.bool false)], args := [d1, d2, d3] }
  | _ => none }
def FnExactDensityBoundWrongFalsely : Prop := fnExactDensityBoundRow.holds Try.pinned (OpenSpec.ofChange fnExactDensityBoundWrong)

/-- 'laws.FnExactRunFor': WHATEVER THE INPUT: true; the input reads as it did. -/
def fnExactRunForSpec : ChangeSpec := { name := "fnExactRunFor", fn := fun _ => fun
  | [d1, d2, d3] => { results := [.lit (.bool true)], args := [d1, d2, d3] }
  | _ => none }
def fnExactRunForRow : OpenClaim := { program := "ytbkeajifeaeccaa", sum := "92eecac21e135a642e0019ebd38170d2cdeba792c3480fd68d74bdff7486036b", func := "loop.example/g00944/laws.FnExactRunFor", spec := "fnExactRunFor", unfollowed := true, recurses := true, apart := false }
def FnExactRunForSaid : Prop := fnExactRunForRow.holds Try.pinned (OpenSpec.ofChange fnExactRunForSpec)

/-- ITS FALSE NEIGHBOUR: 'it returns false'. Refute it at one input. -/
def fnExactRunForWrong : ChangeSpec := { name := "fnExactRunFor", fn := fun _ => fun
  | [d1, d2, d3] => { results := [.lit (.bool false)], args := [d1, d2, d3] }
  | _ => none }
def FnExactRunForWrongFalsely : Prop := fnExactRunForRow.holds Try.pinned (OpenSpec.ofChange fnExactRunForWrong)

/-- 'laws.FnExactFirstFit': WHATEVER THE INPUT: true; the input reads as it did. -/
def fnExactFirstFitSpec : ChangeSpec := { name := "fnExactFirstFit", fn := fun _ => fun
  | [d1, d2] => { results := [.lit (.bool true)], args := [d1, d2] }
  | _ => none }
def fnExactFirstFitRow : OpenClaim := { program := "ytbkeajifeaeccaa", sum := "92eecac21e135a642e0019ebd38170d2cdeba792c3480fd68d74bdff7486036b", func := "loop.example/g00944/laws.FnExactFirstFit", spec := "fnExactFirstFit", unfollowed := true, recurses := true, apart := false }
def FnExactFirstFitSaid : Prop := fnExactFirstFitRow.holds Try.pinned (OpenSpec.ofChange fnExactFirstFitSpec)

/-- ITS FALSE NEIGHBOUR: 'it returns false'. Refute it at one input. -/
def fnExactFirstFitWrong : ChangeSpec := { name := "fnExactFirstFit", fn := fun _ => fun
  | [d1, d2] => { results := [.lit (.bool false)], args := [d1, d2] }
  | _ => none }
def FnExactFirstFitWrongFalsely : Prop := fnExactFirstFitRow.holds Try.pinned (OpenSpec.ofChange fnExactFirstFitWrong)

/-- 'laws.FnExactGatherPages': WHATEVER THE INPUT: true; the input reads as it did. -/
def fnExactGatherPagesSpec : ChangeSpec := { name := "fnExactGatherPages", fn := fun _ => fun
  | [d1, d2, d3] => { results := [.lit (.bool true)], args := [d1, d2, d3] }
  | _ => none }
def fnExactGatherPagesRow : OpenClaim := { program := "ytbkeajifeaeccaa", sum := "92eecac21e135a642e0019ebd38170d2cdeba792c3480fd68d74bdff7486036b", func := "loop.example/g00944/laws.FnExactGatherPages", spec := "fnExactGatherPages", apart := false }
def FnExactGatherPagesSaid : Prop := fnExactGatherPagesRow.holds Try.pinned (OpenSpec.ofChange fnExactGatherPagesSpec)

/-- ITS FALSE NEIGHBOUR: 'it returns false'. Refute it at one input. -/
def fnExactGatherPagesWrong : ChangeSpec := { name := "fnExactGatherPages", fn := fun _ => fun
  | [d1, d2, d3] => { results := [.lit (.bool false)], args := [d1, d2, d3] }
  | _ => none }
def FnExactGatherPagesWrongFalsely : Prop := fnExactGatherPagesRow.holds Try.pinned (OpenSpec.ofChange fnExactGatherPagesWrong)

/-- 'laws.FnExactGridCuts': WHATEVER THE INPUT: true; the input reads as it did. -/
def fnExactGridCutsSpec : ChangeSpec := { name := "fnExactGridCuts", fn := fun _ => fun
  | [d1, d2, d3, d4] => { results := [.lit (.bool true)], args := [d1, d2, d3, d4] }
  | _ => none }
def fnExactGridCutsRow : OpenClaim := { program := "ytbkeajifeaeccaa", sum := "92eecac21e135a642e0019ebd38170d2cdeba792c3480fd68d74bdff7486036b", func := "loop.example/g00944/laws.FnExactGridCuts", spec := "fnExactGridCuts", apart := false }
def FnExactGridCutsSaid : Prop := fnExactGridCutsRow.holds Try.pinned (OpenSpec.ofChange fnExactGridCutsSpec)

/-- ITS FALSE NEIGHBOUR: 'it returns false'. Refute it at one input. -/
def fnExactGridCutsWrong : ChangeSpec := { name := "fnExactGridCuts", fn := fun _ => fun
  | [d1, d2, d3, d4] => { results := [.lit (.bool false)], args := [d1, d2, d3, d4] }
  | _ => none }
def FnExactGridCutsWrongFalsely : Prop := fnExactGridCutsRow.holds Try.pinned (OpenSpec.ofChange fnExactGridCutsWrong)

/-- 'laws.FnExactUpsFor': WHATEVER THE INPUT: true; the input reads as it did. -/
def fnExactUpsForSpec : ChangeSpec := { name := "fnExactUpsFor", fn := fun _ => fun
  | [d1, d2, d3] => { results := [.lit (.bool true)], args := [d1, d2, d3] }
  | _ => none }
def fnExactUpsForRow : OpenClaim := { program := "ytbkeajifeaeccaa", sum := "92eecac21e135a642e0019ebd38170d2cdeba792c3480fd68d74bdff7486036b", func := "loop.example/g00944/laws.FnExactUpsFor", spec := "fnExactUpsFor", unfollowed := true, recurses := true, apart := false }
def FnExactUpsForSaid : Prop := fnExactUpsForRow.holds Try.pinned (OpenSpec.ofChange fnExactUpsForSpec)

/-- ITS FALSE NEIGHBOUR: 'it returns false'. Refute it at one input. -/
def fnExactUpsForWrong : ChangeSpec := { name := "fnExactUpsFor", fn := fun _ => fun
  | [d1, d2, d3] => { results := [.lit (.bool false)], args := [d1, d2, d3] }
  | _ => none }
def FnExactUpsForWrongFalsely : Prop := fnExactUpsForRow.holds Try.pinned (OpenSpec.ofChange fnExactUpsForWrong)

/- THE SECOND FORM. 'bulk': how many values and letters a reading holds, each counted each time it is reached (what is shared counts as often as it is met; a slice's spare places count too). A statement '..UptoSaid' is the law's where the arguments, and the package variables that the reading takes, are together of bulk at most 1048576: NARROWER than '..Said'. Prove '..Said' where nothing that the law and all that it calls make is longer than what came in: it says more and counts as full. Else prove '..UptoSaid'. A law counts once. -/
mutual
def uptoBulk {H : Type} : DataW H → Nat
  | .lit (.string bytes) => bytes.length + 1
  | .lit _ => 1
  | .nil => 1
  | .ptr d => uptoBulk d + 1
  | .slice elems spare => uptoBulkAll elems + uptoBulkAll spare + 1
  | .agg parts => uptoBulkAll parts + 1
  | .iface _ d => uptoBulk d + 1
  | .map entries => uptoBulkEntries entries + 1
  | .held _ => 1
def uptoBulkAll {H : Type} : List (DataW H) → Nat
  | [] => 0
  | d :: r => uptoBulk d + uptoBulkAll r
def uptoBulkEntries {H : Type} : List (Lit × DataW H) → Nat
  | [] => 0
  | x :: r => uptoBulkEntry x + uptoBulkEntries r
def uptoBulkEntry {H : Type} : Lit × DataW H → Nat
  | (.string bytes, d) => bytes.length + uptoBulk d + 1
  | (_, d) => uptoBulk d + 1
 end
def uptoSmall : (H : Type) → List (DataW H) → Bool := fun _ ds => decide (uptoBulkAll ds ≤ 1048576)
def OpenSpec.upto (s : _root_.Go.ChangeSpec) : _root_.Go.OpenSpec := { _root_.Go.OpenSpec.ofChange s with cond := some uptoSmall }

/-- 'laws.FnExactRollBound', WHERE WHAT IT READS IS OF BULK AT MOST 1048576: true; the input reads as it did. -/
def fnExactRollBoundUptoRow : OpenClaim := { program := "ytbkeajifeaeccaa", sum := "92eecac21e135a642e0019ebd38170d2cdeba792c3480fd68d74bdff7486036b", func := "loop.example/g00944/laws.FnExactRollBound", spec := "fnExactRollBound", unfollowed := true, recurses := true, apart := false, narrowed := true }
def FnExactRollBoundUptoSaid : Prop := fnExactRollBoundUptoRow.holds Try.pinned (OpenSpec.upto fnExactRollBoundSpec)

/-- 'laws.FnExactBestGrid', WHERE WHAT IT READS IS OF BULK AT MOST 1048576: true; the input reads as it did. -/
def fnExactBestGridUptoRow : OpenClaim := { program := "ytbkeajifeaeccaa", sum := "92eecac21e135a642e0019ebd38170d2cdeba792c3480fd68d74bdff7486036b", func := "loop.example/g00944/laws.FnExactBestGrid", spec := "fnExactBestGrid", apart := false, narrowed := true }
def FnExactBestGridUptoSaid : Prop := fnExactBestGridUptoRow.holds Try.pinned (OpenSpec.upto fnExactBestGridSpec)

/-- 'laws.FnExactCountPieces', WHERE WHAT IT READS IS OF BULK AT MOST 1048576: true; the input reads as it did. -/
def fnExactCountPiecesUptoRow : OpenClaim := { program := "ytbkeajifeaeccaa", sum := "92eecac21e135a642e0019ebd38170d2cdeba792c3480fd68d74bdff7486036b", func := "loop.example/g00944/laws.FnExactCountPieces", spec := "fnExactCountPieces", unfollowed := true, recurses := true, apart := false, narrowed := true }
def FnExactCountPiecesUptoSaid : Prop := fnExactCountPiecesUptoRow.holds Try.pinned (OpenSpec.upto fnExactCountPiecesSpec)

/-- 'laws.FnExactCanCut', WHERE WHAT IT READS IS OF BULK AT MOST 1048576: true; the input reads as it did. -/
def fnExactCanCutUptoRow : OpenClaim := { program := "ytbkeajifeaeccaa", sum := "92eecac21e135a642e0019ebd38170d2cdeba792c3480fd68d74bdff7486036b", func := "loop.example/g00944/laws.FnExactCanCut", spec := "fnExactCanCut", unfollowed := true, recurses := true, apart := false, narrowed := true }
def FnExactCanCutUptoSaid : Prop := fnExactCanCutUptoRow.holds Try.pinned (OpenSpec.upto fnExactCanCutSpec)

/-- 'laws.FnExactIsPacking', WHERE WHAT IT READS IS OF BULK AT MOST 1048576: true; the input reads as it did. -/
def fnExactIsPackingUptoRow : OpenClaim := { program := "ytbkeajifeaeccaa", sum := "92eecac21e135a642e0019ebd38170d2cdeba792c3480fd68d74bdff7486036b", func := "loop.example/g00944/laws.FnExactIsPacking", spec := "fnExactIsPacking", unfollowed := true, recurses := true, apart := false, narrowed := true }
def FnExactIsPackingUptoSaid : Prop := fnExactIsPackingUptoRow.holds Try.pinned (OpenSpec.upto fnExactIsPackingSpec)

/-- 'laws.FnExactBestUnits', WHERE WHAT IT READS IS OF BULK AT MOST 1048576: true; the input reads as it did. -/
def fnExactBestUnitsUptoRow : OpenClaim := { program := "ytbkeajifeaeccaa", sum := "92eecac21e135a642e0019ebd38170d2cdeba792c3480fd68d74bdff7486036b", func := "loop.example/g00944/laws.FnExactBestUnits", spec := "fnExactBestUnits", unfollowed := true, recurses := true, apart := false, narrowed := true }
def FnExactBestUnitsUptoSaid : Prop := fnExactBestUnitsUptoRow.holds Try.pinned (OpenSpec.upto fnExactBestUnitsSpec)

/-- 'laws.FnExactDensityBound', WHERE WHAT IT READS IS OF BULK AT MOST 1048576: true; the input reads as it did. -/
def fnExactDensityBoundUptoRow : OpenClaim := { program := "ytbkeajifeaeccaa", sum := "92eecac21e135a642e0019ebd38170d2cdeba792c3480fd68d74bdff7486036b", func := "loop.example/g00944/laws.FnExactDensityBound", spec := "fnExactDensityBound", unfollowed := true, recurses := true, apart := false, narrowed := true }
def FnExactDensityBoundUptoSaid : Prop := fnExactDensityBoundUptoRow.holds Try.pinned (OpenSpec.upto fnExactDensityBoundSpec)

/-- 'laws.FnExactRunFor', WHERE WHAT IT READS IS OF BULK AT MOST 1048576: true; the input reads as it did. -/
def fnExactRunForUptoRow : OpenClaim := { program := "ytbkeajifeaeccaa", sum := "92eecac21e135a642e0019ebd38170d2cdeba792c3480fd68d74bdff7486036b", func := "loop.example/g00944/laws.FnExactRunFor", spec := "fnExactRunFor", unfollowed := true, recurses := true, apart := false, narrowed := true }
def FnExactRunForUptoSaid : Prop := fnExactRunForUptoRow.holds Try.pinned (OpenSpec.upto fnExactRunForSpec)

/-- 'laws.FnExactFirstFit', WHERE WHAT IT READS IS OF BULK AT MOST 1048576: true; the input reads as it did. -/
def fnExactFirstFitUptoRow : OpenClaim := { program := "ytbkeajifeaeccaa", sum := "92eecac21e135a642e0019ebd38170d2cdeba792c3480fd68d74bdff7486036b", func := "loop.example/g00944/laws.FnExactFirstFit", spec := "fnExactFirstFit", unfollowed := true, recurses := true, apart := false, narrowed := true }
def FnExactFirstFitUptoSaid : Prop := fnExactFirstFitUptoRow.holds Try.pinned (OpenSpec.upto fnExactFirstFitSpec)

/-- 'laws.FnExactGatherPages', WHERE WHAT IT READS IS OF BULK AT MOST 1048576: true; the input reads as it did. -/
def fnExactGatherPagesUptoRow : OpenClaim := { program := "ytbkeajifeaeccaa", sum := "92eecac21e135a642e0019ebd38170d2cdeba792c3480fd68d74bdff7486036b", func := "loop.example/g00944/laws.FnExactGatherPages", spec := "fnExactGatherPages", apart := false, narrowed := true }
def FnExactGatherPagesUptoSaid : Prop := fnExactGatherPagesUptoRow.holds Try.pinned (OpenSpec.upto fnExactGatherPagesSpec)

/-- 'laws.FnExactGridCuts', WHERE WHAT IT READS IS OF BULK AT MOST 1048576: true; the input reads as it did. -/
def fnExactGridCutsUptoRow : OpenClaim := { program := "ytbkeajifeaeccaa", sum := "92eecac21e135a642e0019ebd38170d2cdeba792c3480fd68d74bdff7486036b", func := "loop.example/g00944/laws.FnExactGridCuts", spec := "fnExactGridCuts", apart := false, narrowed := true }
def FnExactGridCutsUptoSaid : Prop := fnExactGridCutsUptoRow.holds Try.pinned (OpenSpec.upto fnExactGridCutsSpec)

/-- 'laws.FnExactUpsFor', WHERE WHAT IT READS IS OF BULK AT MOST 1048576: true; the input reads as it did. -/
def fnExactUpsForUptoRow : OpenClaim := { program := "ytbkeajifeaeccaa", sum := "92eecac21e135a642e0019ebd38170d2cdeba792c3480fd68d74bdff7486036b", func := "loop.example/g00944/laws.FnExactUpsFor", spec := "fnExactUpsFor", unfollowed := true, recurses := true, apart := false, narrowed := true }
def FnExactUpsForUptoSaid : Prop := fnExactUpsForUptoRow.holds Try.pinned (OpenSpec.upto fnExactUpsForSpec)

end Rows
end Go.Proofs.Ytbkeajifeaeccaa
