/-
  No cell of these rows narrows 'for every input' (looked for: loops, veiled, ifaces, maps, wideKeys, modest, calm, conditions, laid).
  DERIVED. THE GIVEN ROWS OF THIS SEAT. 12 by the template 'for every input the law returns true; each argument reads behind the call as it read before'; 0 by the template 'total and deterministic' (their statements: YthkahhimfflknaaTotals.lean).
  GIVEN WITH THE SEED: the statements are not yours to turn. If you find one false, say at which input.
  Laid BY PROGRAM, IN A SANDBOX (cutbox-rows.mjs): the forced cells as the released guide's own fill.sh prints them over the translation 223530f8592103a6… (all of the seat's roots in one cut). By AI agents, Wed Nov 11 2026. No macro, syntax, notation, axiom, sorry.
-/
import Derived.Test.YthkahhimfflknaaChecked
import GoSem.Claim
import GoSem.ClaimJoined
import GoSem.ClaimMapViews
import Derived.JoinedTies
import Derived.KernelRfl
namespace Go.Proofs.Ythkahhimfflknaa
/- THE CELL 'sum', in the pinned program and in every row, IS THE sha256 OF THE DUMP (.gsa) THAT YthkahhimfflknaaProg.lean LOADS. Nothing in Lean hashes anything: it is a label: what it is worth is what the hold of that sum in a sandbox is worth. -/
noncomputable def Try.pinned : Pinned := { name := "ythkahhimfflknaa", sum := "223530f8592103a63f5d209fc6c8dd659a1a92a13a52cfd1380d9125eaf1fc1c", checked := Try.checked }
namespace Rows
def none {H : Type} : Left H := { results := [], args := [] }

/-- 'laws.FnExactIsPiece': WHATEVER THE INPUT: true; the input reads as it did. -/
def fnExactIsPieceSpec : ChangeSpec := { name := "fnExactIsPiece", fn := fun _ => fun
  | [d] => { results := [.lit (.bool true)], args := [d] }
  | _ => none }
def fnExactIsPieceRow : OpenClaim := { program := "ythkahhimfflknaa", sum := "223530f8592103a63f5d209fc6c8dd659a1a92a13a52cfd1380d9125eaf1fc1c", func := "loop.example/g00944/laws.FnExactIsPiece", spec := "fnExactIsPiece", apart := false }
def FnExactIsPieceSaid : Prop := fnExactIsPieceRow.holds Try.pinned (OpenSpec.ofChange fnExactIsPieceSpec)

/-- ITS FALSE NEIGHBOUR: 'it returns false'. Refute it at one input. -/
def fnExactIsPieceWrong : ChangeSpec := { name := "fnExactIsPiece", fn := fun _ => fun
  | [d] => { results := [.lit (.bool false)], args := [d] }
  | _ => none }
def FnExactIsPieceWrongFalsely : Prop := fnExactIsPieceRow.holds Try.pinned (OpenSpec.ofChange fnExactIsPieceWrong)

/-- 'laws.FnExactIsPress': WHATEVER THE INPUT: true; the input reads as it did. -/
def fnExactIsPressSpec : ChangeSpec := { name := "fnExactIsPress", fn := fun _ => fun
  | [d] => { results := [.lit (.bool true)], args := [d] }
  | _ => none }
def fnExactIsPressRow : OpenClaim := { program := "ythkahhimfflknaa", sum := "223530f8592103a63f5d209fc6c8dd659a1a92a13a52cfd1380d9125eaf1fc1c", func := "loop.example/g00944/laws.FnExactIsPress", spec := "fnExactIsPress", apart := false }
def FnExactIsPressSaid : Prop := fnExactIsPressRow.holds Try.pinned (OpenSpec.ofChange fnExactIsPressSpec)

/-- ITS FALSE NEIGHBOUR: 'it returns false'. Refute it at one input. -/
def fnExactIsPressWrong : ChangeSpec := { name := "fnExactIsPress", fn := fun _ => fun
  | [d] => { results := [.lit (.bool false)], args := [d] }
  | _ => none }
def FnExactIsPressWrongFalsely : Prop := fnExactIsPressRow.holds Try.pinned (OpenSpec.ofChange fnExactIsPressWrong)

/-- 'laws.FnExactIsTrim': WHATEVER THE INPUT: true; the input reads as it did. -/
def fnExactIsTrimSpec : ChangeSpec := { name := "fnExactIsTrim", fn := fun _ => fun
  | [d] => { results := [.lit (.bool true)], args := [d] }
  | _ => none }
def fnExactIsTrimRow : OpenClaim := { program := "ythkahhimfflknaa", sum := "223530f8592103a63f5d209fc6c8dd659a1a92a13a52cfd1380d9125eaf1fc1c", func := "loop.example/g00944/laws.FnExactIsTrim", spec := "fnExactIsTrim", apart := false }
def FnExactIsTrimSaid : Prop := fnExactIsTrimRow.holds Try.pinned (OpenSpec.ofChange fnExactIsTrimSpec)

/-- ITS FALSE NEIGHBOUR: 'it returns false'. Refute it at one input. -/
def fnExactIsTrimWrong : ChangeSpec := { name := "fnExactIsTrim", fn := fun _ => fun
  | [d] => { results := [.lit (.bool false)], args := [d] }
  | _ => none }
def FnExactIsTrimWrongFalsely : Prop := fnExactIsTrimRow.holds Try.pinned (OpenSpec.ofChange fnExactIsTrimWrong)

/-- 'laws.FnExactMostNested': WHATEVER THE INPUT: true; the input reads as it did. -/
def fnExactMostNestedSpec : ChangeSpec := { name := "fnExactMostNested", fn := fun _ => fun
  | [d1, d2] => { results := [.lit (.bool true)], args := [d1, d2] }
  | _ => none }
def fnExactMostNestedRow : OpenClaim := { program := "ythkahhimfflknaa", sum := "223530f8592103a63f5d209fc6c8dd659a1a92a13a52cfd1380d9125eaf1fc1c", func := "loop.example/g00944/laws.FnExactMostNested", spec := "fnExactMostNested", apart := false }
def FnExactMostNestedSaid : Prop := fnExactMostNestedRow.holds Try.pinned (OpenSpec.ofChange fnExactMostNestedSpec)

/-- ITS FALSE NEIGHBOUR: 'it returns false'. Refute it at one input. -/
def fnExactMostNestedWrong : ChangeSpec := { name := "fnExactMostNested", fn := fun _ => fun
  | [d1, d2] => { results := [.lit (.bool false)], args := [d1, d2] }
  | _ => none }
def FnExactMostNestedWrongFalsely : Prop := fnExactMostNestedRow.holds Try.pinned (OpenSpec.ofChange fnExactMostNestedWrong)

/-- 'laws.FnExactCreepOf': WHATEVER THE INPUT: true; the input reads as it did. -/
def fnExactCreepOfSpec : ChangeSpec := { name := "fnExactCreepOf", fn := fun _ => fun
  | [d1, d2, d3] => { results := [.lit (.bool true)], args := [d1, d2, d3] }
  | _ => none }
def fnExactCreepOfRow : OpenClaim := { program := "ythkahhimfflknaa", sum := "223530f8592103a63f5d209fc6c8dd659a1a92a13a52cfd1380d9125eaf1fc1c", func := "loop.example/g00944/laws.FnExactCreepOf", spec := "fnExactCreepOf", apart := false }
def FnExactCreepOfSaid : Prop := fnExactCreepOfRow.holds Try.pinned (OpenSpec.ofChange fnExactCreepOfSpec)

/-- ITS FALSE NEIGHBOUR: 'it returns false'. Refute it at one input. -/
def fnExactCreepOfWrong : ChangeSpec := { name := "fnExactCreepOf", fn := fun _ => fun
  | [d1, d2, d3] => { results := [.lit (.bool false)], args := [d1, d2, d3] }
  | _ => none }
def FnExactCreepOfWrongFalsely : Prop := fnExactCreepOfRow.holds Try.pinned (OpenSpec.ofChange fnExactCreepOfWrong)

/-- 'laws.FnExactTrimLoss': WHATEVER THE INPUT: true; the input reads as it did. -/
def fnExactTrimLossSpec : ChangeSpec := { name := "fnExactTrimLoss", fn := fun _ => fun
  | [d1, d2] => { results := [.lit (.bool true)], args := [d1, d2] }
  | _ => none }
def fnExactTrimLossRow : OpenClaim := { program := "ythkahhimfflknaa", sum := "223530f8592103a63f5d209fc6c8dd659a1a92a13a52cfd1380d9125eaf1fc1c", func := "loop.example/g00944/laws.FnExactTrimLoss", spec := "fnExactTrimLoss", apart := false }
def FnExactTrimLossSaid : Prop := fnExactTrimLossRow.holds Try.pinned (OpenSpec.ofChange fnExactTrimLossSpec)

/-- ITS FALSE NEIGHBOUR: 'it returns false'. Refute it at one input. -/
def fnExactTrimLossWrong : ChangeSpec := { name := "fnExactTrimLoss", fn := fun _ => fun
  | [d1, d2] => { results := [.lit (.bool false)], args := [d1, d2] }
  | _ => none }
def FnExactTrimLossWrongFalsely : Prop := fnExactTrimLossRow.holds Try.pinned (OpenSpec.ofChange fnExactTrimLossWrong)

/-- 'laws.FnExactBlockThickness': WHATEVER THE INPUT: true; the input reads as it did. -/
def fnExactBlockThicknessSpec : ChangeSpec := { name := "fnExactBlockThickness", fn := fun _ => fun
  | [d1, d2] => { results := [.lit (.bool true)], args := [d1, d2] }
  | _ => none }
def fnExactBlockThicknessRow : OpenClaim := { program := "ythkahhimfflknaa", sum := "223530f8592103a63f5d209fc6c8dd659a1a92a13a52cfd1380d9125eaf1fc1c", func := "loop.example/g00944/laws.FnExactBlockThickness", spec := "fnExactBlockThickness", apart := false }
def FnExactBlockThicknessSaid : Prop := fnExactBlockThicknessRow.holds Try.pinned (OpenSpec.ofChange fnExactBlockThicknessSpec)

/-- ITS FALSE NEIGHBOUR: 'it returns false'. Refute it at one input. -/
def fnExactBlockThicknessWrong : ChangeSpec := { name := "fnExactBlockThickness", fn := fun _ => fun
  | [d1, d2] => { results := [.lit (.bool false)], args := [d1, d2] }
  | _ => none }
def FnExactBlockThicknessWrongFalsely : Prop := fnExactBlockThicknessRow.holds Try.pinned (OpenSpec.ofChange fnExactBlockThicknessWrong)

/-- 'laws.FnExactSpineWidth': WHATEVER THE INPUT: true; the input reads as it did. -/
def fnExactSpineWidthSpec : ChangeSpec := { name := "fnExactSpineWidth", fn := fun _ => fun
  | [d1, d2, d3] => { results := [.lit (.bool true)], args := [d1, d2, d3] }
  | _ => none }
def fnExactSpineWidthRow : OpenClaim := { program := "ythkahhimfflknaa", sum := "223530f8592103a63f5d209fc6c8dd659a1a92a13a52cfd1380d9125eaf1fc1c", func := "loop.example/g00944/laws.FnExactSpineWidth", spec := "fnExactSpineWidth", apart := false }
def FnExactSpineWidthSaid : Prop := fnExactSpineWidthRow.holds Try.pinned (OpenSpec.ofChange fnExactSpineWidthSpec)

/-- ITS FALSE NEIGHBOUR: 'it returns false'. Refute it at one input. -/
def fnExactSpineWidthWrong : ChangeSpec := { name := "fnExactSpineWidth", fn := fun _ => fun
  | [d1, d2, d3] => { results := [.lit (.bool false)], args := [d1, d2, d3] }
  | _ => none }
def FnExactSpineWidthWrongFalsely : Prop := fnExactSpineWidthRow.holds Try.pinned (OpenSpec.ofChange fnExactSpineWidthWrong)

/-- 'laws.FnExactSignatureOf': WHATEVER THE INPUT: true; the input reads as it did. -/
def fnExactSignatureOfSpec : ChangeSpec := { name := "fnExactSignatureOf", fn := fun _ => fun
  | [d1, d2, d3] => { results := [.lit (.bool true)], args := [d1, d2, d3] }
  | _ => none }
def fnExactSignatureOfRow : OpenClaim := { program := "ythkahhimfflknaa", sum := "223530f8592103a63f5d209fc6c8dd659a1a92a13a52cfd1380d9125eaf1fc1c", func := "loop.example/g00944/laws.FnExactSignatureOf", spec := "fnExactSignatureOf", apart := false }
def FnExactSignatureOfSaid : Prop := fnExactSignatureOfRow.holds Try.pinned (OpenSpec.ofChange fnExactSignatureOfSpec)

/-- ITS FALSE NEIGHBOUR: 'it returns false'. Refute it at one input. -/
def fnExactSignatureOfWrong : ChangeSpec := { name := "fnExactSignatureOf", fn := fun _ => fun
  | [d1, d2, d3] => { results := [.lit (.bool false)], args := [d1, d2, d3] }
  | _ => none }
def FnExactSignatureOfWrongFalsely : Prop := fnExactSignatureOfRow.holds Try.pinned (OpenSpec.ofChange fnExactSignatureOfWrong)

/-- 'laws.FnExactSignatureCount': WHATEVER THE INPUT: true; the input reads as it did. -/
def fnExactSignatureCountSpec : ChangeSpec := { name := "fnExactSignatureCount", fn := fun _ => fun
  | [d1, d2] => { results := [.lit (.bool true)], args := [d1, d2] }
  | _ => none }
def fnExactSignatureCountRow : OpenClaim := { program := "ythkahhimfflknaa", sum := "223530f8592103a63f5d209fc6c8dd659a1a92a13a52cfd1380d9125eaf1fc1c", func := "loop.example/g00944/laws.FnExactSignatureCount", spec := "fnExactSignatureCount", apart := false }
def FnExactSignatureCountSaid : Prop := fnExactSignatureCountRow.holds Try.pinned (OpenSpec.ofChange fnExactSignatureCountSpec)

/-- ITS FALSE NEIGHBOUR: 'it returns false'. Refute it at one input. -/
def fnExactSignatureCountWrong : ChangeSpec := { name := "fnExactSignatureCount", fn := fun _ => fun
  | [d1, d2] => { results := [.lit (.bool false)], args := [d1, d2] }
  | _ => none }
def FnExactSignatureCountWrongFalsely : Prop := fnExactSignatureCountRow.holds Try.pinned (OpenSpec.ofChange fnExactSignatureCountWrong)

/-- 'laws.FnExactNestedPlace': WHATEVER THE INPUT: true; the input reads as it did. -/
def fnExactNestedPlaceSpec : ChangeSpec := { name := "fnExactNestedPlace", fn := fun _ => fun
  | [d1, d2] => { results := [.lit (.bool true)], args := [d1, d2] }
  | _ => none }
def fnExactNestedPlaceRow : OpenClaim := { program := "ythkahhimfflknaa", sum := "223530f8592103a63f5d209fc6c8dd659a1a92a13a52cfd1380d9125eaf1fc1c", func := "loop.example/g00944/laws.FnExactNestedPlace", spec := "fnExactNestedPlace", apart := false }
def FnExactNestedPlaceSaid : Prop := fnExactNestedPlaceRow.holds Try.pinned (OpenSpec.ofChange fnExactNestedPlaceSpec)

/-- ITS FALSE NEIGHBOUR: 'it returns false'. Refute it at one input. -/
def fnExactNestedPlaceWrong : ChangeSpec := { name := "fnExactNestedPlace", fn := fun _ => fun
  | [d1, d2] => { results := [.lit (.bool false)], args := [d1, d2] }
  | _ => none }
def FnExactNestedPlaceWrongFalsely : Prop := fnExactNestedPlaceRow.holds Try.pinned (OpenSpec.ofChange fnExactNestedPlaceWrong)

/-- 'laws.FnExactNestedPages': WHATEVER THE INPUT: true; the input reads as it did. -/
def fnExactNestedPagesSpec : ChangeSpec := { name := "fnExactNestedPages", fn := fun _ => fun
  | [d1, d2] => { results := [.lit (.bool true)], args := [d1, d2] }
  | _ => none }
def fnExactNestedPagesRow : OpenClaim := { program := "ythkahhimfflknaa", sum := "223530f8592103a63f5d209fc6c8dd659a1a92a13a52cfd1380d9125eaf1fc1c", func := "loop.example/g00944/laws.FnExactNestedPages", spec := "fnExactNestedPages", apart := false }
def FnExactNestedPagesSaid : Prop := fnExactNestedPagesRow.holds Try.pinned (OpenSpec.ofChange fnExactNestedPagesSpec)

/-- ITS FALSE NEIGHBOUR: 'it returns false'. Refute it at one input. -/
def fnExactNestedPagesWrong : ChangeSpec := { name := "fnExactNestedPages", fn := fun _ => fun
  | [d1, d2] => { results := [.lit (.bool false)], args := [d1, d2] }
  | _ => none }
def FnExactNestedPagesWrongFalsely : Prop := fnExactNestedPagesRow.holds Try.pinned (OpenSpec.ofChange fnExactNestedPagesWrong)

/- THE SECOND FORM. 'bulk': how many values and letters a reading holds, each counted each time it is reached (what is shared counts as often as it is met; a slice's spare places count too). A statement '..UptoSaid' is the law's where the arguments, and the package variables that the reading takes, are together of bulk at most 1048576: NARROWER than '..Said'. Prove '..Said' where nothing that the law and all that it calls make is longer than what came in: it says more and counts as full. Else prove '..UptoSaid'. A law counts once. -/
mutual
def uptoBulk {H : Type} : DataW H → Nat
  | .lit (.string bytes) => bytes.length + 1
  | .lit _ => 1
  | .nil => 1
  | .ptr d => uptoBulk d + 1
  | .slice elems spare => uptoBulkAll elems + uptoBulkAll spare + 1
  | .agg parts => uptoBulkAll parts + 1
  | .iface _ d => uptoBulk d + 1
  | .map entries => uptoBulkEntries entries + 1
  | .held _ => 1
def uptoBulkAll {H : Type} : List (DataW H) → Nat
  | [] => 0
  | d :: r => uptoBulk d + uptoBulkAll r
def uptoBulkEntries {H : Type} : List (Lit × DataW H) → Nat
  | [] => 0
  | x :: r => uptoBulkEntry x + uptoBulkEntries r
def uptoBulkEntry {H : Type} : Lit × DataW H → Nat
  | (.string bytes, d) => bytes.length + uptoBulk d + 1
  | (_, d) => uptoBulk d + 1
 end
def uptoSmall : (H : Type) → List (DataW H) → Bool := fun _ ds => decide (uptoBulkAll ds ≤ 1048576)
def OpenSpec.upto (s : _root_.Go.ChangeSpec) : _root_.Go.OpenSpec := { _root_.Go.OpenSpec.ofChange s with cond := some uptoSmall }

/-- 'laws.FnExactIsPiece', WHERE WHAT IT READS IS OF BULK AT MOST 1048576: true; the input reads as it did. -/
def fnExactIsPieceUptoRow : OpenClaim := { program := "ythkahhimfflknaa", sum := "223530f8592103a63f5d209fc6c8dd659a1a92a13a52cfd1380d9125eaf1fc1c", func := "loop.example/g00944/laws.FnExactIsPiece", spec := "fnExactIsPiece", apart := false, narrowed := true }
def FnExactIsPieceUptoSaid : Prop := fnExactIsPieceUptoRow.holds Try.pinned (OpenSpec.upto fnExactIsPieceSpec)

/-- 'laws.FnExactIsPress', WHERE WHAT IT READS IS OF BULK AT MOST 1048576: true; the input reads as it did. -/
def fnExactIsPressUptoRow : OpenClaim := { program := "ythkahhimfflknaa", sum := "223530f8592103a63f5d209fc6c8dd659a1a92a13a52cfd1380d9125eaf1fc1c", func := "loop.example/g00944/laws.FnExactIsPress", spec := "fnExactIsPress", apart := false, narrowed := true }
def FnExactIsPressUptoSaid : Prop := fnExactIsPressUptoRow.holds Try.pinned (OpenSpec.upto fnExactIsPressSpec)

/-- 'laws.FnExactIsTrim', WHERE WHAT IT READS IS OF BULK AT MOST 1048576: true; the input reads as it did. -/
def fnExactIsTrimUptoRow : OpenClaim := { program := "ythkahhimfflknaa", sum := "223530f8592103a63f5d209fc6c8dd659a1a92a13a52cfd1380d9125eaf1fc1c", func := "loop.example/g00944/laws.FnExactIsTrim", spec := "fnExactIsTrim", apart := false, narrowed := true }
def FnExactIsTrimUptoSaid : Prop := fnExactIsTrimUptoRow.holds Try.pinned (OpenSpec.upto fnExactIsTrimSpec)

/-- 'laws.FnExactMostNested', WHERE WHAT IT READS IS OF BULK AT MOST 1048576: true; the input reads as it did. -/
def fnExactMostNestedUptoRow : OpenClaim := { program := "ythkahhimfflknaa", sum := "223530f8592103a63f5d209fc6c8dd659a1a92a13a52cfd1380d9125eaf1fc1c", func := "loop.example/g00944/laws.FnExactMostNested", spec := "fnExactMostNested", apart := false, narrowed := true }
def FnExactMostNestedUptoSaid : Prop := fnExactMostNestedUptoRow.holds Try.pinned (OpenSpec.upto fnExactMostNestedSpec)

/-- 'laws.FnExactCreepOf', WHERE WHAT IT READS IS OF BULK AT MOST 1048576: true; the input reads as it did. -/
def fnExactCreepOfUptoRow : OpenClaim := { program := "ythkahhimfflknaa", sum := "223530f8592103a63f5d209fc6c8dd659a1a92a13a52cfd1380d9125eaf1fc1c", func := "loop.example/g00944/laws.FnExactCreepOf", spec := "fnExactCreepOf", apart := false, narrowed := true }
def FnExactCreepOfUptoSaid : Prop := fnExactCreepOfUptoRow.holds Try.pinned (OpenSpec.upto fnExactCreepOfSpec)

/-- 'laws.FnExactTrimLoss', WHERE WHAT IT READS IS OF BULK AT MOST 1048576: true; the input reads as it did. -/
def fnExactTrimLossUptoRow : OpenClaim := { program := "ythkahhimfflknaa", sum := "223530f8592103a63f5d209fc6c8dd659a1a92a13a52cfd1380d9125eaf1fc1c", func := "loop.example/g00944/laws.FnExactTrimLoss", spec := "fnExactTrimLoss", apart := false, narrowed := true }
def FnExactTrimLossUptoSaid : Prop := fnExactTrimLossUptoRow.holds Try.pinned (OpenSpec.upto fnExactTrimLossSpec)

/-- 'laws.FnExactBlockThickness', WHERE WHAT IT READS IS OF BULK AT MOST 1048576: true; the input reads as it did. -/
def fnExactBlockThicknessUptoRow : OpenClaim := { program := "ythkahhimfflknaa", sum := "223530f8592103a63f5d209fc6c8dd659a1a92a13a52cfd1380d9125eaf1fc1c", func := "loop.example/g00944/laws.FnExactBlockThickness", spec := "fnExactBlockThickness", apart := false, narrowed := true }
def FnExactBlockThicknessUptoSaid : Prop := fnExactBlockThicknessUptoRow.holds Try.pinned (OpenSpec.upto fnExactBlockThicknessSpec)

/-- 'laws.FnExactSpineWidth', WHERE WHAT IT READS IS OF BULK AT MOST 1048576: true; the input reads as it did. -/
def fnExactSpineWidthUptoRow : OpenClaim := { program := "ythkahhimfflknaa", sum := "223530f8592103a63f5d209fc6c8dd659a1a92a13a52cfd1380d9125eaf1fc1c", func := "loop.example/g00944/laws.FnExactSpineWidth", spec := "fnExactSpineWidth", apart := false, narrowed := true }
def FnExactSpineWidthUptoSaid : Prop := fnExactSpineWidthUptoRow.holds Try.pinned (OpenSpec.upto fnExactSpineWidthSpec)

/-- 'laws.FnExactSignatureOf', WHERE WHAT IT READS IS OF BULK AT MOST 1048576: true; the input reads as it did. -/
def fnExactSignatureOfUptoRow : OpenClaim := { program := "ythkahhimfflknaa", sum := "223530f8592103a63f5d209fc6c8dd659a1a92a13a52cfd1380d9125eaf1fc1c", func := "loop.example/g00944/laws.FnExactSignatureOf", spec := "fnExactSignatureOf", apart := false, narrowed := true }
def FnExactSignatureOfUptoSaid : Prop := fnExactSignatureOfUptoRow.holds Try.pinned (OpenSpec.upto fnExactSignatureOfSpec)

/-- 'laws.FnExactSignatureCount', WHERE WHAT IT READS IS OF BULK AT MOST 1048576: true; the input reads as it did. -/
def fnExactSignatureCountUptoRow : OpenClaim := { program := "ythkahhimfflknaa", sum := "223530f8592103a63f5d209fc6c8dd659a1a92a13a52cfd1380d9125eaf1fc1c", func := "loop.example/g00944/laws.FnExactSignatureCount", spec := "fnExactSignatureCount", apart := false, narrowed := true }
def FnExactSignatureCountUptoSaid : Prop := fnExactSignatureCountUptoRow.holds Try.pinned (OpenSpec.upto fnExactSignatureCountSpec)

/-- 'laws.FnExactNestedPlace', WHERE WHAT IT READS IS OF BULK AT MOST 1048576: true; the input reads as it did. -/
def fnExactNestedPlaceUptoRow : OpenClaim := { program := "ythkahhimfflknaa", sum := "223530f8592103a63f5d209fc6c8dd659a1a92a13a52cfd1380d9125eaf1fc1c", func := "loop.example/g00944/laws.FnExactNestedPlace", spec := "fnExactNestedPlace", apart := false, narrowed := true }
def FnExactNestedPlaceUptoSaid : Prop := fnExactNestedPlaceUptoRow.holds Try.pinned (OpenSpec.upto fnExactNestedPlaceSpec)

/-- 'laws.FnExactNestedPages', WHERE WHAT IT READS IS OF BULK AT MOST 1048576: true; the input reads as it did. -/
def fnExactNestedPagesUptoRow : OpenClaim := { program := "ythkahhimfflknaa", sum := "223530f8592103a63f5d209fc6c8dd659a1a92a13a52cfd1380d9125eaf1fc1c", func := "loop.example/g00944/laws.FnExactNestedPages", spec := "fnExactNestedPages", apart := false, narrowed := true }
def FnExactNestedPagesUptoSaid : Prop := fnExactNestedPagesUptoRow.holds Try.pinned (OpenSpec.upto fnExactNestedPagesSpec)

end Rows
end Go.Proofs.Ythkahhimfflknaa
