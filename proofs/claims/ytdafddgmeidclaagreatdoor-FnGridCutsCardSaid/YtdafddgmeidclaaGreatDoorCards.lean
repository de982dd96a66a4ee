/-
  DERIVED. GIVEN WITH THE SEED: THE CARDS: each row of YtdafddgmeidclaaGreatDoorRows.lean that lists a variable, with what it lists TIED to the program's text (the seventh form; the later family's looks); each row that meets fmt, with fmt's text TOLD by the authors' own Lean function (tested against real Go, not proved from fmt's source: count such statements apart). THE CARD IS WHAT COUNTS. Prove the row's statement (the work); the ties are given (YtdafddgmeidclaaGreatDoorTie.lean); close each card by the builder's one call (the guide's Derived/Test/ToyasCard.lean, 'card_holds'). Laid BY PROGRAM, IN A SANDBOX (cutbox-door.mjs). By AI agents, Wed Nov 11 2026. No macro, syntax, notation, axiom, sorry.
-/
import Derived.Test.YtdafddgmeidclaaGreatDoorRows
import GoSem.ClaimSeven
namespace Go.Proofs.YtdafddgmeidclaaGreatDoor
namespace Rows

/-- THE TIED CARD OF 'laws.FnGridCuts'. -/
def fnGridCutsCard : Claim7 := { stood := { row := fnGridCutsRow, standIns := [], harness := (true, "adb732257300f95849239f3e228b5d5c797bdfc45492f177a3249a3edb51bac1"), looks := true }, kinds := [], alts := [], laidByText := true, laidKinds := [.data, .data, .data, .data, .sentinel, .sentinel, .pinned], laidTests := true, laidLooks := .later }
def FnGridCutsCardSaid : Prop := Claim7.holds Tryz.pinned (.plain (OpenSpec.ofChange fnGridCutsSpec)) fnGridCutsCard

/-- THE SECOND FORM's CARD OF 'laws.FnGridCuts'. -/
def fnGridCutsUptoCard : Claim7 := { stood := { row := fnGridCutsUptoRow, standIns := [], harness := (true, "adb732257300f95849239f3e228b5d5c797bdfc45492f177a3249a3edb51bac1"), looks := true }, kinds := [], alts := [], laidByText := true, laidKinds := [.data, .data, .data, .data, .sentinel, .sentinel, .pinned], laidTests := true, laidLooks := .later }
def FnGridCutsUptoCardSaid : Prop := Claim7.holds Tryz.pinned (.plain (OpenSpec.upto fnGridCutsSpec)) fnGridCutsUptoCard
end Rows
end Go.Proofs.YtdafddgmeidclaaGreatDoor
