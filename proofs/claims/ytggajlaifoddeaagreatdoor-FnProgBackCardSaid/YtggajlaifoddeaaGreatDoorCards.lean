/-
  DERIVED. GIVEN WITH THE SEED: THE CARDS: each row of YtggajlaifoddeaaGreatDoorRows.lean that lists a variable, with what it lists TIED to the program's text (the seventh form; the later family's looks); each row that meets fmt, with fmt's text TOLD by the authors' own Lean function (tested against real Go, not proved from fmt's source: count such statements apart). THE CARD IS WHAT COUNTS. Prove the row's statement (the work); the ties are given (YtggajlaifoddeaaGreatDoorTie.lean); close each card by the builder's one call (the guide's Derived/Test/ToyasCard.lean, 'card_holds'). Laid BY PROGRAM, IN A SANDBOX (cutbox-door.mjs). By AI agents, Wed Nov 11 2026. No macro, syntax, notation, axiom, sorry.
-/
import Derived.Test.YtggajlaifoddeaaGreatDoorRows
import GoSem.ClaimSeven
namespace Go.Proofs.YtggajlaifoddeaaGreatDoor
namespace Rows

/-- THE TIED CARD OF 'laws.FnProgBack'. -/
def fnProgBackCard : Claim7 := { stood := { row := fnProgBackRow, standIns := [], harness := (true, "d4d219a687c6d374f81be873f3a5c08daad2dfff4527400a11fd2d65104aa49f"), looks := true }, kinds := [], alts := [], laidByText := true, laidKinds := [.data, .data, .data, .data, .sentinel, .sentinel, .pinned], laidTests := true, laidLooks := .later }
def FnProgBackCardSaid : Prop := Claim7.holds Tryz.pinned (.plain (OpenSpec.ofChange fnProgBackSpec)) fnProgBackCard

/-- THE SECOND FORM's CARD OF 'laws.FnProgBack'. -/
def fnProgBackUptoCard : Claim7 := { stood := { row := fnProgBackUptoRow, standIns := [], harness := (true, "d4d219a687c6d374f81be873f3a5c08daad2dfff4527400a11fd2d65104aa49f"), looks := true }, kinds := [], alts := [], laidByText := true, laidKinds := [.data, .data, .data, .data, .sentinel, .sentinel, .pinned], laidTests := true, laidLooks := .later }
def FnProgBackUptoCardSaid : Prop := Claim7.holds Tryz.pinned (.plain (OpenSpec.upto fnProgBackSpec)) fnProgBackUptoCard
end Rows
end Go.Proofs.YtggajlaifoddeaaGreatDoor
