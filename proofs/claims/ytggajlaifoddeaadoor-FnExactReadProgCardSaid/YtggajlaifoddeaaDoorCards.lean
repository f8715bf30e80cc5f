/-
  DERIVED. GIVEN WITH THE SEED: THE CARDS: each row of YtggajlaifoddeaaDoorRows.lean that lists a variable, with what it lists TIED to the program's text (the seventh form; the later family's looks); each row that meets fmt, with fmt's text TOLD by the authors' own Lean function (tested against real Go, not proved from fmt's source: count such statements apart). THE CARD IS WHAT COUNTS. Prove the row's statement (the work); the ties are given (YtggajlaifoddeaaDoorTie.lean); close each card by the builder's one call (the guide's Derived/Test/ToyasCard.lean, 'card_holds'). Laid BY PROGRAM, IN A SANDBOX (cutbox-door.mjs). By AI agents, Wed Nov 11 2026. No macro, syntax, notation, axiom, sorry.
-/
import Derived.Test.YtggajlaifoddeaaDoorRows
import GoSem.ClaimSeven
namespace Go.Proofs.YtggajlaifoddeaaDoor
namespace Rows

/-- THE TIED CARD OF 'laws.FnExactReadProg'. -/
def fnExactReadProgCard : Claim7 := { stood := { row := fnExactReadProgRow, standIns := [], harness := (true, "ec494ab8e5e5f4b8beee424b8bfcf314f25fdab036253b7cffd7b12ecbe208f0"), looks := true }, kinds := [], alts := [], laidByText := true, laidKinds := [.data, .data, .data, .data, .sentinel, .sentinel, .pinned], laidTests := true, laidLooks := .later }
def FnExactReadProgCardSaid : Prop := Claim7.holds Tryd.pinned (.plain (OpenSpec.ofChange fnExactReadProgSpec)) fnExactReadProgCard

/-- THE TIED CARD OF 'laws.FnExactShowProg'. -/
def fnExactShowProgCard : Claim7 := { stood := { row := fnExactShowProgRow, standIns := [], harness := (true, "ec494ab8e5e5f4b8beee424b8bfcf314f25fdab036253b7cffd7b12ecbe208f0"), looks := true }, kinds := [], alts := [], laidByText := true, laidKinds := [.data, .data, .data], laidTests := true, laidLooks := .later }
def FnExactShowProgCardSaid : Prop := Claim7.holds Tryd.pinned (.plain (OpenSpec.ofChange fnExactShowProgSpec)) fnExactShowProgCard

/-- THE SECOND FORM's CARD OF 'laws.FnExactReadProg'. -/
def fnExactReadProgUptoCard : Claim7 := { stood := { row := fnExactReadProgUptoRow, standIns := [], harness := (true, "ec494ab8e5e5f4b8beee424b8bfcf314f25fdab036253b7cffd7b12ecbe208f0"), looks := true }, kinds := [], alts := [], laidByText := true, laidKinds := [.data, .data, .data, .data, .sentinel, .sentinel, .pinned], laidTests := true, laidLooks := .later }
def FnExactReadProgUptoCardSaid : Prop := Claim7.holds Tryd.pinned (.plain (OpenSpec.upto fnExactReadProgSpec)) fnExactReadProgUptoCard

/-- THE SECOND FORM's CARD OF 'laws.FnExactShowProg'. -/
def fnExactShowProgUptoCard : Claim7 := { stood := { row := fnExactShowProgUptoRow, standIns := [], harness := (true, "ec494ab8e5e5f4b8beee424b8bfcf314f25fdab036253b7cffd7b12ecbe208f0"), looks := true }, kinds := [], alts := [], laidByText := true, laidKinds := [.data, .data, .data], laidTests := true, laidLooks := .later }
def FnExactShowProgUptoCardSaid : Prop := Claim7.holds Tryd.pinned (.plain (OpenSpec.upto fnExactShowProgSpec)) fnExactShowProgUptoCard
end Rows
end Go.Proofs.YtggajlaifoddeaaDoor
