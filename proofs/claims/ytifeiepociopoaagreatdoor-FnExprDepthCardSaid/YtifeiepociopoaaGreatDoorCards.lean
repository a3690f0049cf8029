/-
  DERIVED. GIVEN WITH THE SEED: THE CARDS: each row of YtifeiepociopoaaGreatDoorRows.lean that lists a variable, with what it lists TIED to the program's text (the seventh form; the later family's looks); each row that meets fmt, with fmt's text TOLD by the authors' own Lean function (tested against real Go, not proved from fmt's source: count such statements apart). THE CARD IS WHAT COUNTS. Prove the row's statement (the work); the ties are given (YtifeiepociopoaaGreatDoorTie.lean); close each card by the builder's one call (the guide's Derived/Test/ToyasCard.lean, 'card_holds'). Laid BY PROGRAM, IN A SANDBOX (cutbox-door.mjs). By AI agents, Wed Nov 11 2026. No macro, syntax, notation, axiom, sorry.
-/
import Derived.Test.YtifeiepociopoaaGreatDoorRows
import GoSem.ClaimSeven
namespace Go.Proofs.YtifeiepociopoaaGreatDoor
namespace Rows

/-- THE TIED CARD OF 'laws.FnExprEnd'. -/
def fnExprEndCard : Claim7 := { stood := { row := fnExprEndRow, standIns := [], harness := (true, "81ae16558dbc3c1e44f269edf9b2a0e71442f2645cc0aa6ce90082a0b1939727"), looks := true }, kinds := [], alts := [], laidByText := true, laidKinds := [.data, .data, .data, .data, .sentinel, .sentinel, .pinned], laidTests := true, laidLooks := .later }
def FnExprEndCardSaid : Prop := Claim7.holds Tryz.pinned (.plain (OpenSpec.ofChange fnExprEndSpec)) fnExprEndCard

/-- THE TIED CARD OF 'laws.FnExprDepth'. -/
def fnExprDepthCard : Claim7 := { stood := { row := fnExprDepthRow, standIns := [], harness := (true, "81ae16558dbc3c1e44f269edf9b2a0e71442f2645cc0aa6ce90082a0b1939727"), looks := true }, kinds := [], alts := [], laidByText := true, laidKinds := [.data, .data, .data, .data, .sentinel, .sentinel, .pinned], laidTests := true, laidLooks := .later }
def FnExprDepthCardSaid : Prop := Claim7.holds Tryz.pinned (.plain (OpenSpec.ofChange fnExprDepthSpec)) fnExprDepthCard

/-- THE TIED CARD OF 'laws.FnExprValid'. -/
def fnExprValidCard : Claim7 := { stood := { row := fnExprValidRow, standIns := [], harness := (true, "81ae16558dbc3c1e44f269edf9b2a0e71442f2645cc0aa6ce90082a0b1939727"), looks := true }, kinds := [], alts := [], laidByText := true, laidKinds := [.data, .data, .data, .data, .sentinel, .sentinel, .pinned], laidTests := true, laidLooks := .later }
def FnExprValidCardSaid : Prop := Claim7.holds Tryz.pinned (.plain (OpenSpec.ofChange fnExprValidSpec)) fnExprValidCard

/-- THE SECOND FORM's CARD OF 'laws.FnExprEnd'. -/
def fnExprEndUptoCard : Claim7 := { stood := { row := fnExprEndUptoRow, standIns := [], harness := (true, "81ae16558dbc3c1e44f269edf9b2a0e71442f2645cc0aa6ce90082a0b1939727"), looks := true }, kinds := [], alts := [], laidByText := true, laidKinds := [.data, .data, .data, .data, .sentinel, .sentinel, .pinned], laidTests := true, laidLooks := .later }
def FnExprEndUptoCardSaid : Prop := Claim7.holds Tryz.pinned (.plain (OpenSpec.upto fnExprEndSpec)) fnExprEndUptoCard

/-- THE SECOND FORM's CARD OF 'laws.FnExprDepth'. -/
def fnExprDepthUptoCard : Claim7 := { stood := { row := fnExprDepthUptoRow, standIns := [], harness := (true, "81ae16558dbc3c1e44f269edf9b2a0e71442f2645cc0aa6ce90082a0b1939727"), looks := true }, kinds := [], alts := [], laidByText := true, laidKinds := [.data, .data, .data, .data, .sentinel, .sentinel, .pinned], laidTests := true, laidLooks := .later }
def FnExprDepthUptoCardSaid : Prop := Claim7.holds Tryz.pinned (.plain (OpenSpec.upto fnExprDepthSpec)) fnExprDepthUptoCard

/-- THE SECOND FORM's CARD OF 'laws.FnExprValid'. -/
def fnExprValidUptoCard : Claim7 := { stood := { row := fnExprValidUptoRow, standIns := [], harness := (true, "81ae16558dbc3c1e44f269edf9b2a0e71442f2645cc0aa6ce90082a0b1939727"), looks := true }, kinds := [], alts := [], laidByText := true, laidKinds := [.data, .data, .data, .data, .sentinel, .sentinel, .pinned], laidTests := true, laidLooks := .later }
def FnExprValidUptoCardSaid : Prop := Claim7.holds Tryz.pinned (.plain (OpenSpec.upto fnExprValidSpec)) fnExprValidUptoCard
end Rows
end Go.Proofs.YtifeiepociopoaaGreatDoor
