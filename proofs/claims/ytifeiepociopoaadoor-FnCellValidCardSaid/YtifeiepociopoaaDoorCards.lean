/-
  DERIVED. GIVEN WITH THE SEED: THE CARDS: each row of YtifeiepociopoaaDoorRows.lean that lists a variable, with what it lists TIED to the program's text (the seventh form; the later family's looks); each row that meets fmt, with fmt's text TOLD by the authors' own Lean function (tested against real Go, not proved from fmt's source: count such statements apart). THE CARD IS WHAT COUNTS. Prove the row's statement (the work); the ties are given (YtifeiepociopoaaDoorTie.lean); close each card by the builder's one call (the guide's Derived/Test/ToyasCard.lean, 'card_holds'). Laid BY PROGRAM, IN A SANDBOX (cutbox-door.mjs). By AI agents, Wed Nov 11 2026. No macro, syntax, notation, axiom, sorry.
-/
import Derived.Test.YtifeiepociopoaaDoorRows
import GoSem.ClaimSeven
namespace Go.Proofs.YtifeiepociopoaaDoor
namespace Rows

/-- THE TIED CARD OF 'laws.FnExactFractionText'. -/
def fnExactFractionTextCard : Claim7 := { stood := { row := fnExactFractionTextRow, standIns := [], harness := (true, "8f8684f19fa4e6c04da00b17f3d6967a2f3663e3cbbecb6fb70e877c8a113bbb"), looks := true }, kinds := [], alts := [], laidByText := true, laidKinds := [.data, .data, .data], laidTests := true, laidLooks := .later }
def FnExactFractionTextCardSaid : Prop := Claim7.holds Tryd.pinned (.plain (OpenSpec.ofChange fnExactFractionTextSpec)) fnExactFractionTextCard

/-- THE TIED CARD OF 'laws.FnFractionText'. -/
def fnFractionTextCard : Claim7 := { stood := { row := fnFractionTextRow, standIns := [], harness := (true, "8f8684f19fa4e6c04da00b17f3d6967a2f3663e3cbbecb6fb70e877c8a113bbb"), looks := true }, kinds := [], alts := [], laidByText := true, laidKinds := [.data, .data, .data, .sentinel, .sentinel], laidTests := true, laidLooks := .later }
def FnFractionTextCardSaid : Prop := Claim7.holds Tryd.pinned (.plain (OpenSpec.ofChange fnFractionTextSpec)) fnFractionTextCard

/-- THE TIED CARD OF 'laws.FnExactDecimalOf'. -/
def fnExactDecimalOfCard : Claim7 := { stood := { row := fnExactDecimalOfRow, standIns := [], harness := (true, "8f8684f19fa4e6c04da00b17f3d6967a2f3663e3cbbecb6fb70e877c8a113bbb"), looks := true }, kinds := [], alts := [], laidByText := true, laidKinds := [.data, .data, .data, .sentinel, .sentinel], laidTests := true, laidLooks := .later }
def FnExactDecimalOfCardSaid : Prop := Claim7.holds Tryd.pinned (.plain (OpenSpec.ofChange fnExactDecimalOfSpec)) fnExactDecimalOfCard

/-- THE TIED CARD OF 'laws.FnDecimalOf'. -/
def fnDecimalOfCard : Claim7 := { stood := { row := fnDecimalOfRow, standIns := [], harness := (true, "8f8684f19fa4e6c04da00b17f3d6967a2f3663e3cbbecb6fb70e877c8a113bbb"), looks := true }, kinds := [], alts := [], laidByText := true, laidKinds := [.data, .data, .data, .sentinel, .sentinel], laidTests := true, laidLooks := .later }
def FnDecimalOfCardSaid : Prop := Claim7.holds Tryd.pinned (.plain (OpenSpec.ofChange fnDecimalOfSpec)) fnDecimalOfCard

/-- THE TIED CARD OF 'laws.FnExactReadFraction'. -/
def fnExactReadFractionCard : Claim7 := { stood := { row := fnExactReadFractionRow, standIns := [], harness := (true, "8f8684f19fa4e6c04da00b17f3d6967a2f3663e3cbbecb6fb70e877c8a113bbb"), looks := true }, kinds := [], alts := [], laidByText := true, laidKinds := [.data, .data, .data, .sentinel, .sentinel], laidTests := true, laidLooks := .later }
def FnExactReadFractionCardSaid : Prop := Claim7.holds Tryd.pinned (.plain (OpenSpec.ofChange fnExactReadFractionSpec)) fnExactReadFractionCard

/-- THE TIED CARD OF 'laws.FnReadFraction'. -/
def fnReadFractionCard : Claim7 := { stood := { row := fnReadFractionRow, standIns := [], harness := (true, "8f8684f19fa4e6c04da00b17f3d6967a2f3663e3cbbecb6fb70e877c8a113bbb"), looks := true }, kinds := [], alts := [], laidByText := true, laidKinds := [.data, .data, .data, .sentinel, .sentinel], laidTests := true, laidLooks := .later }
def FnReadFractionCardSaid : Prop := Claim7.holds Tryd.pinned (.plain (OpenSpec.ofChange fnReadFractionSpec)) fnReadFractionCard

/-- THE TIED CARD OF 'laws.FnCellValid'. -/
def fnCellValidCard : Claim7 := { stood := { row := fnCellValidRow, standIns := [], harness := (true, "8f8684f19fa4e6c04da00b17f3d6967a2f3663e3cbbecb6fb70e877c8a113bbb"), looks := true }, kinds := [], alts := [], laidByText := true, laidKinds := [.data, .data, .data, .data, .sentinel, .sentinel, .pinned], laidTests := true, laidLooks := .later }
def FnCellValidCardSaid : Prop := Claim7.holds Tryd.pinned (.plain (OpenSpec.ofChange fnCellValidSpec)) fnCellValidCard

/-- THE SECOND FORM's CARD OF 'laws.FnExactFractionText'. -/
def fnExactFractionTextUptoCard : Claim7 := { stood := { row := fnExactFractionTextUptoRow, standIns := [], harness := (true, "8f8684f19fa4e6c04da00b17f3d6967a2f3663e3cbbecb6fb70e877c8a113bbb"), looks := true }, kinds := [], alts := [], laidByText := true, laidKinds := [.data, .data, .data], laidTests := true, laidLooks := .later }
def FnExactFractionTextUptoCardSaid : Prop := Claim7.holds Tryd.pinned (.plain (OpenSpec.upto fnExactFractionTextSpec)) fnExactFractionTextUptoCard

/-- THE SECOND FORM's CARD OF 'laws.FnFractionText'. -/
def fnFractionTextUptoCard : Claim7 := { stood := { row := fnFractionTextUptoRow, standIns := [], harness := (true, "8f8684f19fa4e6c04da00b17f3d6967a2f3663e3cbbecb6fb70e877c8a113bbb"), looks := true }, kinds := [], alts := [], laidByText := true, laidKinds := [.data, .data, .data, .sentinel, .sentinel], laidTests := true, laidLooks := .later }
def FnFractionTextUptoCardSaid : Prop := Claim7.holds Tryd.pinned (.plain (OpenSpec.upto fnFractionTextSpec)) fnFractionTextUptoCard

/-- THE SECOND FORM's CARD OF 'laws.FnExactDecimalOf'. -/
def fnExactDecimalOfUptoCard : Claim7 := { stood := { row := fnExactDecimalOfUptoRow, standIns := [], harness := (true, "8f8684f19fa4e6c04da00b17f3d6967a2f3663e3cbbecb6fb70e877c8a113bbb"), looks := true }, kinds := [], alts := [], laidByText := true, laidKinds := [.data, .data, .data, .sentinel, .sentinel], laidTests := true, laidLooks := .later }
def FnExactDecimalOfUptoCardSaid : Prop := Claim7.holds Tryd.pinned (.plain (OpenSpec.upto fnExactDecimalOfSpec)) fnExactDecimalOfUptoCard

/-- THE SECOND FORM's CARD OF 'laws.FnDecimalOf'. -/
def fnDecimalOfUptoCard : Claim7 := { stood := { row := fnDecimalOfUptoRow, standIns := [], harness := (true, "8f8684f19fa4e6c04da00b17f3d6967a2f3663e3cbbecb6fb70e877c8a113bbb"), looks := true }, kinds := [], alts := [], laidByText := true, laidKinds := [.data, .data, .data, .sentinel, .sentinel], laidTests := true, laidLooks := .later }
def FnDecimalOfUptoCardSaid : Prop := Claim7.holds Tryd.pinned (.plain (OpenSpec.upto fnDecimalOfSpec)) fnDecimalOfUptoCard

/-- THE SECOND FORM's CARD OF 'laws.FnExactReadFraction'. -/
def fnExactReadFractionUptoCard : Claim7 := { stood := { row := fnExactReadFractionUptoRow, standIns := [], harness := (true, "8f8684f19fa4e6c04da00b17f3d6967a2f3663e3cbbecb6fb70e877c8a113bbb"), looks := true }, kinds := [], alts := [], laidByText := true, laidKinds := [.data, .data, .data, .sentinel, .sentinel], laidTests := true, laidLooks := .later }
def FnExactReadFractionUptoCardSaid : Prop := Claim7.holds Tryd.pinned (.plain (OpenSpec.upto fnExactReadFractionSpec)) fnExactReadFractionUptoCard

/-- THE SECOND FORM's CARD OF 'laws.FnReadFraction'. -/
def fnReadFractionUptoCard : Claim7 := { stood := { row := fnReadFractionUptoRow, standIns := [], harness := (true, "8f8684f19fa4e6c04da00b17f3d6967a2f3663e3cbbecb6fb70e877c8a113bbb"), looks := true }, kinds := [], alts := [], laidByText := true, laidKinds := [.data, .data, .data, .sentinel, .sentinel], laidTests := true, laidLooks := .later }
def FnReadFractionUptoCardSaid : Prop := Claim7.holds Tryd.pinned (.plain (OpenSpec.upto fnReadFractionSpec)) fnReadFractionUptoCard

/-- THE SECOND FORM's CARD OF 'laws.FnCellValid'. -/
def fnCellValidUptoCard : Claim7 := { stood := { row := fnCellValidUptoRow, standIns := [], harness := (true, "8f8684f19fa4e6c04da00b17f3d6967a2f3663e3cbbecb6fb70e877c8a113bbb"), looks := true }, kinds := [], alts := [], laidByText := true, laidKinds := [.data, .data, .data, .data, .sentinel, .sentinel, .pinned], laidTests := true, laidLooks := .later }
def FnCellValidUptoCardSaid : Prop := Claim7.holds Tryd.pinned (.plain (OpenSpec.upto fnCellValidSpec)) fnCellValidUptoCard
end Rows
end Go.Proofs.YtifeiepociopoaaDoor
