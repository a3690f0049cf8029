/-
  DERIVED. GIVEN WITH THE SEED: THE CARDS: each row of YteloagahkphiaaaDoorRows.lean that lists a variable, with what it lists TIED to the program's text (the seventh form; the later family's looks); each row that meets fmt, with fmt's text TOLD by the authors' own Lean function (tested against real Go, not proved from fmt's source: count such statements apart). THE CARD IS WHAT COUNTS. Prove the row's statement (the work); the ties are given (YteloagahkphiaaaDoorTie.lean); close each card by the builder's one call (the guide's Derived/Test/ToyasCard.lean, 'card_holds'). Laid BY PROGRAM, IN A SANDBOX (cutbox-door.mjs). By AI agents, Wed Nov 11 2026. No macro, syntax, notation, axiom, sorry.
-/
import Derived.Test.YteloagahkphiaaaDoorRows
import GoSem.ClaimSeven
namespace Go.Proofs.YteloagahkphiaaaDoor
namespace Rows

/-- THE TIED CARD OF 'laws.FnExactLinesOf'. -/
def fnExactLinesOfCard : Claim7 := { stood := { row := fnExactLinesOfRow, standIns := [], harness := (true, "47dae46f188c8c8b6e8d997ccbb3de952d99c0a7036924855f140314691a3f6e"), looks := false }, kinds := [], alts := [], laidByText := true, laidKinds := [.data, .pinned], laidTests := true, laidLooks := .later }
def FnExactLinesOfCardSaid : Prop := Claim7.holds Tryd.pinned (.plain (OpenSpec.ofChange fnExactLinesOfSpec)) fnExactLinesOfCard

/-- THE TIED CARD OF 'laws.FnTextJoin'. -/
def fnTextJoinCard : Claim7 := { stood := { row := fnTextJoinRow, standIns := [], harness := (true, "47dae46f188c8c8b6e8d997ccbb3de952d99c0a7036924855f140314691a3f6e"), looks := false }, kinds := [], alts := [], laidByText := true, laidKinds := [.data, .pinned], laidTests := true, laidLooks := .later }
def FnTextJoinCardSaid : Prop := Claim7.holds Tryd.pinned (.plain (OpenSpec.ofChange fnTextJoinSpec)) fnTextJoinCard

/-- THE TIED CARD OF 'laws.FnLinesOf'. -/
def fnLinesOfCard : Claim7 := { stood := { row := fnLinesOfRow, standIns := [], harness := (true, "47dae46f188c8c8b6e8d997ccbb3de952d99c0a7036924855f140314691a3f6e"), looks := false }, kinds := [], alts := [], laidByText := true, laidKinds := [.data, .pinned], laidTests := true, laidLooks := .later }
def FnLinesOfCardSaid : Prop := Claim7.holds Tryd.pinned (.plain (OpenSpec.ofChange fnLinesOfSpec)) fnLinesOfCard

/-- THE TIED CARD OF 'laws.FnLinesText'. -/
def fnLinesTextCard : Claim7 := { stood := { row := fnLinesTextRow, standIns := [], harness := (true, "47dae46f188c8c8b6e8d997ccbb3de952d99c0a7036924855f140314691a3f6e"), looks := false }, kinds := [], alts := [], laidByText := true, laidKinds := [.data, .pinned], laidTests := true, laidLooks := .later }
def FnLinesTextCardSaid : Prop := Claim7.holds Tryd.pinned (.plain (OpenSpec.ofChange fnLinesTextSpec)) fnLinesTextCard

/-- THE TIED CARD OF 'laws.FnExactNameValid'. -/
def fnExactNameValidCard : Claim7 := { stood := { row := fnExactNameValidRow, standIns := [], harness := (true, "47dae46f188c8c8b6e8d997ccbb3de952d99c0a7036924855f140314691a3f6e"), looks := false }, kinds := [], alts := [], laidByText := true, laidKinds := [.data, .pinned], laidTests := true, laidLooks := .later }
def FnExactNameValidCardSaid : Prop := Claim7.holds Tryd.pinned (.plain (OpenSpec.ofChange fnExactNameValidSpec)) fnExactNameValidCard

/-- THE TIED CARD OF 'laws.FnNameValid'. -/
def fnNameValidCard : Claim7 := { stood := { row := fnNameValidRow, standIns := [], harness := (true, "47dae46f188c8c8b6e8d997ccbb3de952d99c0a7036924855f140314691a3f6e"), looks := false }, kinds := [], alts := [], laidByText := true, laidKinds := [.data, .pinned], laidTests := true, laidLooks := .later }
def FnNameValidCardSaid : Prop := Claim7.holds Tryd.pinned (.plain (OpenSpec.ofChange fnNameValidSpec)) fnNameValidCard

/-- THE SECOND FORM's CARD OF 'laws.FnExactLinesOf'. -/
def fnExactLinesOfUptoCard : Claim7 := { stood := { row := fnExactLinesOfUptoRow, standIns := [], harness := (true, "47dae46f188c8c8b6e8d997ccbb3de952d99c0a7036924855f140314691a3f6e"), looks := false }, kinds := [], alts := [], laidByText := true, laidKinds := [.data, .pinned], laidTests := true, laidLooks := .later }
def FnExactLinesOfUptoCardSaid : Prop := Claim7.holds Tryd.pinned (.plain (OpenSpec.upto fnExactLinesOfSpec)) fnExactLinesOfUptoCard

/-- THE SECOND FORM's CARD OF 'laws.FnTextJoin'. -/
def fnTextJoinUptoCard : Claim7 := { stood := { row := fnTextJoinUptoRow, standIns := [], harness := (true, "47dae46f188c8c8b6e8d997ccbb3de952d99c0a7036924855f140314691a3f6e"), looks := false }, kinds := [], alts := [], laidByText := true, laidKinds := [.data, .pinned], laidTests := true, laidLooks := .later }
def FnTextJoinUptoCardSaid : Prop := Claim7.holds Tryd.pinned (.plain (OpenSpec.upto fnTextJoinSpec)) fnTextJoinUptoCard

/-- THE SECOND FORM's CARD OF 'laws.FnLinesOf'. -/
def fnLinesOfUptoCard : Claim7 := { stood := { row := fnLinesOfUptoRow, standIns := [], harness := (true, "47dae46f188c8c8b6e8d997ccbb3de952d99c0a7036924855f140314691a3f6e"), looks := false }, kinds := [], alts := [], laidByText := true, laidKinds := [.data, .pinned], laidTests := true, laidLooks := .later }
def FnLinesOfUptoCardSaid : Prop := Claim7.holds Tryd.pinned (.plain (OpenSpec.upto fnLinesOfSpec)) fnLinesOfUptoCard

/-- THE SECOND FORM's CARD OF 'laws.FnLinesText'. -/
def fnLinesTextUptoCard : Claim7 := { stood := { row := fnLinesTextUptoRow, standIns := [], harness := (true, "47dae46f188c8c8b6e8d997ccbb3de952d99c0a7036924855f140314691a3f6e"), looks := false }, kinds := [], alts := [], laidByText := true, laidKinds := [.data, .pinned], laidTests := true, laidLooks := .later }
def FnLinesTextUptoCardSaid : Prop := Claim7.holds Tryd.pinned (.plain (OpenSpec.upto fnLinesTextSpec)) fnLinesTextUptoCard

/-- THE SECOND FORM's CARD OF 'laws.FnExactNameValid'. -/
def fnExactNameValidUptoCard : Claim7 := { stood := { row := fnExactNameValidUptoRow, standIns := [], harness := (true, "47dae46f188c8c8b6e8d997ccbb3de952d99c0a7036924855f140314691a3f6e"), looks := false }, kinds := [], alts := [], laidByText := true, laidKinds := [.data, .pinned], laidTests := true, laidLooks := .later }
def FnExactNameValidUptoCardSaid : Prop := Claim7.holds Tryd.pinned (.plain (OpenSpec.upto fnExactNameValidSpec)) fnExactNameValidUptoCard

/-- THE SECOND FORM's CARD OF 'laws.FnNameValid'. -/
def fnNameValidUptoCard : Claim7 := { stood := { row := fnNameValidUptoRow, standIns := [], harness := (true, "47dae46f188c8c8b6e8d997ccbb3de952d99c0a7036924855f140314691a3f6e"), looks := false }, kinds := [], alts := [], laidByText := true, laidKinds := [.data, .pinned], laidTests := true, laidLooks := .later }
def FnNameValidUptoCardSaid : Prop := Claim7.holds Tryd.pinned (.plain (OpenSpec.upto fnNameValidSpec)) fnNameValidUptoCard
end Rows
end Go.Proofs.YteloagahkphiaaaDoor
