/-
  No cell of these rows narrows 'for every input' (looked for: loops, veiled, ifaces, maps, wideKeys, modest, calm, conditions, laid).
  DERIVED. THE GIVEN ROWS OF THIS SEAT. 12 by the template 'for every input the law returns true; each argument reads behind the call as it read before'; 0 by the template 'total and deterministic' (their statements: YtidcobnbnedjdaaTotals.lean).
  GIVEN WITH THE SEED: the statements are not yours to turn. If you find one false, say at which input.
  Laid BY PROGRAM, IN A SANDBOX (cutbox-rows.mjs): the forced cells as the released guide's own fill.sh prints them over the translation ef03e3ec45cd80a6… (all of the seat's roots in one cut). By AI agents, Wed Nov 11 2026. No macro, syntax, notation, axiom, sorry.
-/
import Derived.Test.YtidcobnbnedjdaaChecked
import GoSem.Claim
import GoSem.ClaimJoined
import GoSem.ClaimMapViews
import Derived.JoinedTies
import Derived.KernelRfl
namespace Go.Proofs.Ytidcobnbnedjdaa
/- THE CELL 'sum', in the pinned program and in every row, IS THE sha256 OF THE DUMP (.gsa) THAT YtidcobnbnedjdaaProg.lean LOADS. Nothing in Lean hashes anything: it is a label: what it is worth is what the hold of that sum in a sandbox is worth. -/
noncomputable def Try.pinned : Pinned := { name := "ytidcobnbnedjdaa", sum := "ef03e3ec45cd80a65d10d0ab409981c697d5d7e1f97a6603e478b92833d1be4c", checked := Try.checked }
namespace Rows
def none {H : Type} : Left H := { results := [], args := [] }

/-- 'laws.FnExactConstants': WHATEVER THE INPUT: true; the input reads as it did. -/
def fnExactConstantsSpec : ChangeSpec := { name := "fnExactConstants", fn := fun _ => fun
  | [] => { results := [.lit (.bool true)], args := [] }
  | _ => none }
def fnExactConstantsRow : OpenClaim := { program := "ytidcobnbnedjdaa", sum := "ef03e3ec45cd80a65d10d0ab409981c697d5d7e1f97a6603e478b92833d1be4c", func := "loop.example/configformatter/laws.FnExactConstants", spec := "fnExactConstants", apart := false }
def FnExactConstantsSaid : Prop := fnExactConstantsRow.holds Try.pinned (OpenSpec.ofChange fnExactConstantsSpec)

/-- ITS FALSE NEIGHBOUR: 'it returns false'. Refute it at one input. -/
def fnExactConstantsWrong : ChangeSpec := { name := "fnExactConstants", fn := fun _ => fun
  | [] => { results := [.lit (.bool false)], args := [] }
  | _ => none }
def FnExactConstantsWrongFalsely : Prop := fnExactConstantsRow.holds Try.pinned (OpenSpec.ofChange fnExactConstantsWrong)

/-- 'laws.FnExactTextValid': WHATEVER THE INPUT: true; the input reads as it did. -/
def fnExactTextValidSpec : ChangeSpec := { name := "fnExactTextValid", fn := fun _ => fun
  | [d] => { results := [.lit (.bool true)], args := [d] }
  | _ => none }
def fnExactTextValidRow : OpenClaim := { program := "ytidcobnbnedjdaa", sum := "ef03e3ec45cd80a65d10d0ab409981c697d5d7e1f97a6603e478b92833d1be4c", func := "loop.example/configformatter/laws.FnExactTextValid", spec := "fnExactTextValid", apart := false }
def FnExactTextValidSaid : Prop := fnExactTextValidRow.holds Try.pinned (OpenSpec.ofChange fnExactTextValidSpec)

/-- ITS FALSE NEIGHBOUR: 'it returns false'. Refute it at one input. -/
def fnExactTextValidWrong : ChangeSpec := { name := "fnExactTextValid", fn := fun _ => fun
  | [d] => { results := [.lit (.bool false)], args := [d] }
  | _ => none }
def FnExactTextValidWrongFalsely : Prop := fnExactTextValidRow.holds Try.pinned (OpenSpec.ofChange fnExactTextValidWrong)

/-- 'laws.FnExactFractionValid': WHATEVER THE INPUT: true; the input reads as it did. -/
def fnExactFractionValidSpec : ChangeSpec := { name := "fnExactFractionValid", fn := fun _ => fun
  | [d] => { results := [.lit (.bool true)], args := [d] }
  | _ => none }
def fnExactFractionValidRow : OpenClaim := { program := "ytidcobnbnedjdaa", sum := "ef03e3ec45cd80a65d10d0ab409981c697d5d7e1f97a6603e478b92833d1be4c", func := "loop.example/configformatter/laws.FnExactFractionValid", spec := "fnExactFractionValid", apart := false }
def FnExactFractionValidSaid : Prop := fnExactFractionValidRow.holds Try.pinned (OpenSpec.ofChange fnExactFractionValidSpec)

/-- ITS FALSE NEIGHBOUR: 'it returns false'. Refute it at one input. -/
def fnExactFractionValidWrong : ChangeSpec := { name := "fnExactFractionValid", fn := fun _ => fun
  | [d] => { results := [.lit (.bool false)], args := [d] }
  | _ => none }
def FnExactFractionValidWrongFalsely : Prop := fnExactFractionValidRow.holds Try.pinned (OpenSpec.ofChange fnExactFractionValidWrong)

/-- 'laws.FnExactQuoteText': WHATEVER THE INPUT: true; the input reads as it did. -/
def fnExactQuoteTextSpec : ChangeSpec := { name := "fnExactQuoteText", fn := fun _ => fun
  | [d] => { results := [.lit (.bool true)], args := [d] }
  | _ => none }
def fnExactQuoteTextRow : OpenClaim := { program := "ytidcobnbnedjdaa", sum := "ef03e3ec45cd80a65d10d0ab409981c697d5d7e1f97a6603e478b92833d1be4c", func := "loop.example/configformatter/laws.FnExactQuoteText", spec := "fnExactQuoteText", apart := false }
def FnExactQuoteTextSaid : Prop := fnExactQuoteTextRow.holds Try.pinned (OpenSpec.ofChange fnExactQuoteTextSpec)

/-- ITS FALSE NEIGHBOUR: 'it returns false'. Refute it at one input. -/
def fnExactQuoteTextWrong : ChangeSpec := { name := "fnExactQuoteText", fn := fun _ => fun
  | [d] => { results := [.lit (.bool false)], args := [d] }
  | _ => none }
def FnExactQuoteTextWrongFalsely : Prop := fnExactQuoteTextRow.holds Try.pinned (OpenSpec.ofChange fnExactQuoteTextWrong)

/-- 'laws.FnExactCompareFractions': WHATEVER THE INPUT: true; the input reads as it did. -/
def fnExactCompareFractionsSpec : ChangeSpec := { name := "fnExactCompareFractions", fn := fun _ => fun
  | [d1, d2] => { results := [.lit (.bool true)], args := [d1, d2] }
  | _ => none }
def fnExactCompareFractionsRow : OpenClaim := { program := "ytidcobnbnedjdaa", sum := "ef03e3ec45cd80a65d10d0ab409981c697d5d7e1f97a6603e478b92833d1be4c", func := "loop.example/configformatter/laws.FnExactCompareFractions", spec := "fnExactCompareFractions", apart := false }
def FnExactCompareFractionsSaid : Prop := fnExactCompareFractionsRow.holds Try.pinned (OpenSpec.ofChange fnExactCompareFractionsSpec)

/-- ITS FALSE NEIGHBOUR: 'it returns false'. Refute it at one input. -/
def fnExactCompareFractionsWrong : ChangeSpec := { name := "fnExactCompareFractions", fn := fun _ => fun
  | [d1, d2] => { results := [.lit (.bool false)], args := [d1, d2] }
  | _ => none }
def FnExactCompareFractionsWrongFalsely : Prop := fnExactCompareFractionsRow.holds Try.pinned (OpenSpec.ofChange fnExactCompareFractionsWrong)

/-- 'laws.FnTextValid': WHATEVER THE INPUT: true; the input reads as it did. -/
def fnTextValidSpec : ChangeSpec := { name := "fnTextValid", fn := fun _ => fun
  | [d] => { results := [.lit (.bool true)], args := [d] }
  | _ => none }
def fnTextValidRow : OpenClaim := { program := "ytidcobnbnedjdaa", sum := "ef03e3ec45cd80a65d10d0ab409981c697d5d7e1f97a6603e478b92833d1be4c", func := "loop.example/configformatter/laws.FnTextValid", spec := "fnTextValid", apart := false }
def FnTextValidSaid : Prop := fnTextValidRow.holds Try.pinned (OpenSpec.ofChange fnTextValidSpec)

/-- ITS FALSE NEIGHBOUR: 'it returns false'. Refute it at one input. -/
def fnTextValidWrong : ChangeSpec := { name := "fnTextValid", fn := fun _ => fun
  | [d] => { results := [.lit (.bool false)], args := [d] }
  | _ => none }
def FnTextValidWrongFalsely : Prop := fnTextValidRow.holds Try.pinned (OpenSpec.ofChange fnTextValidWrong)

/-- 'laws.FnExactAddFractions': WHATEVER THE INPUT: true; the input reads as it did. -/
def fnExactAddFractionsSpec : ChangeSpec := { name := "fnExactAddFractions", fn := fun _ => fun
  | [d1, d2] => { results := [.lit (.bool true)], args := [d1, d2] }
  | _ => none }
def fnExactAddFractionsRow : OpenClaim := { program := "ytidcobnbnedjdaa", sum := "ef03e3ec45cd80a65d10d0ab409981c697d5d7e1f97a6603e478b92833d1be4c", func := "loop.example/configformatter/laws.FnExactAddFractions", spec := "fnExactAddFractions", apart := false }
def FnExactAddFractionsSaid : Prop := fnExactAddFractionsRow.holds Try.pinned (OpenSpec.ofChange fnExactAddFractionsSpec)

/-- ITS FALSE NEIGHBOUR: 'it returns false'. Refute it at one input. -/
def fnExactAddFractionsWrong : ChangeSpec := { name := "fnExactAddFractions", fn := fun _ => fun
  | [d1, d2] => { results := [.lit (.bool false)], args := [d1, d2] }
  | _ => none }
def FnExactAddFractionsWrongFalsely : Prop := fnExactAddFractionsRow.holds Try.pinned (OpenSpec.ofChange fnExactAddFractionsWrong)

/-- 'laws.FnExactMulFractions': WHATEVER THE INPUT: true; the input reads as it did. -/
def fnExactMulFractionsSpec : ChangeSpec := { name := "fnExactMulFractions", fn := fun _ => fun
  | [d1, d2] => { results := [.lit (.bool true)], args := [d1, d2] }
  | _ => none }
def fnExactMulFractionsRow : OpenClaim := { program := "ytidcobnbnedjdaa", sum := "ef03e3ec45cd80a65d10d0ab409981c697d5d7e1f97a6603e478b92833d1be4c", func := "loop.example/configformatter/laws.FnExactMulFractions", spec := "fnExactMulFractions", apart := false }
def FnExactMulFractionsSaid : Prop := fnExactMulFractionsRow.holds Try.pinned (OpenSpec.ofChange fnExactMulFractionsSpec)

/-- ITS FALSE NEIGHBOUR: 'it returns false'. Refute it at one input. -/
def fnExactMulFractionsWrong : ChangeSpec := { name := "fnExactMulFractions", fn := fun _ => fun
  | [d1, d2] => { results := [.lit (.bool false)], args := [d1, d2] }
  | _ => none }
def FnExactMulFractionsWrongFalsely : Prop := fnExactMulFractionsRow.holds Try.pinned (OpenSpec.ofChange fnExactMulFractionsWrong)

/-- 'laws.FnFractionValid': WHATEVER THE INPUT: true; the input reads as it did. -/
def fnFractionValidSpec : ChangeSpec := { name := "fnFractionValid", fn := fun _ => fun
  | [d] => { results := [.lit (.bool true)], args := [d] }
  | _ => none }
def fnFractionValidRow : OpenClaim := { program := "ytidcobnbnedjdaa", sum := "ef03e3ec45cd80a65d10d0ab409981c697d5d7e1f97a6603e478b92833d1be4c", func := "loop.example/configformatter/laws.FnFractionValid", spec := "fnFractionValid", apart := false }
def FnFractionValidSaid : Prop := fnFractionValidRow.holds Try.pinned (OpenSpec.ofChange fnFractionValidSpec)

/-- ITS FALSE NEIGHBOUR: 'it returns false'. Refute it at one input. -/
def fnFractionValidWrong : ChangeSpec := { name := "fnFractionValid", fn := fun _ => fun
  | [d] => { results := [.lit (.bool false)], args := [d] }
  | _ => none }
def FnFractionValidWrongFalsely : Prop := fnFractionValidRow.holds Try.pinned (OpenSpec.ofChange fnFractionValidWrong)

/-- 'laws.FnExactDivFractions': WHATEVER THE INPUT: true; the input reads as it did. -/
def fnExactDivFractionsSpec : ChangeSpec := { name := "fnExactDivFractions", fn := fun _ => fun
  | [d1, d2] => { results := [.lit (.bool true)], args := [d1, d2] }
  | _ => none }
def fnExactDivFractionsRow : OpenClaim := { program := "ytidcobnbnedjdaa", sum := "ef03e3ec45cd80a65d10d0ab409981c697d5d7e1f97a6603e478b92833d1be4c", func := "loop.example/configformatter/laws.FnExactDivFractions", spec := "fnExactDivFractions", apart := false }
def FnExactDivFractionsSaid : Prop := fnExactDivFractionsRow.holds Try.pinned (OpenSpec.ofChange fnExactDivFractionsSpec)

/-- ITS FALSE NEIGHBOUR: 'it returns false'. Refute it at one input. -/
def fnExactDivFractionsWrong : ChangeSpec := { name := "fnExactDivFractions", fn := fun _ => fun
  | [d1, d2] => { results := [.lit (.bool false)], args := [d1, d2] }
  | _ => none }
def FnExactDivFractionsWrongFalsely : Prop := fnExactDivFractionsRow.holds Try.pinned (OpenSpec.ofChange fnExactDivFractionsWrong)

/-- 'laws.FnExactUnquoteText': WHATEVER THE INPUT: true; the input reads as it did. -/
def fnExactUnquoteTextSpec : ChangeSpec := { name := "fnExactUnquoteText", fn := fun _ => fun
  | [d] => { results := [.lit (.bool true)], args := [d] }
  | _ => none }
def fnExactUnquoteTextRow : OpenClaim := { program := "ytidcobnbnedjdaa", sum := "ef03e3ec45cd80a65d10d0ab409981c697d5d7e1f97a6603e478b92833d1be4c", func := "loop.example/configformatter/laws.FnExactUnquoteText", spec := "fnExactUnquoteText", apart := false }
def FnExactUnquoteTextSaid : Prop := fnExactUnquoteTextRow.holds Try.pinned (OpenSpec.ofChange fnExactUnquoteTextSpec)

/-- ITS FALSE NEIGHBOUR: 'it returns false'. Refute it at one input. -/
def fnExactUnquoteTextWrong : ChangeSpec := { name := "fnExactUnquoteText", fn := fun _ => fun
  | [d] => { results := [.lit (.bool false)], args := [d] }
  | _ => none }
def FnExactUnquoteTextWrongFalsely : Prop := fnExactUnquoteTextRow.holds Try.pinned (OpenSpec.ofChange fnExactUnquoteTextWrong)

/-- 'laws.FnFractionShare': WHATEVER THE INPUT: true; the input reads as it did. -/
def fnFractionShareSpec : ChangeSpec := { name := "fnFractionShare", fn := fun _ => fun
  | [d1, d2] => { results := [.lit (.bool true)], args := [d1, d2] }
  | _ => none }
def fnFractionShareRow : OpenClaim := { program := "ytidcobnbnedjdaa", sum := "ef03e3ec45cd80a65d10d0ab409981c697d5d7e1f97a6603e478b92833d1be4c", func := "loop.example/configformatter/laws.FnFractionShare", spec := "fnFractionShare", apart := false }
def FnFractionShareSaid : Prop := fnFractionShareRow.holds Try.pinned (OpenSpec.ofChange fnFractionShareSpec)

/-- ITS FALSE NEIGHBOUR: 'it returns false'. Refute it at one input. -/
def fnFractionShareWrong : ChangeSpec := { name := "fnFractionShare", fn := fun _ => fun
  | [d1, d2] => { results := [.lit (.bool false)], args := [d1, d2] }
  | _ => none }
def FnFractionShareWrongFalsely : Prop := fnFractionShareRow.holds Try.pinned (OpenSpec.ofChange fnFractionShareWrong)

/- THE SECOND FORM. 'bulk': how many values and letters a reading holds, each counted each time it is reached (what is shared counts as often as it is met; a slice's spare places count too). A statement '..UptoSaid' is the law's where the arguments, and the package variables that the reading takes, are together of bulk at most 1048576: NARROWER than '..Said'. Prove '..Said' where nothing that the law and all that it calls make is longer than what came in: it says more and counts as full. Else prove '..UptoSaid'. A law counts once. -/
mutual
def uptoBulk {H : Type} : DataW H → Nat
  | .lit (.string bytes) => bytes.length + 1
  | .lit _ => 1
  | .nil => 1
  | .ptr d => uptoBulk d + 1
  | .slice elems spare => uptoBulkAll elems + uptoBulkAll spare + 1
  | .agg parts => uptoBulkAll parts + 1
  | .iface _ d => uptoBulk d + 1
  | .map entries => uptoBulkEntries entries + 1
  | .held _ => 1
def uptoBulkAll {H : Type} : List (DataW H) → Nat
  | [] => 0
  | d :: r => uptoBulk d + uptoBulkAll r
def uptoBulkEntries {H : Type} : List (Lit × DataW H) → Nat
  | [] => 0
  | x :: r => uptoBulkEntry x + uptoBulkEntries r
def uptoBulkEntry {H : Type} : Lit × DataW H → Nat
  | (.string bytes, d) => bytes.length + uptoBulk d + 1
  | (_, d) => uptoBulk d + 1
 end
def uptoSmall : (H : Type) → List (DataW H) → Bool := fun _ ds => decide (uptoBulkAll ds ≤ 1048576)
def OpenSpec.upto (s : _root_.Go.ChangeSpec) : _root_.Go.OpenSpec := { _root_.Go.OpenSpec.ofChange s with cond := some uptoSmall }

/-- 'laws.FnExactConstants', WHERE WHAT IT READS IS OF BULK AT MOST 1048576: true; the input reads as it did. -/
def fnExactConstantsUptoRow : OpenClaim := { program := "ytidcobnbnedjdaa", sum := "ef03e3ec45cd80a65d10d0ab409981c697d5d7e1f97a6603e478b92833d1be4c", func := "loop.example/configformatter/laws.FnExactConstants", spec := "fnExactConstants", apart := false, narrowed := true }
def FnExactConstantsUptoSaid : Prop := fnExactConstantsUptoRow.holds Try.pinned (OpenSpec.upto fnExactConstantsSpec)

/-- 'laws.FnExactTextValid', WHERE WHAT IT READS IS OF BULK AT MOST 1048576: true; the input reads as it did. -/
def fnExactTextValidUptoRow : OpenClaim := { program := "ytidcobnbnedjdaa", sum := "ef03e3ec45cd80a65d10d0ab409981c697d5d7e1f97a6603e478b92833d1be4c", func := "loop.example/configformatter/laws.FnExactTextValid", spec := "fnExactTextValid", apart := false, narrowed := true }
def FnExactTextValidUptoSaid : Prop := fnExactTextValidUptoRow.holds Try.pinned (OpenSpec.upto fnExactTextValidSpec)

/-- 'laws.FnExactFractionValid', WHERE WHAT IT READS IS OF BULK AT MOST 1048576: true; the input reads as it did. -/
def fnExactFractionValidUptoRow : OpenClaim := { program := "ytidcobnbnedjdaa", sum := "ef03e3ec45cd80a65d10d0ab409981c697d5d7e1f97a6603e478b92833d1be4c", func := "loop.example/configformatter/laws.FnExactFractionValid", spec := "fnExactFractionValid", apart := false, narrowed := true }
def FnExactFractionValidUptoSaid : Prop := fnExactFractionValidUptoRow.holds Try.pinned (OpenSpec.upto fnExactFractionValidSpec)

/-- 'laws.FnExactQuoteText', WHERE WHAT IT READS IS OF BULK AT MOST 1048576: true; the input reads as it did. -/
def fnExactQuoteTextUptoRow : OpenClaim := { program := "ytidcobnbnedjdaa", sum := "ef03e3ec45cd80a65d10d0ab409981c697d5d7e1f97a6603e478b92833d1be4c", func := "loop.example/configformatter/laws.FnExactQuoteText", spec := "fnExactQuoteText", apart := false, narrowed := true }
def FnExactQuoteTextUptoSaid : Prop := fnExactQuoteTextUptoRow.holds Try.pinned (OpenSpec.upto fnExactQuoteTextSpec)

/-- 'laws.FnExactCompareFractions', WHERE WHAT IT READS IS OF BULK AT MOST 1048576: true; the input reads as it did. -/
def fnExactCompareFractionsUptoRow : OpenClaim := { program := "ytidcobnbnedjdaa", sum := "ef03e3ec45cd80a65d10d0ab409981c697d5d7e1f97a6603e478b92833d1be4c", func := "loop.example/configformatter/laws.FnExactCompareFractions", spec := "fnExactCompareFractions", apart := false, narrowed := true }
def FnExactCompareFractionsUptoSaid : Prop := fnExactCompareFractionsUptoRow.holds Try.pinned (OpenSpec.upto fnExactCompareFractionsSpec)

/-- 'laws.FnTextValid', WHERE WHAT IT READS IS OF BULK AT MOST 1048576: true; the input reads as it did. -/
def fnTextValidUptoRow : OpenClaim := { program := "ytidcobnbnedjdaa", sum := "ef03e3ec45cd80a65d10d0ab409981c697d5d7e1f97a6603e478b92833d1be4c", func := "loop.example/configformatter/laws.FnTextValid", spec := "fnTextValid", apart := false, narrowed := true }
def FnTextValidUptoSaid : Prop := fnTextValidUptoRow.holds Try.pinned (OpenSpec.upto fnTextValidSpec)

/-- 'laws.FnExactAddFractions', WHERE WHAT IT READS IS OF BULK AT MOST 1048576: true; the input reads as it did. -/
def fnExactAddFractionsUptoRow : OpenClaim := { program := "ytidcobnbnedjdaa", sum := "ef03e3ec45cd80a65d10d0ab409981c697d5d7e1f97a6603e478b92833d1be4c", func := "loop.example/configformatter/laws.FnExactAddFractions", spec := "fnExactAddFractions", apart := false, narrowed := true }
def FnExactAddFractionsUptoSaid : Prop := fnExactAddFractionsUptoRow.holds Try.pinned (OpenSpec.upto fnExactAddFractionsSpec)

/-- 'laws.FnExactMulFractions', WHERE WHAT IT READS IS OF BULK AT MOST 1048576: true; the input reads as it did. -/
def fnExactMulFractionsUptoRow : OpenClaim := { program := "ytidcobnbnedjdaa", sum := "ef03e3ec45cd80a65d10d0ab409981c697d5d7e1f97a6603e478b92833d1be4c", func := "loop.example/configformatter/laws.FnExactMulFractions", spec := "fnExactMulFractions", apart := false, narrowed := true }
def FnExactMulFractionsUptoSaid : Prop := fnExactMulFractionsUptoRow.holds Try.pinned (OpenSpec.upto fnExactMulFractionsSpec)

/-- 'laws.FnFractionValid', WHERE WHAT IT READS IS OF BULK AT MOST 1048576: true; the input reads as it did. -/
def fnFractionValidUptoRow : OpenClaim := { program := "ytidcobnbnedjdaa", sum := "ef03e3ec45cd80a65d10d0ab409981c697d5d7e1f97a6603e478b92833d1be4c", func := "loop.example/configformatter/laws.FnFractionValid", spec := "fnFractionValid", apart := false, narrowed := true }
def FnFractionValidUptoSaid : Prop := fnFractionValidUptoRow.holds Try.pinned (OpenSpec.upto fnFractionValidSpec)

/-- 'laws.FnExactDivFractions', WHERE WHAT IT READS IS OF BULK AT MOST 1048576: true; the input reads as it did. -/
def fnExactDivFractionsUptoRow : OpenClaim := { program := "ytidcobnbnedjdaa", sum := "ef03e3ec45cd80a65d10d0ab409981c697d5d7e1f97a6603e478b92833d1be4c", func := "loop.example/configformatter/laws.FnExactDivFractions", spec := "fnExactDivFractions", apart := false, narrowed := true }
def FnExactDivFractionsUptoSaid : Prop := fnExactDivFractionsUptoRow.holds Try.pinned (OpenSpec.upto fnExactDivFractionsSpec)

/-- 'laws.FnExactUnquoteText', WHERE WHAT IT READS IS OF BULK AT MOST 1048576: true; the input reads as it did. -/
def fnExactUnquoteTextUptoRow : OpenClaim := { program := "ytidcobnbnedjdaa", sum := "ef03e3ec45cd80a65d10d0ab409981c697d5d7e1f97a6603e478b92833d1be4c", func := "loop.example/configformatter/laws.FnExactUnquoteText", spec := "fnExactUnquoteText", apart := false, narrowed := true }
def FnExactUnquoteTextUptoSaid : Prop := fnExactUnquoteTextUptoRow.holds Try.pinned (OpenSpec.upto fnExactUnquoteTextSpec)

/-- 'laws.FnFractionShare', WHERE WHAT IT READS IS OF BULK AT MOST 1048576: true; the input reads as it did. -/
def fnFractionShareUptoRow : OpenClaim := { program := "ytidcobnbnedjdaa", sum := "ef03e3ec45cd80a65d10d0ab409981c697d5d7e1f97a6603e478b92833d1be4c", func := "loop.example/configformatter/laws.FnFractionShare", spec := "fnFractionShare", apart := false, narrowed := true }
def FnFractionShareUptoSaid : Prop := fnFractionShareUptoRow.holds Try.pinned (OpenSpec.upto fnFractionShareSpec)

end Rows
end Go.Proofs.Ytidcobnbnedjdaa
