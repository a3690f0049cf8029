/-
  No cell of these rows narrows 'for every input' (looked for: loops, veiled, ifaces, maps, wideKeys, modest, calm, conditions, laid).
  DERIVED. THE GIVEN ROWS OF THIS SEAT. 6 by the template 'for every input the law returns true; each argument reads behind the call as it read before'; 0 by the template 'total and deterministic' (their statements: YtahjhpkaicpioaaTotals.lean).
  GIVEN WITH THE SEED: the statements are not yours to turn. If you find one false, say at which input.
  Laid BY PROGRAM, IN A SANDBOX (cutbox-rows.mjs): the forced cells as the released guide's own fill.sh prints them over the translation 0e1de44400f7abaa… (all of the seat's roots in one cut). By AI agents, Wed Nov 11 2026. No macro, syntax, notation, axiom, sorry.
-/
import Derived.Test.YtahjhpkaicpioaaChecked
import GoSem.Claim
import GoSem.ClaimJoined
import GoSem.ClaimMapViews
import Derived.JoinedTies
import Derived.KernelRfl
namespace Go.Proofs.Ytahjhpkaicpioaa
/- THE CELL 'sum', in the pinned program and in every row, IS THE sha256 OF THE DUMP (.gsa) THAT YtahjhpkaicpioaaProg.lean LOADS. Nothing in Lean hashes anything: it is a label: what it is worth is what the hold of that sum in a sandbox is worth. -/
noncomputable def Try.pinned : Pinned := { name := "ytahjhpkaicpioaa", sum := "0e1de44400f7abaad0ad3d311f49f2992efe8689c8f804a1f788dc59d02602ae", checked := Try.checked }
namespace Rows
def none {H : Type} : Left H := { results := [], args := [] }

/-- 'laws.FnCompareFractions': WHATEVER THE INPUT: true; the input reads as it did. -/
def fnCompareFractionsSpec : ChangeSpec := { name := "fnCompareFractions", fn := fun _ => fun
  | [d] => { results := [.lit (.bool true)], args := [d] }
  | _ => none }
def fnCompareFractionsRow : OpenClaim := { program := "ytahjhpkaicpioaa", sum := "0e1de44400f7abaad0ad3d311f49f2992efe8689c8f804a1f788dc59d02602ae", func := "loop.example/configformatter/laws.FnCompareFractions", spec := "fnCompareFractions", apart := false }
def FnCompareFractionsSaid : Prop := fnCompareFractionsRow.holds Try.pinned (OpenSpec.ofChange fnCompareFractionsSpec)

/-- ITS FALSE NEIGHBOUR: 'it returns false'. Refute it at one input. -/
def fnCompareFractionsWrong : ChangeSpec := { name := "fnCompareFractions", fn := fun _ => fun
  | [d] => { results := [.lit (.bool false)], args := [d] }
  | _ => none }
def FnCompareFractionsWrongFalsely : Prop := fnCompareFractionsRow.holds Try.pinned (OpenSpec.ofChange fnCompareFractionsWrong)

/-- 'laws.FnAddFractions': WHATEVER THE INPUT: true; the input reads as it did. -/
def fnAddFractionsSpec : ChangeSpec := { name := "fnAddFractions", fn := fun _ => fun
  | [d] => { results := [.lit (.bool true)], args := [d] }
  | _ => none }
def fnAddFractionsRow : OpenClaim := { program := "ytahjhpkaicpioaa", sum := "0e1de44400f7abaad0ad3d311f49f2992efe8689c8f804a1f788dc59d02602ae", func := "loop.example/configformatter/laws.FnAddFractions", spec := "fnAddFractions", apart := false }
def FnAddFractionsSaid : Prop := fnAddFractionsRow.holds Try.pinned (OpenSpec.ofChange fnAddFractionsSpec)

/-- ITS FALSE NEIGHBOUR: 'it returns false'. Refute it at one input. -/
def fnAddFractionsWrong : ChangeSpec := { name := "fnAddFractions", fn := fun _ => fun
  | [d] => { results := [.lit (.bool false)], args := [d] }
  | _ => none }
def FnAddFractionsWrongFalsely : Prop := fnAddFractionsRow.holds Try.pinned (OpenSpec.ofChange fnAddFractionsWrong)

/-- 'laws.FnMulFractions': WHATEVER THE INPUT: true; the input reads as it did. -/
def fnMulFractionsSpec : ChangeSpec := { name := "fnMulFractions", fn := fun _ => fun
  | [d] => { results := [.lit (.bool true)], args := [d] }
  | _ => none }
def fnMulFractionsRow : OpenClaim := { program := "ytahjhpkaicpioaa", sum := "0e1de44400f7abaad0ad3d311f49f2992efe8689c8f804a1f788dc59d02602ae", func := "loop.example/configformatter/laws.FnMulFractions", spec := "fnMulFractions", apart := false }
def FnMulFractionsSaid : Prop := fnMulFractionsRow.holds Try.pinned (OpenSpec.ofChange fnMulFractionsSpec)

/-- ITS FALSE NEIGHBOUR: 'it returns false'. Refute it at one input. -/
def fnMulFractionsWrong : ChangeSpec := { name := "fnMulFractions", fn := fun _ => fun
  | [d] => { results := [.lit (.bool false)], args := [d] }
  | _ => none }
def FnMulFractionsWrongFalsely : Prop := fnMulFractionsRow.holds Try.pinned (OpenSpec.ofChange fnMulFractionsWrong)

/-- 'laws.FnFractionOrder': WHATEVER THE INPUT: true; the input reads as it did. -/
def fnFractionOrderSpec : ChangeSpec := { name := "fnFractionOrder", fn := fun _ => fun
  | [d1, d2] => { results := [.lit (.bool true)], args := [d1, d2] }
  | _ => none }
def fnFractionOrderRow : OpenClaim := { program := "ytahjhpkaicpioaa", sum := "0e1de44400f7abaad0ad3d311f49f2992efe8689c8f804a1f788dc59d02602ae", func := "loop.example/configformatter/laws.FnFractionOrder", spec := "fnFractionOrder", apart := false }
def FnFractionOrderSaid : Prop := fnFractionOrderRow.holds Try.pinned (OpenSpec.ofChange fnFractionOrderSpec)

/-- ITS FALSE NEIGHBOUR: 'it returns false'. Refute it at one input. -/
def fnFractionOrderWrong : ChangeSpec := { name := "fnFractionOrder", fn := fun _ => fun
  | [d1, d2] => { results := [.lit (.bool false)], args := [d1, d2] }
  | _ => none }
def FnFractionOrderWrongFalsely : Prop := fnFractionOrderRow.holds Try.pinned (OpenSpec.ofChange fnFractionOrderWrong)

/-- 'laws.FnDivFractions': WHATEVER THE INPUT: true; the input reads as it did. -/
def fnDivFractionsSpec : ChangeSpec := { name := "fnDivFractions", fn := fun _ => fun
  | [d] => { results := [.lit (.bool true)], args := [d] }
  | _ => none }
def fnDivFractionsRow : OpenClaim := { program := "ytahjhpkaicpioaa", sum := "0e1de44400f7abaad0ad3d311f49f2992efe8689c8f804a1f788dc59d02602ae", func := "loop.example/configformatter/laws.FnDivFractions", spec := "fnDivFractions", apart := false }
def FnDivFractionsSaid : Prop := fnDivFractionsRow.holds Try.pinned (OpenSpec.ofChange fnDivFractionsSpec)

/-- ITS FALSE NEIGHBOUR: 'it returns false'. Refute it at one input. -/
def fnDivFractionsWrong : ChangeSpec := { name := "fnDivFractions", fn := fun _ => fun
  | [d] => { results := [.lit (.bool false)], args := [d] }
  | _ => none }
def FnDivFractionsWrongFalsely : Prop := fnDivFractionsRow.holds Try.pinned (OpenSpec.ofChange fnDivFractionsWrong)

/-- 'laws.FnUnquoteText': WHATEVER THE INPUT: true; the input reads as it did. -/
def fnUnquoteTextSpec : ChangeSpec := { name := "fnUnquoteText", fn := fun _ => fun
  | [d] => { results := [.lit (.bool true)], args := [d] }
  | _ => none }
def fnUnquoteTextRow : OpenClaim := { program := "ytahjhpkaicpioaa", sum := "0e1de44400f7abaad0ad3d311f49f2992efe8689c8f804a1f788dc59d02602ae", func := "loop.example/configformatter/laws.FnUnquoteText", spec := "fnUnquoteText", apart := false }
def FnUnquoteTextSaid : Prop := fnUnquoteTextRow.holds Try.pinned (OpenSpec.ofChange fnUnquoteTextSpec)

/-- ITS FALSE NEIGHBOUR: 'it returns false'. Refute it at one input. -/
def fnUnquoteTextWrong : ChangeSpec := { name := "fnUnquoteText", fn := fun _ => fun
  | [d] => { results := [.lit (.bool false)], args := [d] }
  | _ => none }
def FnUnquoteTextWrongFalsely : Prop := fnUnquoteTextRow.holds Try.pinned (OpenSpec.ofChange fnUnquoteTextWrong)

/- THE SECOND FORM. 'bulk': how many values and letters a reading holds, each counted each time it is reached (what is shared counts as often as it is met; a slice's spare places count too). A statement '..UptoSaid' is the law's where the arguments, and the package variables that the reading takes, are together of bulk at most 1048576: NARROWER than '..Said'. Prove '..Said' where nothing that the law and all that it calls make is longer than what came in: it says more and counts as full. Else prove '..UptoSaid'. A law counts once. -/
mutual
def uptoBulk {H : Type} : DataW H → Nat
  | .lit (.string bytes) => bytes.length + 1
  | .lit _ => 1
  | .nil => 1
  | .ptr d => uptoBulk d + 1
  | .slice elems spare => uptoBulkAll elems + uptoBulkAll spare + 1
  | .agg parts => uptoBulkAll parts + 1
  | .iface _ d => uptoBulk d + 1
  | .map entries => uptoBulkEntries entries + 1
  | .held _ => 1
def uptoBulkAll {H : Type} : List (DataW H) → Nat
  | [] => 0
  | d :: r => uptoBulk d + uptoBulkAll r
def uptoBulkEntries {H : Type} : List (Lit × DataW H) → Nat
  | [] => 0
  | x :: r => uptoBulkEntry x + uptoBulkEntries r
def uptoBulkEntry {H : Type} : Lit × DataW H → Nat
  | (.string bytes, d) => bytes.length + uptoBulk d + 1
  | (_, d) => uptoBulk d + 1
 end
def uptoSmall : (H : Type) → List (DataW H) → Bool := fun _ ds => decide (uptoBulkAll ds ≤ 1048576)
def OpenSpec.upto (s : _root_.Go.ChangeSpec) : _root_.Go.OpenSpec := { _root_.Go.OpenSpec.ofChange s with cond := some uptoSmall }

/-- 'laws.FnCompareFractions', WHERE WHAT IT READS IS OF BULK AT MOST 1048576: true; the input reads as it did. -/
def fnCompareFractionsUptoRow : OpenClaim := { program := "ytahjhpkaicpioaa", sum := "0e1de44400f7abaad0ad3d311f49f2992efe8689c8f804a1f788dc59d02602ae", func := "loop.example/configformatter/laws.FnCompareFractions", spec := "fnCompareFractions", apart := false, narrowed := true }
def FnCompareFractionsUptoSaid : Prop := fnCompareFractionsUptoRow.holds Try.pinned (OpenSpec.upto fnCompareFractionsSpec)

/-- 'laws.FnAddFractions', WHERE WHAT IT READS IS OF BULK AT MOST 1048576: true; the input reads as it did. -/
def fnAddFractionsUptoRow : OpenClaim := { program := "ytahjhpkaicpioaa", sum := "0e1de44400f7abaad0ad3d311f49f2992efe8689c8f804a1f788dc59d02602ae", func := "loop.example/configformatter/laws.FnAddFractions", spec := "fnAddFractions", apart := false, narrowed := true }
def FnAddFractionsUptoSaid : Prop := fnAddFractionsUptoRow.holds Try.pinned (OpenSpec.upto fnAddFractionsSpec)

/-- 'laws.FnMulFractions', WHERE WHAT IT READS IS OF BULK AT MOST 1048576: true; the input reads as it did. -/
def fnMulFractionsUptoRow : OpenClaim := { program := "ytahjhpkaicpioaa", sum := "0e1de44400f7abaad0ad3d311f49f2992efe8689c8f804a1f788dc59d02602ae", func := "loop.example/configformatter/laws.FnMulFractions", spec := "fnMulFractions", apart := false, narrowed := true }
def FnMulFractionsUptoSaid : Prop := fnMulFractionsUptoRow.holds Try.pinned (OpenSpec.upto fnMulFractionsSpec)

/-- 'laws.FnFractionOrder', WHERE WHAT IT READS IS OF BULK AT MOST 1048576: true; the input reads as it did. -/
def fnFractionOrderUptoRow : OpenClaim := { program := "ytahjhpkaicpioaa", sum := "0e1de44400f7abaad0ad3d311f49f2992efe8689c8f804a1f788dc59d02602ae", func := "loop.example/configformatter/laws.FnFractionOrder", spec := "fnFractionOrder", apart := false, narrowed := true }
def FnFractionOrderUptoSaid : Prop := fnFractionOrderUptoRow.holds Try.pinned (OpenSpec.upto fnFractionOrderSpec)

/-- 'laws.FnDivFractions', WHERE WHAT IT READS IS OF BULK AT MOST 1048576: true; the input reads as it did. -/
def fnDivFractionsUptoRow : OpenClaim := { program := "ytahjhpkaicpioaa", sum := "0e1de44400f7abaad0ad3d311f49f2992efe8689c8f804a1f788dc59d02602ae", func := "loop.example/configformatter/laws.FnDivFractions", spec := "fnDivFractions", apart := false, narrowed := true }
def FnDivFractionsUptoSaid : Prop := fnDivFractionsUptoRow.holds Try.pinned (OpenSpec.upto fnDivFractionsSpec)

/-- 'laws.FnUnquoteText', WHERE WHAT IT READS IS OF BULK AT MOST 1048576: true; the input reads as it did. -/
def fnUnquoteTextUptoRow : OpenClaim := { program := "ytahjhpkaicpioaa", sum := "0e1de44400f7abaad0ad3d311f49f2992efe8689c8f804a1f788dc59d02602ae", func := "loop.example/configformatter/laws.FnUnquoteText", spec := "fnUnquoteText", apart := false, narrowed := true }
def FnUnquoteTextUptoSaid : Prop := fnUnquoteTextUptoRow.holds Try.pinned (OpenSpec.upto fnUnquoteTextSpec)

end Rows
end Go.Proofs.Ytahjhpkaicpioaa
