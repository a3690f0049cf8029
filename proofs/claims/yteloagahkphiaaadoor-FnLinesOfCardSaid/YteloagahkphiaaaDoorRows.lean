/-
  NARROWER THAN 'FOR EVERY INPUT', by the rows' own cells (each row's printed sentence says how): FnExactLinesOf: laid · FnTextJoin: laid · FnLinesOf: laid · FnLinesText: laid · FnExactNameValid: laid · FnNameValid: laid.
  DERIVED. THE GIVEN ROWS OF THIS SEAT. 6 by the template 'for every input the law returns true; each argument reads behind the call as it read before'; 0 by the template 'total and deterministic' (their statements: YteloagahkphiaaaDoorTotals.lean).
  GIVEN WITH THE SEED: the statements are not yours to turn. If you find one false, say at which input.
  Laid BY PROGRAM, IN A SANDBOX (cutbox-rows.mjs): the forced cells as the released guide's own fill.sh prints them over the translation 0c1beb6fa7274a74… (all of the seat's roots in one cut). By AI agents, Wed Nov 11 2026. No macro, syntax, notation, axiom, sorry.
-/
import Derived.Test.YteloagahkphiaaaDoorChecked
import GoSem.PinnedTables
import GoSem.Claim
import GoSem.ClaimJoined
import GoSem.ClaimMapViews
import Derived.JoinedTies
import Derived.KernelRfl
namespace Go.Proofs.YteloagahkphiaaaDoor
/- THE CELL 'sum', in the pinned program and in every row, IS THE sha256 OF THE DUMP (.gsa) THAT YteloagahkphiaaaDoorProg.lean LOADS. Nothing in Lean hashes anything: it is a label: what it is worth is what the hold of that sum in a sandbox is worth. -/
noncomputable def Tryd.pinned : Pinned := { name := "yteloagahkphiaaadoor", sum := "0c1beb6fa7274a74cf56b35acec314cf0917b46667ae6f3eb7d50500788fb0ab", checked := Tryd.checked }
namespace Rows
def none {H : Type} : Left H := { results := [], args := [] }

/- WHAT THE LISTED PACKAGE-LEVEL VARIABLES READ AS WHEN THE CALL BEGINS. Each datum BY PROGRAM (the guide's laid-datum.mjs) off the statement by which the dump's own 'gosem.cut.vars' lays the variable. In a bare row this is a premise. The card (YteloagahkphiaaaDoorCards.lean) ties it to the program's text. -/
def laid_unicode_utf8_acceptRanges {H : Type} : DataW H := .agg [.agg [.lit (.int .u8 128), .lit (.int .u8 191)], .agg [.lit (.int .u8 160), .lit (.int .u8 191)], .agg [.lit (.int .u8 128), .lit (.int .u8 159)], .agg [.lit (.int .u8 144), .lit (.int .u8 191)], .agg [.lit (.int .u8 128), .lit (.int .u8 143)], .agg [.lit (.int .u8 0), .lit (.int .u8 0)], .agg [.lit (.int .u8 0), .lit (.int .u8 0)], .agg [.lit (.int .u8 0), .lit (.int .u8 0)], .agg [.lit (.int .u8 0), .lit (.int .u8 0)], .agg [.lit (.int .u8 0), .lit (.int .u8 0)], .agg [.lit (.int .u8 0), .lit (.int .u8 0)], .agg [.lit (.int .u8 0), .lit (.int .u8 0)], .agg [.lit (.int .u8 0), .lit (.int .u8 0)], .agg [.lit (.int .u8 0), .lit (.int .u8 0)], .agg [.lit (.int .u8 0), .lit (.int .u8 0)], .agg [.lit (.int .u8 0), .lit (.int .u8 0)]]
/-- One of Go's own tables, pinned by name: the form's constant. -/
def laid_unicode_utf8_first : DataW Unit := Go.Pinned.utf8First

/-- 'laws.FnExactLinesOf': WHATEVER THE INPUT: true; the input reads as it did. -/
def fnExactLinesOfSpec : ChangeSpec := { name := "fnExactLinesOf", fn := fun _ => fun
  | [d] => { results := [.lit (.bool true)], args := [d] }
  | _ => none }
def fnExactLinesOfRow : OpenClaim := { program := "yteloagahkphiaaadoor", sum := "0c1beb6fa7274a74cf56b35acec314cf0917b46667ae6f3eb7d50500788fb0ab", func := "loop.example/configformatter/laws.FnExactLinesOf", spec := "fnExactLinesOf", inPlace := ["internal/bytealg.CountString", "internal/bytealg.IndexByteString", "internal/bytealg.IndexString"], named := ["unicode/utf8.first", "unicode/utf8.acceptRanges", "internal/bytealg.MaxLen"], apart := false, laid := [("unicode/utf8.acceptRanges", laid_unicode_utf8_acceptRanges), ("unicode/utf8.first", laid_unicode_utf8_first)] }
def FnExactLinesOfSaid : Prop := fnExactLinesOfRow.holds Tryd.pinned (OpenSpec.ofChange fnExactLinesOfSpec)

/-- ITS FALSE NEIGHBOUR: 'it returns false'. Refute it at one input. -/
def fnExactLinesOfWrong : ChangeSpec := { name := "fnExactLinesOf", fn := fun _ => fun
  | [d] => { results := [.lit (.bool false)], args := [d] }
  | _ => none }
def FnExactLinesOfWrongFalsely : Prop := fnExactLinesOfRow.holds Tryd.pinned (OpenSpec.ofChange fnExactLinesOfWrong)

/-- 'laws.FnTextJoin': WHATEVER THE INPUT: true; the input reads as it did. -/
def fnTextJoinSpec : ChangeSpec := { name := "fnTextJoin", fn := fun _ => fun
  | [d1, d2] => { results := [.lit (.bool true)], args := [d1, d2] }
  | _ => none }
def fnTextJoinRow : OpenClaim := { program := "yteloagahkphiaaadoor", sum := "0c1beb6fa7274a74cf56b35acec314cf0917b46667ae6f3eb7d50500788fb0ab", func := "loop.example/configformatter/laws.FnTextJoin", spec := "fnTextJoin", inPlace := ["internal/bytealg.CountString", "internal/bytealg.IndexByteString", "internal/bytealg.IndexString"], named := ["unicode/utf8.first", "unicode/utf8.acceptRanges", "internal/bytealg.MaxLen"], apart := false, laid := [("unicode/utf8.acceptRanges", laid_unicode_utf8_acceptRanges), ("unicode/utf8.first", laid_unicode_utf8_first)] }
def FnTextJoinSaid : Prop := fnTextJoinRow.holds Tryd.pinned (OpenSpec.ofChange fnTextJoinSpec)

/-- ITS FALSE NEIGHBOUR: 'it returns false'. Refute it at one input. -/
def fnTextJoinWrong : ChangeSpec := { name := "fnTextJoin", fn := fun _ => fun
  | [d1, d2] => { results := [.lit (.bool false)], args := [d1, d2] }
  | _ => none }
def FnTextJoinWrongFalsely : Prop := fnTextJoinRow.holds Tryd.pinned (OpenSpec.ofChange fnTextJoinWrong)

/-- 'laws.FnLinesOf': WHATEVER THE INPUT: true; the input reads as it did. -/
def fnLinesOfSpec : ChangeSpec := { name := "fnLinesOf", fn := fun _ => fun
  | [d] => { results := [.lit (.bool true)], args := [d] }
  | _ => none }
def fnLinesOfRow : OpenClaim := { program := "yteloagahkphiaaadoor", sum := "0c1beb6fa7274a74cf56b35acec314cf0917b46667ae6f3eb7d50500788fb0ab", func := "loop.example/configformatter/laws.FnLinesOf", spec := "fnLinesOf", inPlace := ["internal/bytealg.CountString", "internal/bytealg.IndexByteString", "internal/bytealg.IndexString"], named := ["unicode/utf8.first", "unicode/utf8.acceptRanges", "internal/bytealg.MaxLen"], apart := false, laid := [("unicode/utf8.acceptRanges", laid_unicode_utf8_acceptRanges), ("unicode/utf8.first", laid_unicode_utf8_first)] }
def FnLinesOfSaid : Prop := fnLinesOfRow.holds Tryd.pinned (OpenSpec.ofChange fnLinesOfSpec)

/-- ITS FALSE NEIGHBOUR: 'it returns false'. Refute it at one input. -/
def fnLinesOfWrong : ChangeSpec := { name := "fnLinesOf", fn := fun _ => fun
  | [d] => { results := [.lit (.bool false)], args := [d] }
  | _ => none }
def FnLinesOfWrongFalsely : Prop := fnLinesOfRow.holds Tryd.pinned (OpenSpec.ofChange fnLinesOfWrong)

/-- 'laws.FnLinesText': WHATEVER THE INPUT: true; the input reads as it did. -/
def fnLinesTextSpec : ChangeSpec := { name := "fnLinesText", fn := fun _ => fun
  | [d] => { results := [.lit (.bool true)], args := [d] }
  | _ => none }
def fnLinesTextRow : OpenClaim := { program := "yteloagahkphiaaadoor", sum := "0c1beb6fa7274a74cf56b35acec314cf0917b46667ae6f3eb7d50500788fb0ab", func := "loop.example/configformatter/laws.FnLinesText", spec := "fnLinesText", inPlace := ["internal/bytealg.IndexByteString", "internal/bytealg.IndexString", "internal/bytealg.CountString"], named := ["internal/bytealg.MaxLen", "unicode/utf8.first", "unicode/utf8.acceptRanges"], apart := false, laid := [("unicode/utf8.acceptRanges", laid_unicode_utf8_acceptRanges), ("unicode/utf8.first", laid_unicode_utf8_first)] }
def FnLinesTextSaid : Prop := fnLinesTextRow.holds Tryd.pinned (OpenSpec.ofChange fnLinesTextSpec)

/-- ITS FALSE NEIGHBOUR: 'it returns false'. Refute it at one input. -/
def fnLinesTextWrong : ChangeSpec := { name := "fnLinesText", fn := fun _ => fun
  | [d] => { results := [.lit (.bool false)], args := [d] }
  | _ => none }
def FnLinesTextWrongFalsely : Prop := fnLinesTextRow.holds Tryd.pinned (OpenSpec.ofChange fnLinesTextWrong)

/-- 'laws.FnExactNameValid': WHATEVER THE INPUT: true; the input reads as it did. -/
def fnExactNameValidSpec : ChangeSpec := { name := "fnExactNameValid", fn := fun _ => fun
  | [d] => { results := [.lit (.bool true)], args := [d] }
  | _ => none }
def fnExactNameValidRow : OpenClaim := { program := "yteloagahkphiaaadoor", sum := "0c1beb6fa7274a74cf56b35acec314cf0917b46667ae6f3eb7d50500788fb0ab", func := "loop.example/configformatter/laws.FnExactNameValid", spec := "fnExactNameValid", inPlace := ["internal/bytealg.CountString", "internal/bytealg.IndexByteString", "internal/bytealg.IndexString"], named := ["unicode/utf8.first", "unicode/utf8.acceptRanges", "internal/bytealg.MaxLen"], apart := false, laid := [("unicode/utf8.acceptRanges", laid_unicode_utf8_acceptRanges), ("unicode/utf8.first", laid_unicode_utf8_first)] }
def FnExactNameValidSaid : Prop := fnExactNameValidRow.holds Tryd.pinned (OpenSpec.ofChange fnExactNameValidSpec)

/-- ITS FALSE NEIGHBOUR: 'it returns false'. Refute it at one input. -/
def fnExactNameValidWrong : ChangeSpec := { name := "fnExactNameValid", fn := fun _ => fun
  | [d] => { results := [.lit (.bool false)], args := [d] }
  | _ => none }
def FnExactNameValidWrongFalsely : Prop := fnExactNameValidRow.holds Tryd.pinned (OpenSpec.ofChange fnExactNameValidWrong)

/-- 'laws.FnNameValid': WHATEVER THE INPUT: true; the input reads as it did. -/
def fnNameValidSpec : ChangeSpec := { name := "fnNameValid", fn := fun _ => fun
  | [d] => { results := [.lit (.bool true)], args := [d] }
  | _ => none }
def fnNameValidRow : OpenClaim := { program := "yteloagahkphiaaadoor", sum := "0c1beb6fa7274a74cf56b35acec314cf0917b46667ae6f3eb7d50500788fb0ab", func := "loop.example/configformatter/laws.FnNameValid", spec := "fnNameValid", inPlace := ["internal/bytealg.CountString", "internal/bytealg.IndexByteString", "internal/bytealg.IndexString"], named := ["unicode/utf8.first", "unicode/utf8.acceptRanges", "internal/bytealg.MaxLen"], apart := false, laid := [("unicode/utf8.acceptRanges", laid_unicode_utf8_acceptRanges), ("unicode/utf8.first", laid_unicode_utf8_first)] }
def FnNameValidSaid : Prop := fnNameValidRow.holds Tryd.pinned (OpenSpec.ofChange fnNameValidSpec)

/-- ITS FALSE NEIGHBOUR: 'it returns false'. Refute it at one input. -/
def fnNameValidWrong : ChangeSpec := { name := "fnNameValid", fn := fun _ => fun
  | [d] => { results := [.lit (.bool false)], args := [d] }
  | _ => none }
def FnNameValidWrongFalsely : Prop := fnNameValidRow.holds Tryd.pinned (OpenSpec.ofChange fnNameValidWrong)

/- THE SECOND FORM. 'bulk': how many values and letters a reading holds, each counted each time it is reached (what is shared counts as often as it is met; a slice's spare places count too). A statement '..UptoSaid' is the law's where the arguments, and the package variables that the reading takes, are together of bulk at most 1048576: NARROWER than '..Said'. Prove '..Said' where nothing that the law and all that it calls make is longer than what came in: it says more and counts as full. Else prove '..UptoSaid'. A law counts once. -/
mutual
def uptoBulk {H : Type} : DataW H → Nat
  | .lit (.string bytes) => bytes.length + 1
  | .lit _ => 1
  | .nil => 1
  | .ptr d => uptoBulk d + 1
  | .slice elems spare => uptoBulkAll elems + uptoBulkAll spare + 1
  | .agg parts => uptoBulkAll parts + 1
  | .iface _ d => uptoBulk d + 1
  | .map entries => uptoBulkEntries entries + 1
  | .held _ => 1
def uptoBulkAll {H : Type} : List (DataW H) → Nat
  | [] => 0
  | d :: r => uptoBulk d + uptoBulkAll r
def uptoBulkEntries {H : Type} : List (Lit × DataW H) → Nat
  | [] => 0
  | x :: r => uptoBulkEntry x + uptoBulkEntries r
def uptoBulkEntry {H : Type} : Lit × DataW H → Nat
  | (.string bytes, d) => bytes.length + uptoBulk d + 1
  | (_, d) => uptoBulk d + 1
 end
def uptoSmall : (H : Type) → List (DataW H) → Bool := fun _ ds => decide (uptoBulkAll ds ≤ 1048576)
def OpenSpec.upto (s : _root_.Go.ChangeSpec) : _root_.Go.OpenSpec := { _root_.Go.OpenSpec.ofChange s with cond := some uptoSmall }

/-- 'laws.FnExactLinesOf', WHERE WHAT IT READS IS OF BULK AT MOST 1048576: true; the input reads as it did. -/
def fnExactLinesOfUptoRow : OpenClaim := { program := "yteloagahkphiaaadoor", sum := "0c1beb6fa7274a74cf56b35acec314cf0917b46667ae6f3eb7d50500788fb0ab", func := "loop.example/configformatter/laws.FnExactLinesOf", spec := "fnExactLinesOf", inPlace := ["internal/bytealg.CountString", "internal/bytealg.IndexByteString", "internal/bytealg.IndexString"], named := ["unicode/utf8.first", "unicode/utf8.acceptRanges", "internal/bytealg.MaxLen"], apart := false, laid := [("unicode/utf8.acceptRanges", laid_unicode_utf8_acceptRanges), ("unicode/utf8.first", laid_unicode_utf8_first)], narrowed := true }
def FnExactLinesOfUptoSaid : Prop := fnExactLinesOfUptoRow.holds Tryd.pinned (OpenSpec.upto fnExactLinesOfSpec)

/-- 'laws.FnTextJoin', WHERE WHAT IT READS IS OF BULK AT MOST 1048576: true; the input reads as it did. -/
def fnTextJoinUptoRow : OpenClaim := { program := "yteloagahkphiaaadoor", sum := "0c1beb6fa7274a74cf56b35acec314cf0917b46667ae6f3eb7d50500788fb0ab", func := "loop.example/configformatter/laws.FnTextJoin", spec := "fnTextJoin", inPlace := ["internal/bytealg.CountString", "internal/bytealg.IndexByteString", "internal/bytealg.IndexString"], named := ["unicode/utf8.first", "unicode/utf8.acceptRanges", "internal/bytealg.MaxLen"], apart := false, laid := [("unicode/utf8.acceptRanges", laid_unicode_utf8_acceptRanges), ("unicode/utf8.first", laid_unicode_utf8_first)], narrowed := true }
def FnTextJoinUptoSaid : Prop := fnTextJoinUptoRow.holds Tryd.pinned (OpenSpec.upto fnTextJoinSpec)

/-- 'laws.FnLinesOf', WHERE WHAT IT READS IS OF BULK AT MOST 1048576: true; the input reads as it did. -/
def fnLinesOfUptoRow : OpenClaim := { program := "yteloagahkphiaaadoor", sum := "0c1beb6fa7274a74cf56b35acec314cf0917b46667ae6f3eb7d50500788fb0ab", func := "loop.example/configformatter/laws.FnLinesOf", spec := "fnLinesOf", inPlace := ["internal/bytealg.CountString", "internal/bytealg.IndexByteString", "internal/bytealg.IndexString"], named := ["unicode/utf8.first", "unicode/utf8.acceptRanges", "internal/bytealg.MaxLen"], apart := false, laid := [("unicode/utf8.acceptRanges", laid_unicode_utf8_acceptRanges), ("unicode/utf8.first", laid_unicode_utf8_first)], narrowed := true }
def FnLinesOfUptoSaid : Prop := fnLinesOfUptoRow.holds Tryd.pinned (OpenSpec.upto fnLinesOfSpec)

/-- 'laws.FnLinesText', WHERE WHAT IT READS IS OF BULK AT MOST 1048576: true; the input reads as it did. -/
def fnLinesTextUptoRow : OpenClaim := { program := "yteloagahkphiaaadoor", sum := "0c1beb6fa7274a74cf56b35acec314cf0917b46667ae6f3eb7d50500788fb0ab", func := "loop.example/configformatter/laws.FnLinesText", spec := "fnLinesText", inPlace := ["internal/bytealg.IndexByteString", "internal/bytealg.IndexString", "internal/bytealg.CountString"], named := ["internal/bytealg.MaxLen", "unicode/utf8.first", "unicode/utf8.acceptRanges"], apart := false, laid := [("unicode/utf8.acceptRanges", laid_unicode_utf8_acceptRanges), ("unicode/utf8.first", laid_unicode_utf8_first)], narrowed := true }
def FnLinesTextUptoSaid : Prop := fnLinesTextUptoRow.holds Tryd.pinned (OpenSpec.upto fnLinesTextSpec)

/-- 'laws.FnExactNameValid', WHERE WHAT IT READS IS OF BULK AT MOST 1048576: true; the input reads as it did. -/
def fnExactNameValidUptoRow : OpenClaim := { program := "yteloagahkphiaaadoor", sum := "0c1beb6fa7274a74cf56b35acec314cf0917b46667ae6f3eb7d50500788fb0ab", func := "loop.example/configformatter/laws.FnExactNameValid", spec := "fnExactNameValid", inPlace := ["internal/bytealg.CountString", "internal/bytealg.IndexByteString", "internal/bytealg.IndexString"], named := ["unicode/utf8.first", "unicode/utf8.acceptRanges", "internal/bytealg.MaxLen"], apart := false, laid := [("unicode/utf8.acceptRanges", laid_unicode_utf8_acceptRanges), ("unicode/utf8.first", laid_unicode_utf8_first)], narrowed := true }
def FnExactNameValidUptoSaid : Prop := fnExactNameValidUptoRow.holds Tryd.pinned (OpenSpec.upto fnExactNameValidSpec)

/-- 'laws.FnNameValid', WHERE WHAT IT READS IS OF BULK AT MOST 1048576: true; the input reads as it did. -/
def fnNameValidUptoRow : OpenClaim := { program := "yteloagahkphiaaadoor", sum := "0c1beb6fa7274a74cf56b35acec314cf0917b46667ae6f3eb7d50500788fb0ab", func := "loop.example/configformatter/laws.FnNameValid", spec := "fnNameValid", inPlace := ["internal/bytealg.CountString", "internal/bytealg.IndexByteString", "internal/bytealg.IndexString"], named := ["unicode/utf8.first", "unicode/utf8.acceptRanges", "internal/bytealg.MaxLen"], apart := false, laid := [("unicode/utf8.acceptRanges", laid_unicode_utf8_acceptRanges), ("unicode/utf8.first", laid_unicode_utf8_first)], narrowed := true }
def FnNameValidUptoSaid : Prop := fnNameValidUptoRow.holds Tryd.pinned (OpenSpec.upto fnNameValidSpec)

end Rows
end Go.Proofs.YteloagahkphiaaaDoor
