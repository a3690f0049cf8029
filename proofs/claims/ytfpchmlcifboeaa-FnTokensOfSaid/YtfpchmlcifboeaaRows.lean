/-
  No cell of these rows narrows 'for every input' (looked for: loops, veiled, ifaces, maps, wideKeys, modest, calm, conditions, laid).
  DERIVED. THE GIVEN ROWS OF THIS SEAT. 6 by the template 'for every input the law returns true; each argument reads behind the call as it read before'; 0 by the template 'total and deterministic' (their statements: YtfpchmlcifboeaaTotals.lean).
  GIVEN WITH THE SEED: the statements are not yours to turn. If you find one false, say at which input.
  Laid BY PROGRAM, IN A SANDBOX (cutbox-rows.mjs): the forced cells as the released guide's own fill.sh prints them over the translation dc90e20ae291d6f1… (all of the seat's roots in one cut). By AI agents, Wed Nov 11 2026. No macro, syntax, notation, axiom, sorry.
-/
import Derived.Test.YtfpchmlcifboeaaChecked
import GoSem.Claim
import GoSem.ClaimJoined
import GoSem.ClaimMapViews
import Derived.JoinedTies
import Derived.KernelRfl
namespace Go.Proofs.Ytfpchmlcifboeaa
/- THE CELL 'sum', in the pinned program and in every row, IS THE sha256 OF THE DUMP (.gsa) THAT YtfpchmlcifboeaaProg.lean LOADS. Nothing in Lean hashes anything: it is a label: what it is worth is what the hold of that sum in a sandbox is worth. -/
noncomputable def Try.pinned : Pinned := { name := "ytfpchmlcifboeaa", sum := "dc90e20ae291d6f1fe16e1801e0f8b0bc83468980e86c277b981401835cfb8d0", checked := Try.checked }
namespace Rows
def none {H : Type} : Left H := { results := [], args := [] }

/-- 'laws.FnQuoteText': WHATEVER THE INPUT: true; the input reads as it did. -/
def fnQuoteTextSpec : ChangeSpec := { name := "fnQuoteText", fn := fun _ => fun
  | [d] => { results := [.lit (.bool true)], args := [d] }
  | _ => none }
def fnQuoteTextRow : OpenClaim := { program := "ytfpchmlcifboeaa", sum := "dc90e20ae291d6f1fe16e1801e0f8b0bc83468980e86c277b981401835cfb8d0", func := "loop.example/configformatter/laws.FnQuoteText", spec := "fnQuoteText", inPlace := ["internal/bytealg.IndexByteString", "internal/bytealg.IndexString"], named := ["internal/bytealg.MaxLen"], apart := false }
def FnQuoteTextSaid : Prop := fnQuoteTextRow.holds Try.pinned (OpenSpec.ofChange fnQuoteTextSpec)

/-- ITS FALSE NEIGHBOUR: 'it returns false'. Refute it at one input. -/
def fnQuoteTextWrong : ChangeSpec := { name := "fnQuoteText", fn := fun _ => fun
  | [d] => { results := [.lit (.bool false)], args := [d] }
  | _ => none }
def FnQuoteTextWrongFalsely : Prop := fnQuoteTextRow.holds Try.pinned (OpenSpec.ofChange fnQuoteTextWrong)

/-- 'laws.FnTokensOf': WHATEVER THE INPUT: true; the input reads as it did. -/
def fnTokensOfSpec : ChangeSpec := { name := "fnTokensOf", fn := fun _ => fun
  | [d] => { results := [.lit (.bool true)], args := [d] }
  | _ => none }
def fnTokensOfRow : OpenClaim := { program := "ytfpchmlcifboeaa", sum := "dc90e20ae291d6f1fe16e1801e0f8b0bc83468980e86c277b981401835cfb8d0", func := "loop.example/configformatter/laws.FnTokensOf", spec := "fnTokensOf", inPlace := ["internal/bytealg.IndexByteString", "internal/bytealg.IndexString"], named := ["internal/bytealg.MaxLen"], apart := false }
def FnTokensOfSaid : Prop := fnTokensOfRow.holds Try.pinned (OpenSpec.ofChange fnTokensOfSpec)

/-- ITS FALSE NEIGHBOUR: 'it returns false'. Refute it at one input. -/
def fnTokensOfWrong : ChangeSpec := { name := "fnTokensOf", fn := fun _ => fun
  | [d] => { results := [.lit (.bool false)], args := [d] }
  | _ => none }
def FnTokensOfWrongFalsely : Prop := fnTokensOfRow.holds Try.pinned (OpenSpec.ofChange fnTokensOfWrong)

/-- 'laws.FnExactTokensOf': WHATEVER THE INPUT: true; the input reads as it did. -/
def fnExactTokensOfSpec : ChangeSpec := { name := "fnExactTokensOf", fn := fun _ => fun
  | [d] => { results := [.lit (.bool true)], args := [d] }
  | _ => none }
def fnExactTokensOfRow : OpenClaim := { program := "ytfpchmlcifboeaa", sum := "dc90e20ae291d6f1fe16e1801e0f8b0bc83468980e86c277b981401835cfb8d0", func := "loop.example/configformatter/laws.FnExactTokensOf", spec := "fnExactTokensOf", inPlace := ["internal/bytealg.IndexByteString", "internal/bytealg.IndexString"], named := ["internal/bytealg.MaxLen"], apart := false }
def FnExactTokensOfSaid : Prop := fnExactTokensOfRow.holds Try.pinned (OpenSpec.ofChange fnExactTokensOfSpec)

/-- ITS FALSE NEIGHBOUR: 'it returns false'. Refute it at one input. -/
def fnExactTokensOfWrong : ChangeSpec := { name := "fnExactTokensOf", fn := fun _ => fun
  | [d] => { results := [.lit (.bool false)], args := [d] }
  | _ => none }
def FnExactTokensOfWrongFalsely : Prop := fnExactTokensOfRow.holds Try.pinned (OpenSpec.ofChange fnExactTokensOfWrong)

/-- 'laws.FnExactWordsOf': WHATEVER THE INPUT: true; the input reads as it did. -/
def fnExactWordsOfSpec : ChangeSpec := { name := "fnExactWordsOf", fn := fun _ => fun
  | [d] => { results := [.lit (.bool true)], args := [d] }
  | _ => none }
def fnExactWordsOfRow : OpenClaim := { program := "ytfpchmlcifboeaa", sum := "dc90e20ae291d6f1fe16e1801e0f8b0bc83468980e86c277b981401835cfb8d0", func := "loop.example/configformatter/laws.FnExactWordsOf", spec := "fnExactWordsOf", inPlace := ["internal/bytealg.IndexByteString", "internal/bytealg.IndexString"], named := ["internal/bytealg.MaxLen"], apart := false }
def FnExactWordsOfSaid : Prop := fnExactWordsOfRow.holds Try.pinned (OpenSpec.ofChange fnExactWordsOfSpec)

/-- ITS FALSE NEIGHBOUR: 'it returns false'. Refute it at one input. -/
def fnExactWordsOfWrong : ChangeSpec := { name := "fnExactWordsOf", fn := fun _ => fun
  | [d] => { results := [.lit (.bool false)], args := [d] }
  | _ => none }
def FnExactWordsOfWrongFalsely : Prop := fnExactWordsOfRow.holds Try.pinned (OpenSpec.ofChange fnExactWordsOfWrong)

/-- 'laws.FnTokenCount': WHATEVER THE INPUT: true; the input reads as it did. -/
def fnTokenCountSpec : ChangeSpec := { name := "fnTokenCount", fn := fun _ => fun
  | [d1, d2] => { results := [.lit (.bool true)], args := [d1, d2] }
  | _ => none }
def fnTokenCountRow : OpenClaim := { program := "ytfpchmlcifboeaa", sum := "dc90e20ae291d6f1fe16e1801e0f8b0bc83468980e86c277b981401835cfb8d0", func := "loop.example/configformatter/laws.FnTokenCount", spec := "fnTokenCount", inPlace := ["internal/bytealg.IndexByteString", "internal/bytealg.IndexString"], named := ["internal/bytealg.MaxLen"], apart := false }
def FnTokenCountSaid : Prop := fnTokenCountRow.holds Try.pinned (OpenSpec.ofChange fnTokenCountSpec)

/-- ITS FALSE NEIGHBOUR: 'it returns false'. Refute it at one input. -/
def fnTokenCountWrong : ChangeSpec := { name := "fnTokenCount", fn := fun _ => fun
  | [d1, d2] => { results := [.lit (.bool false)], args := [d1, d2] }
  | _ => none }
def FnTokenCountWrongFalsely : Prop := fnTokenCountRow.holds Try.pinned (OpenSpec.ofChange fnTokenCountWrong)

/-- 'laws.FnWordsOf': WHATEVER THE INPUT: true; the input reads as it did. -/
def fnWordsOfSpec : ChangeSpec := { name := "fnWordsOf", fn := fun _ => fun
  | [d] => { results := [.lit (.bool true)], args := [d] }
  | _ => none }
def fnWordsOfRow : OpenClaim := { program := "ytfpchmlcifboeaa", sum := "dc90e20ae291d6f1fe16e1801e0f8b0bc83468980e86c277b981401835cfb8d0", func := "loop.example/configformatter/laws.FnWordsOf", spec := "fnWordsOf", inPlace := ["internal/bytealg.IndexByteString", "internal/bytealg.IndexString"], named := ["internal/bytealg.MaxLen"], apart := false }
def FnWordsOfSaid : Prop := fnWordsOfRow.holds Try.pinned (OpenSpec.ofChange fnWordsOfSpec)

/-- ITS FALSE NEIGHBOUR: 'it returns false'. Refute it at one input. -/
def fnWordsOfWrong : ChangeSpec := { name := "fnWordsOf", fn := fun _ => fun
  | [d] => { results := [.lit (.bool false)], args := [d] }
  | _ => none }
def FnWordsOfWrongFalsely : Prop := fnWordsOfRow.holds Try.pinned (OpenSpec.ofChange fnWordsOfWrong)

/- THE SECOND FORM. 'bulk': how many values and letters a reading holds, each counted each time it is reached (what is shared counts as often as it is met; a slice's spare places count too). A statement '..UptoSaid' is the law's where the arguments, and the package variables that the reading takes, are together of bulk at most 1048576: NARROWER than '..Said'. Prove '..Said' where nothing that the law and all that it calls make is longer than what came in: it says more and counts as full. Else prove '..UptoSaid'. A law counts once. -/
mutual
def uptoBulk {H : Type} : DataW H → Nat
  | .lit (.string bytes) => bytes.length + 1
  | .lit _ => 1
  | .nil => 1
  | .ptr d => uptoBulk d + 1
  | .slice elems spare => uptoBulkAll elems + uptoBulkAll spare + 1
  | .agg parts => uptoBulkAll parts + 1
  | .iface _ d => uptoBulk d + 1
  | .map entries => uptoBulkEntries entries + 1
  | .held _ => 1
def uptoBulkAll {H : Type} : List (DataW H) → Nat
  | [] => 0
  | d :: r => uptoBulk d + uptoBulkAll r
def uptoBulkEntries {H : Type} : List (Lit × DataW H) → Nat
  | [] => 0
  | x :: r => uptoBulkEntry x + uptoBulkEntries r
def uptoBulkEntry {H : Type} : Lit × DataW H → Nat
  | (.string bytes, d) => bytes.length + uptoBulk d + 1
  | (_, d) => uptoBulk d + 1
 end
def uptoSmall : (H : Type) → List (DataW H) → Bool := fun _ ds => decide (uptoBulkAll ds ≤ 1048576)
def OpenSpec.upto (s : _root_.Go.ChangeSpec) : _root_.Go.OpenSpec := { _root_.Go.OpenSpec.ofChange s with cond := some uptoSmall }

/-- 'laws.FnQuoteText', WHERE WHAT IT READS IS OF BULK AT MOST 1048576: true; the input reads as it did. -/
def fnQuoteTextUptoRow : OpenClaim := { program := "ytfpchmlcifboeaa", sum := "dc90e20ae291d6f1fe16e1801e0f8b0bc83468980e86c277b981401835cfb8d0", func := "loop.example/configformatter/laws.FnQuoteText", spec := "fnQuoteText", inPlace := ["internal/bytealg.IndexByteString", "internal/bytealg.IndexString"], named := ["internal/bytealg.MaxLen"], apart := false, narrowed := true }
def FnQuoteTextUptoSaid : Prop := fnQuoteTextUptoRow.holds Try.pinned (OpenSpec.upto fnQuoteTextSpec)

/-- 'laws.FnTokensOf', WHERE WHAT IT READS IS OF BULK AT MOST 1048576: true; the input reads as it did. -/
def fnTokensOfUptoRow : OpenClaim := { program := "ytfpchmlcifboeaa", sum := "dc90e20ae291d6f1fe16e1801e0f8b0bc83468980e86c277b981401835cfb8d0", func := "loop.example/configformatter/laws.FnTokensOf", spec := "fnTokensOf", inPlace := ["internal/bytealg.IndexByteString", "internal/bytealg.IndexString"], named := ["internal/bytealg.MaxLen"], apart := false, narrowed := true }
def FnTokensOfUptoSaid : Prop := fnTokensOfUptoRow.holds Try.pinned (OpenSpec.upto fnTokensOfSpec)

/-- 'laws.FnExactTokensOf', WHERE WHAT IT READS IS OF BULK AT MOST 1048576: true; the input reads as it did. -/
def fnExactTokensOfUptoRow : OpenClaim := { program := "ytfpchmlcifboeaa", sum := "dc90e20ae291d6f1fe16e1801e0f8b0bc83468980e86c277b981401835cfb8d0", func := "loop.example/configformatter/laws.FnExactTokensOf", spec := "fnExactTokensOf", inPlace := ["internal/bytealg.IndexByteString", "internal/bytealg.IndexString"], named := ["internal/bytealg.MaxLen"], apart := false, narrowed := true }
def FnExactTokensOfUptoSaid : Prop := fnExactTokensOfUptoRow.holds Try.pinned (OpenSpec.upto fnExactTokensOfSpec)

/-- 'laws.FnExactWordsOf', WHERE WHAT IT READS IS OF BULK AT MOST 1048576: true; the input reads as it did. -/
def fnExactWordsOfUptoRow : OpenClaim := { program := "ytfpchmlcifboeaa", sum := "dc90e20ae291d6f1fe16e1801e0f8b0bc83468980e86c277b981401835cfb8d0", func := "loop.example/configformatter/laws.FnExactWordsOf", spec := "fnExactWordsOf", inPlace := ["internal/bytealg.IndexByteString", "internal/bytealg.IndexString"], named := ["internal/bytealg.MaxLen"], apart := false, narrowed := true }
def FnExactWordsOfUptoSaid : Prop := fnExactWordsOfUptoRow.holds Try.pinned (OpenSpec.upto fnExactWordsOfSpec)

/-- 'laws.FnTokenCount', WHERE WHAT IT READS IS OF BULK AT MOST 1048576: true; the input reads as it did. -/
def fnTokenCountUptoRow : OpenClaim := { program := "ytfpchmlcifboeaa", sum := "dc90e20ae291d6f1fe16e1801e0f8b0bc83468980e86c277b981401835cfb8d0", func := "loop.example/configformatter/laws.FnTokenCount", spec := "fnTokenCount", inPlace := ["internal/bytealg.IndexByteString", "internal/bytealg.IndexString"], named := ["internal/bytealg.MaxLen"], apart := false, narrowed := true }
def FnTokenCountUptoSaid : Prop := fnTokenCountUptoRow.holds Try.pinned (OpenSpec.upto fnTokenCountSpec)

/-- 'laws.FnWordsOf', WHERE WHAT IT READS IS OF BULK AT MOST 1048576: true; the input reads as it did. -/
def fnWordsOfUptoRow : OpenClaim := { program := "ytfpchmlcifboeaa", sum := "dc90e20ae291d6f1fe16e1801e0f8b0bc83468980e86c277b981401835cfb8d0", func := "loop.example/configformatter/laws.FnWordsOf", spec := "fnWordsOf", inPlace := ["internal/bytealg.IndexByteString", "internal/bytealg.IndexString"], named := ["internal/bytealg.MaxLen"], apart := false, narrowed := true }
def FnWordsOfUptoSaid : Prop := fnWordsOfUptoRow.holds Try.pinned (OpenSpec.upto fnWordsOfSpec)

end Rows
end Go.Proofs.Ytfpchmlcifboeaa
