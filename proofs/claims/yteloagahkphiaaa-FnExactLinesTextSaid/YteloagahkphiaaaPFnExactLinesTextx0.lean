-- Written for this session by its program hprint.py over the kit's print: functions, and contracts that the walk of the Go code proves.
import Derived.Test.YteloagahkphiaaaProg
import Derived.Below
import Derived.Deep.Draws
import Derived.Deep.AppendLies
import Derived.Maps.AppendAt
import Derived.OwnWalk
import Derived.Laws.BytesArg
import Derived.Laws.MakeOwn
import Derived.Laws.OwnMore
import Derived.Deep.OwnRows
import Derived.Tactics
import Derived.Lib.ConvBytes
import Derived.Laws.Slices
import Derived.WalkKit
import Derived.KernelRfl
import Derived.RowKit3
import Derived.Deep.LoopGhost
import Derived.Deep.QuietTactic
import Derived.BigQuiet
import Derived.WideLaws
import Derived.Deep.DeepCutAuto
import Derived.Deep.CutBlock
import Derived.Deep.RegionHeld3
import Derived.Laws.Rows
import Derived.Lib.AppendStr
import Derived.ArgAppend
import Derived.Laws.IdiomCopy
import Derived.OrdersHeld
import Derived.Laws.BitsLemmas
import Derived.RowKit
import Derived.Test.YteloagahkphiaaaHand
import Derived.Test.YteloagahkphiaaaWWords
import Derived.Test.YteloagahkphiaaaWLast
import Derived.Test.YteloagahkphiaaaWTab
import Derived.Test.YteloagahkphiaaaWFour
import Derived.Test.YteloagahkphiaaaWQPut
import Derived.Test.YteloagahkphiaaaWApart
import Derived.Test.YteloagahkphiaaaWArr
import Derived.Test.YteloagahkphiaaaWZeros
import Derived.Test.YteloagahkphiaaaWFoot
import Derived.Test.YteloagahkphiaaaWKept
import Derived.Test.YteloagahkphiaaaWShare
import Derived.Test.YteloagahkphiaaaWN
import Derived.Test.YteloagahkphiaaaWFootNe
import Derived.Test.YteloagahkphiaaaWAt
import Derived.Test.YteloagahkphiaaaWEqStruct
import Derived.Test.YteloagahkphiaaaWRepsOne
import Derived.Test.YteloagahkphiaaaWInv
import Derived.Test.YteloagahkphiaaaWInvWords
import Derived.Test.YteloagahkphiaaaWGuard
import Derived.Test.YteloagahkphiaaaWNEv
import Derived.Test.YteloagahkphiaaaWMore
namespace Go.Proofs.Yteloagahkphiaaa.PFnExactLinesText
open Go.RowKit Go.Proofs.Yteloagahkphiaaa.Hand Go.Proofs.YteloagahkphiaaaW.PrintWords Go.Proofs.YteloagahkphiaaaW.PrintLast Go.Proofs.YteloagahkphiaaaW.PrintMore
attribute [local go_sem] max2_int min2_int max_two min_two max_three min_three max_four min_four   -- for this text's walks alone
set_option linter.unusedVariables false
set_option linter.unusedSimpArgs false



def errW : Option Int → Value
  | none => .nilIface
  | some c => .iface 0 (.int .i64 c)
theorem errW_none : errW none = .nilIface := rfl
theorem errW_some (c : Int) : errW (some c) = .iface 0 (.int .i64 c) := rfl

theorem info9 : (Try.prog.info? 9).map (fun i => (i.zero, i.size, i.bytes)) = some (some (.string ⟨#[]⟩), 1, 16) := by kernel_rfl
-- the values' own types

end Go.Proofs.Yteloagahkphiaaa.PFnExactLinesText
