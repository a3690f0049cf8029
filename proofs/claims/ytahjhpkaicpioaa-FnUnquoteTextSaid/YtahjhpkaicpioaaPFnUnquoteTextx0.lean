-- Written for this session by its program hprint.py over the kit's print: functions, and contracts that the walk of the Go code proves.
import Derived.Test.YtahjhpkaicpioaaProg
import Derived.Below
import Derived.Deep.Draws
import Derived.Deep.AppendLies
import Derived.Maps.AppendAt
import Derived.OwnWalk
import Derived.Laws.BytesArg
import Derived.Laws.MakeOwn
import Derived.Laws.OwnMore
import Derived.Deep.OwnRows
import Derived.Tactics
import Derived.Lib.ConvBytes
import Derived.Laws.Slices
import Derived.WalkKit
import Derived.KernelRfl
import Derived.RowKit3
import Derived.Deep.LoopGhost
import Derived.Deep.QuietTactic
import Derived.BigQuiet
import Derived.WideLaws
import Derived.Deep.DeepCutAuto
import Derived.Deep.CutBlock
import Derived.Deep.RegionHeld3
import Derived.Laws.Rows
import Derived.Lib.AppendStr
import Derived.ArgAppend
import Derived.Laws.IdiomCopy
import Derived.OrdersHeld
import Derived.Laws.BitsLemmas
import Derived.RowKit
import Derived.Test.YtahjhpkaicpioaaWWords
import Derived.Test.YtahjhpkaicpioaaWLast
import Derived.Test.YtahjhpkaicpioaaWTab
import Derived.Test.YtahjhpkaicpioaaWFour
import Derived.Test.YtahjhpkaicpioaaWQPut
import Derived.Test.YtahjhpkaicpioaaWApart
import Derived.Test.YtahjhpkaicpioaaWArr
import Derived.Test.YtahjhpkaicpioaaWZeros
import Derived.Test.YtahjhpkaicpioaaWFoot
import Derived.Test.YtahjhpkaicpioaaWKept
import Derived.Test.YtahjhpkaicpioaaWShare
import Derived.Test.YtahjhpkaicpioaaWN
import Derived.Test.YtahjhpkaicpioaaWFootNe
import Derived.Test.YtahjhpkaicpioaaWAt
import Derived.Test.YtahjhpkaicpioaaWEqStruct
import Derived.Test.YtahjhpkaicpioaaWRepsOne
import Derived.Test.YtahjhpkaicpioaaWInv
import Derived.Test.YtahjhpkaicpioaaWInvWords
import Derived.Test.YtahjhpkaicpioaaWGuard
import Derived.Test.YtahjhpkaicpioaaWNEv
import Derived.Test.YtahjhpkaicpioaaWMore
namespace Go.Proofs.Ytahjhpkaicpioaa.PFnUnquoteText
open Go.RowKit Go.Proofs.YtahjhpkaicpioaaW.PrintWords Go.Proofs.YtahjhpkaicpioaaW.PrintLast Go.Proofs.YtahjhpkaicpioaaW.PrintMore
attribute [local go_sem] max2_int min2_int max_two min_two max_three min_three max_four min_four   -- for this text's walks alone
set_option linter.unusedVariables false
set_option linter.unusedSimpArgs false



def errW : Option Int → Value
  | none => .nilIface
  | some c => .iface 0 (.int .i64 c)
theorem errW_none : errW none = .nilIface := rfl
theorem errW_some (c : Int) : errW (some c) = .iface 0 (.int .i64 c) := rfl

theorem info5 : (Try.prog.info? 5).map (fun i => (i.zero, i.size, i.bytes)) = some (some (.int .u8 0), 1, 1) := by kernel_rfl
theorem info9 : (Try.prog.info? 9).map (fun i => (i.zero, i.size, i.bytes)) = some (some (.string ⟨#[]⟩), 1, 16) := by kernel_rfl
-- the values' own types

end Go.Proofs.Ytahjhpkaicpioaa.PFnUnquoteText
