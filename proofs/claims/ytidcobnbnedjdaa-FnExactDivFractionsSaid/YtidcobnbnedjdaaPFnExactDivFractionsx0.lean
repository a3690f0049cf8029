-- Written for this session by its program hprint.py over the kit's print: functions, and contracts that the walk of the Go code proves.
import Derived.Test.YtidcobnbnedjdaaProg
import Derived.Below
import Derived.Deep.Draws
import Derived.Deep.AppendLies
import Derived.Maps.AppendAt
import Derived.OwnWalk
import Derived.Laws.BytesArg
import Derived.Laws.MakeOwn
import Derived.Laws.OwnMore
import Derived.Deep.OwnRows
import Derived.Tactics
import Derived.Lib.ConvBytes
import Derived.Laws.Slices
import Derived.WalkKit
import Derived.KernelRfl
import Derived.RowKit3
import Derived.Deep.LoopGhost
import Derived.Deep.QuietTactic
import Derived.BigQuiet
import Derived.WideLaws
import Derived.Deep.DeepCutAuto
import Derived.Deep.CutBlock
import Derived.Deep.RegionHeld3
import Derived.Laws.Rows
import Derived.Lib.AppendStr
import Derived.ArgAppend
import Derived.Laws.IdiomCopy
import Derived.OrdersHeld
import Derived.Laws.BitsLemmas
import Derived.RowKit
import Derived.Test.YtidcobnbnedjdaaWWords
import Derived.Test.YtidcobnbnedjdaaWLast
import Derived.Test.YtidcobnbnedjdaaWTab
import Derived.Test.YtidcobnbnedjdaaWFour
import Derived.Test.YtidcobnbnedjdaaWQPut
import Derived.Test.YtidcobnbnedjdaaWApart
import Derived.Test.YtidcobnbnedjdaaWArr
import Derived.Test.YtidcobnbnedjdaaWZeros
import Derived.Test.YtidcobnbnedjdaaWFoot
import Derived.Test.YtidcobnbnedjdaaWKept
import Derived.Test.YtidcobnbnedjdaaWShare
import Derived.Test.YtidcobnbnedjdaaWN
import Derived.Test.YtidcobnbnedjdaaWFootNe
import Derived.Test.YtidcobnbnedjdaaWAt
import Derived.Test.YtidcobnbnedjdaaWEqStruct
import Derived.Test.YtidcobnbnedjdaaWRepsOne
import Derived.Test.YtidcobnbnedjdaaWInv
import Derived.Test.YtidcobnbnedjdaaWInvWords
import Derived.Test.YtidcobnbnedjdaaWGuard
import Derived.Test.YtidcobnbnedjdaaWNEv
import Derived.Test.YtidcobnbnedjdaaWMore
namespace Go.Proofs.Ytidcobnbnedjdaa.PFnExactDivFractions
open Go.RowKit Go.Proofs.YtidcobnbnedjdaaW.PrintWords Go.Proofs.YtidcobnbnedjdaaW.PrintLast Go.Proofs.YtidcobnbnedjdaaW.PrintMore
attribute [local go_sem] max2_int min2_int max_two min_two max_three min_three max_four min_four   -- for this text's walks alone
set_option linter.unusedVariables false
set_option linter.unusedSimpArgs false



def errW : Option Int → Value
  | none => .nilIface
  | some c => .iface 0 (.int .i64 c)
theorem errW_none : errW none = .nilIface := rfl
theorem errW_some (c : Int) : errW (some c) = .iface 0 (.int .i64 c) := rfl

-- the values' own types

end Go.Proofs.Ytidcobnbnedjdaa.PFnExactDivFractions
