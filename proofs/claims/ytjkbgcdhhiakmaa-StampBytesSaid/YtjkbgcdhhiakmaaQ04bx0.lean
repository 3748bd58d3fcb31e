-- Laid by wip/pp.py for this seat.
import Derived.Test.YtjkbgcdhhiakmaaProg
import Derived.Below
import Derived.Deep.Draws
import Derived.Deep.AppendLies
import Derived.Maps.AppendAt
import Derived.OwnWalk
import Derived.Laws.BytesArg
import Derived.Laws.MakeOwn
import Derived.Laws.OwnMore
import Derived.Deep.OwnRows
import Derived.Tactics
import Derived.Lib.ConvBytes
import Derived.Laws.Slices
import Derived.WalkKit
import Derived.KernelRfl
import Derived.RowKit3
import Derived.Deep.LoopGhost
import Derived.Deep.QuietTactic
import Derived.BigQuiet
import Derived.WideLaws
import Derived.Deep.DeepCutAuto
import Derived.Deep.CutBlock
import Derived.Deep.RegionHeld3
import Derived.Laws.Rows
import Derived.Lib.AppendStr
import Derived.ArgAppend
import Derived.Laws.IdiomCopy
import Derived.OrdersHeld
import Derived.Laws.BitsLemmas
import Derived.RowKit
import Derived.ChangeKeysEq
import Derived.Test.YtjkbgcdhhiakmaaWWords
import Derived.Test.YtjkbgcdhhiakmaaWLast
import Derived.Test.YtjkbgcdhhiakmaaWTab
import Derived.Test.YtjkbgcdhhiakmaaWFour
import Derived.Test.YtjkbgcdhhiakmaaWQPut
import Derived.Test.YtjkbgcdhhiakmaaWApart
import Derived.Test.YtjkbgcdhhiakmaaWArr
import Derived.Test.YtjkbgcdhhiakmaaWZeros
import Derived.Test.YtjkbgcdhhiakmaaWFoot
import Derived.Test.YtjkbgcdhhiakmaaWKept
import Derived.Test.YtjkbgcdhhiakmaaWShare
import Derived.Test.YtjkbgcdhhiakmaaWN
import Derived.Test.YtjkbgcdhhiakmaaWFootNe
import Derived.Test.YtjkbgcdhhiakmaaWAt
import Derived.Test.YtjkbgcdhhiakmaaWEqStruct
import Derived.Test.YtjkbgcdhhiakmaaWRepsOne
import Derived.Test.YtjkbgcdhhiakmaaWInv
import Derived.Test.YtjkbgcdhhiakmaaWInvWords
import Derived.Test.YtjkbgcdhhiakmaaWGuard
import Derived.Test.YtjkbgcdhhiakmaaWNEv
import Derived.Test.YtjkbgcdhhiakmaaWMore
namespace Go.Proofs.Ytjkbgcdhhiakmaa.Q04b
open Go.RowKit Go.Proofs.YtjkbgcdhhiakmaaW.PrintWords Go.Proofs.YtjkbgcdhhiakmaaW.PrintLast Go.Proofs.YtjkbgcdhhiakmaaW.PrintMore
attribute [local go_sem] max2_int min2_int max_two min_two max_three min_three max_four min_four   -- for this text's walks alone
set_option linter.unusedVariables false
set_option linter.unusedSimpArgs false



def errW : Option Int → Value
  | none => .nilIface
  | some c => .iface 0 (.int .i64 c)
theorem errW_none : errW none = .nilIface := rfl
theorem errW_some (c : Int) : errW (some c) = .iface 0 (.int .i64 c) := rfl

-- the values' own types

end Go.Proofs.Ytjkbgcdhhiakmaa.Q04b
