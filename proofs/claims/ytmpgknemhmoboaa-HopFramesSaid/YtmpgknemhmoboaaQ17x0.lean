-- Laid by wip/pp.py for this seat.
import Derived.Test.YtmpgknemhmoboaaProg
import Derived.Below
import Derived.Deep.Draws
import Derived.Deep.AppendLies
import Derived.Maps.AppendAt
import Derived.OwnWalk
import Derived.Laws.BytesArg
import Derived.Laws.MakeOwn
import Derived.Laws.OwnMore
import Derived.Deep.OwnRows
import Derived.Tactics
import Derived.Lib.ConvBytes
import Derived.Laws.Slices
import Derived.WalkKit
import Derived.KernelRfl
import Derived.RowKit3
import Derived.Deep.LoopGhost
import Derived.Deep.QuietTactic
import Derived.BigQuiet
import Derived.WideLaws
import Derived.Deep.DeepCutAuto
import Derived.Deep.CutBlock
import Derived.Deep.RegionHeld3
import Derived.Laws.Rows
import Derived.Lib.AppendStr
import Derived.ArgAppend
import Derived.Laws.IdiomCopy
import Derived.OrdersHeld
import Derived.Laws.BitsLemmas
import Derived.RowKit
import Derived.ChangeKeysEq
import Derived.Test.YtmpgknemhmoboaaWWords
import Derived.Test.YtmpgknemhmoboaaWLast
import Derived.Test.YtmpgknemhmoboaaWTab
import Derived.Test.YtmpgknemhmoboaaWFour
import Derived.Test.YtmpgknemhmoboaaWQPut
import Derived.Test.YtmpgknemhmoboaaWApart
import Derived.Test.YtmpgknemhmoboaaWArr
import Derived.Test.YtmpgknemhmoboaaWZeros
import Derived.Test.YtmpgknemhmoboaaWFoot
import Derived.Test.YtmpgknemhmoboaaWKept
import Derived.Test.YtmpgknemhmoboaaWShare
import Derived.Test.YtmpgknemhmoboaaWN
import Derived.Test.YtmpgknemhmoboaaWFootNe
import Derived.Test.YtmpgknemhmoboaaWAt
import Derived.Test.YtmpgknemhmoboaaWEqStruct
import Derived.Test.YtmpgknemhmoboaaWRepsOne
import Derived.Test.YtmpgknemhmoboaaWInv
import Derived.Test.YtmpgknemhmoboaaWInvWords
import Derived.Test.YtmpgknemhmoboaaWGuard
import Derived.Test.YtmpgknemhmoboaaWNEv
import Derived.Test.YtmpgknemhmoboaaWMore
namespace Go.Proofs.Ytmpgknemhmoboaa.Q17
open Go.RowKit Go.Proofs.YtmpgknemhmoboaaW.PrintWords Go.Proofs.YtmpgknemhmoboaaW.PrintLast Go.Proofs.YtmpgknemhmoboaaW.PrintMore
attribute [local go_sem] max2_int min2_int max_two min_two max_three min_three max_four min_four   -- for this text's walks alone
set_option linter.unusedVariables false
set_option linter.unusedSimpArgs false



def errW : Option Int → Value
  | none => .nilIface
  | some c => .iface 0 (.int .i64 c)
theorem errW_none : errW none = .nilIface := rfl
theorem errW_some (c : Int) : errW (some c) = .iface 0 (.int .i64 c) := rfl

-- the values' own types

end Go.Proofs.Ytmpgknemhmoboaa.Q17
