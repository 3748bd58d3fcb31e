-- Laid by wip/pp.py for this seat.
import Derived.Test.YtmpgknemhmoboaaQ17hx0
import Derived.Test.YtmpgknemhmoboaaQ17hx1
import Derived.Test.YtmpgknemhmoboaaQ17hx2
import Derived.Test.YtmpgknemhmoboaaQ17hx3
namespace Go.Proofs.Ytmpgknemhmoboaa.Q17h
open Go.RowKit Go.Proofs.YtmpgknemhmoboaaW.PrintWords Go.Proofs.YtmpgknemhmoboaaW.PrintLast Go.Proofs.YtmpgknemhmoboaaW.PrintMore
attribute [local go_sem] max2_int min2_int max_two min_two max_three min_three max_four min_four   -- for this text's walks alone
set_option linter.unusedVariables false
set_option linter.unusedSimpArgs false

end Go.Proofs.Ytmpgknemhmoboaa.Q17h
