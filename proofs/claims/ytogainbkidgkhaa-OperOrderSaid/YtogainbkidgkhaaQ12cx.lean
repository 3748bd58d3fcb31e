-- Laid by wip/pp.py for this seat.
import Derived.Test.YtogainbkidgkhaaQ12cx0
import Derived.Test.YtogainbkidgkhaaQ12cx1
namespace Go.Proofs.Ytogainbkidgkhaa.Q12c
open Go.RowKit Go.Proofs.YtogainbkidgkhaaW.PrintWords Go.Proofs.YtogainbkidgkhaaW.PrintLast Go.Proofs.YtogainbkidgkhaaW.PrintMore
attribute [local go_sem] max2_int min2_int max_two min_two max_three min_three max_four min_four   -- for this text's walks alone
set_option linter.unusedVariables false
set_option linter.unusedSimpArgs false

end Go.Proofs.Ytogainbkidgkhaa.Q12c
