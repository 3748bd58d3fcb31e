-- Laid by wip/pp.py for this seat.
import Derived.Test.YtjkbgcdhhiakmaaQ04bx0
import Derived.Test.YtjkbgcdhhiakmaaQ04bx1
import Derived.Test.YtjkbgcdhhiakmaaQ04bx2
import Derived.Test.YtjkbgcdhhiakmaaQ04bx3
import Derived.Test.YtjkbgcdhhiakmaaQ04bx4
namespace Go.Proofs.Ytjkbgcdhhiakmaa.Q04b
open Go.RowKit Go.Proofs.YtjkbgcdhhiakmaaW.PrintWords Go.Proofs.YtjkbgcdhhiakmaaW.PrintLast Go.Proofs.YtjkbgcdhhiakmaaW.PrintMore
attribute [local go_sem] max2_int min2_int max_two min_two max_three min_three max_four min_four   -- for this text's walks alone
set_option linter.unusedVariables false
set_option linter.unusedSimpArgs false

end Go.Proofs.Ytjkbgcdhhiakmaa.Q04b
