-- Laid by wip/pp.py for this seat.
import Derived.Test.YtjkbgcdhhiakmaaDoorQ04cx0
import Derived.Test.YtjkbgcdhhiakmaaDoorQ04cx1
import Derived.Test.YtjkbgcdhhiakmaaDoorQ04cx2
import Derived.Test.YtjkbgcdhhiakmaaDoorQ04cx3
namespace Go.Proofs.YtjkbgcdhhiakmaaDoor.Q04c
open Go.RowKit Go.Proofs.YtjkbgcdhhiakmaaDoorW.PrintWords Go.Proofs.YtjkbgcdhhiakmaaDoorW.PrintLast Go.Proofs.YtjkbgcdhhiakmaaDoorW.PrintMore
attribute [local go_sem] max2_int min2_int max_two min_two max_three min_three max_four min_four   -- for this text's walks alone
set_option linter.unusedVariables false
set_option linter.unusedSimpArgs false

end Go.Proofs.YtjkbgcdhhiakmaaDoor.Q04c
