-- Laid by wip/pp.py for this seat.
import Derived.Test.YtmpgknemhmoboaaDoorQ08Jx0
import Derived.Test.YtmpgknemhmoboaaDoorQ08Jx1
import Derived.Test.YtmpgknemhmoboaaDoorQ08Jx2
namespace Go.Proofs.YtmpgknemhmoboaaDoor.Q08J
open Go.RowKit Go.Proofs.YtmpgknemhmoboaaDoorW.PrintWords Go.Proofs.YtmpgknemhmoboaaDoorW.PrintLast Go.Proofs.YtmpgknemhmoboaaDoorW.PrintMore
attribute [local go_sem] max2_int min2_int max_two min_two max_three min_three max_four min_four   -- for this text's walks alone
set_option linter.unusedVariables false
set_option linter.unusedSimpArgs false

end Go.Proofs.YtmpgknemhmoboaaDoor.Q08J
