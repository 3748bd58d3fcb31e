-- Laid by wip/pp.py for this seat.
import Derived.Test.YtljmamlceofcfaaQ06mx0
import Derived.Test.YtljmamlceofcfaaQ06mx1
import Derived.Test.YtljmamlceofcfaaQ06mx2
import Derived.Test.YtljmamlceofcfaaQ06mx3
import Derived.Test.YtljmamlceofcfaaQ06mx4
namespace Go.Proofs.Ytljmamlceofcfaa.Q06m
open Go.RowKit Go.Proofs.YtljmamlceofcfaaW.PrintWords Go.Proofs.YtljmamlceofcfaaW.PrintLast Go.Proofs.YtljmamlceofcfaaW.PrintMore
attribute [local go_sem] max2_int min2_int max_two min_two max_three min_three max_four min_four   -- for this text's walks alone
set_option linter.unusedVariables false
set_option linter.unusedSimpArgs false

end Go.Proofs.Ytljmamlceofcfaa.Q06m
