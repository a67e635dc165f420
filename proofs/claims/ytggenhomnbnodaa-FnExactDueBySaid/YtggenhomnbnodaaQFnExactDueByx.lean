/- What the Go functions that the law FnExactDueBy reaches answer: each as a Lean function, with its walk. Written by a program of this session. Conditions: those that each theorem names. -/
import Derived.Test.YtggenhomnbnodaaQFnExactDueByx0
import Derived.Test.YtggenhomnbnodaaQFnExactDueByx1
import Derived.Test.YtggenhomnbnodaaQFnExactDueByx2
import Derived.Test.YtggenhomnbnodaaQFnExactDueByx3
import Derived.Test.YtggenhomnbnodaaQFnExactDueByx4
import Derived.Test.YtggenhomnbnodaaQFnExactDueByx5
import Derived.Test.YtggenhomnbnodaaQFnExactDueByx6
namespace Go.Proofs.Ytggenhomnbnodaa.QFnExactDueBy
open Go.RowKit Go.Proofs.YtggenhomnbnodaaW.PrintWords Go.Proofs.YtggenhomnbnodaaW.PrintLast Go.Proofs.YtggenhomnbnodaaW.PrintMore
attribute [local go_sem] max2_int min2_int max_two min_two max_three min_three max_four min_four   -- for this text's walks alone
set_option linter.unusedVariables false
set_option linter.unusedSimpArgs false

end Go.Proofs.Ytggenhomnbnodaa.QFnExactDueBy
