/- What the Go functions that the law FnExactCancel reaches answer: each as a Lean function, with its walk. Written by a program of this session. Conditions: those that each theorem names. -/
import Derived.Test.YtggenhomnbnodaaQFnExactCancelx0
import Derived.Test.YtggenhomnbnodaaQFnExactCancelx1
import Derived.Test.YtggenhomnbnodaaQFnExactCancelx2
import Derived.Test.YtggenhomnbnodaaQFnExactCancelx3
import Derived.Test.YtggenhomnbnodaaQFnExactCancelx4
import Derived.Test.YtggenhomnbnodaaQFnExactCancelx5
import Derived.Test.YtggenhomnbnodaaQFnExactCancelx6
import Derived.Test.YtggenhomnbnodaaQFnExactCancelx7
import Derived.Test.YtggenhomnbnodaaQFnExactCancelx8
import Derived.Test.YtggenhomnbnodaaQFnExactCancelx9
import Derived.Test.YtggenhomnbnodaaQFnExactCancelx10
namespace Go.Proofs.Ytggenhomnbnodaa.QFnExactCancel
open Go.RowKit Go.Proofs.YtggenhomnbnodaaW.PrintWords Go.Proofs.YtggenhomnbnodaaW.PrintLast Go.Proofs.YtggenhomnbnodaaW.PrintMore
attribute [local go_sem] max2_int min2_int max_two min_two max_three min_three max_four min_four   -- for this text's walks alone
set_option linter.unusedVariables false
set_option linter.unusedSimpArgs false

end Go.Proofs.Ytggenhomnbnodaa.QFnExactCancel
