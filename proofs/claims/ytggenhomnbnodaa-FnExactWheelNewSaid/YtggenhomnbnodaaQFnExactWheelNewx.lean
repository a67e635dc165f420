/- What the Go functions that the law FnExactWheelNew reaches answer: each as a Lean function, with its walk. Written by a program of this session. Conditions: those that each theorem names. -/
import Derived.Test.YtggenhomnbnodaaQFnExactWheelNewx0
import Derived.Test.YtggenhomnbnodaaQFnExactWheelNewx1
import Derived.Test.YtggenhomnbnodaaQFnExactWheelNewx2
import Derived.Test.YtggenhomnbnodaaQFnExactWheelNewx3
namespace Go.Proofs.Ytggenhomnbnodaa.QFnExactWheelNew
open Go.RowKit Go.Proofs.YtggenhomnbnodaaW.PrintWords Go.Proofs.YtggenhomnbnodaaW.PrintLast Go.Proofs.YtggenhomnbnodaaW.PrintMore
attribute [local go_sem] max2_int min2_int max_two min_two max_three min_three max_four min_four   -- for this text's walks alone
set_option linter.unusedVariables false
set_option linter.unusedSimpArgs false

end Go.Proofs.Ytggenhomnbnodaa.QFnExactWheelNew
