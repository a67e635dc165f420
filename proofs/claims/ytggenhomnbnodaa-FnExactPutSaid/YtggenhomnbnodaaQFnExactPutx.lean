/- What the Go functions that the law FnExactPut reaches answer: each as a Lean function, with its walk. Written by a program of this session. Conditions: those that each theorem names. -/
import Derived.Test.YtggenhomnbnodaaQFnExactPutx0
import Derived.Test.YtggenhomnbnodaaQFnExactPutx1
import Derived.Test.YtggenhomnbnodaaQFnExactPutx2
import Derived.Test.YtggenhomnbnodaaQFnExactPutx3
import Derived.Test.YtggenhomnbnodaaQFnExactPutx4
import Derived.Test.YtggenhomnbnodaaQFnExactPutx5
import Derived.Test.YtggenhomnbnodaaQFnExactPutx6
import Derived.Test.YtggenhomnbnodaaQFnExactPutx7
import Derived.Test.YtggenhomnbnodaaQFnExactPutx8
import Derived.Test.YtggenhomnbnodaaQFnExactPutx9
import Derived.Test.YtggenhomnbnodaaQFnExactPutx10
namespace Go.Proofs.Ytggenhomnbnodaa.QFnExactPut
open Go.RowKit Go.Proofs.YtggenhomnbnodaaW.PrintWords Go.Proofs.YtggenhomnbnodaaW.PrintLast Go.Proofs.YtggenhomnbnodaaW.PrintMore
attribute [local go_sem] max2_int min2_int max_two min_two max_three min_three max_four min_four   -- for this text's walks alone
set_option linter.unusedVariables false
set_option linter.unusedSimpArgs false

end Go.Proofs.Ytggenhomnbnodaa.QFnExactPut
