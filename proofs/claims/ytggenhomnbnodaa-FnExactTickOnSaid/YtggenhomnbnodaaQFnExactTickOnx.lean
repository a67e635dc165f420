/- What the Go functions that the law FnExactTickOn reaches answer: each as a Lean function, with its walk. Written by a program of this session. Conditions: those that each theorem names. -/
import Derived.Test.YtggenhomnbnodaaQFnExactTickOnx0
import Derived.Test.YtggenhomnbnodaaQFnExactTickOnx1
import Derived.Test.YtggenhomnbnodaaQFnExactTickOnx2
import Derived.Test.YtggenhomnbnodaaQFnExactTickOnx3
import Derived.Test.YtggenhomnbnodaaQFnExactTickOnx4
import Derived.Test.YtggenhomnbnodaaQFnExactTickOnx5
import Derived.Test.YtggenhomnbnodaaQFnExactTickOnx6
import Derived.Test.YtggenhomnbnodaaQFnExactTickOnx7
import Derived.Test.YtggenhomnbnodaaQFnExactTickOnx8
import Derived.Test.YtggenhomnbnodaaQFnExactTickOnx9
import Derived.Test.YtggenhomnbnodaaQFnExactTickOnx10
import Derived.Test.YtggenhomnbnodaaQFnExactTickOnx11
namespace Go.Proofs.Ytggenhomnbnodaa.QFnExactTickOn
open Go.RowKit Go.Proofs.YtggenhomnbnodaaW.PrintWords Go.Proofs.YtggenhomnbnodaaW.PrintLast Go.Proofs.YtggenhomnbnodaaW.PrintMore
attribute [local go_sem] max2_int min2_int max_two min_two max_three min_three max_four min_four   -- for this text's walks alone
set_option linter.unusedVariables false
set_option linter.unusedSimpArgs false

end Go.Proofs.Ytggenhomnbnodaa.QFnExactTickOn
