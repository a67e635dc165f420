/- What the Go functions that the law FnExactAdvance reaches answer: each as a Lean function, with its walk. Written by a program of this session. Conditions: those that each theorem names. -/
import Derived.Test.YtggenhomnbnodaaQFnExactAdvancex0
import Derived.Test.YtggenhomnbnodaaQFnExactAdvancex1
import Derived.Test.YtggenhomnbnodaaQFnExactAdvancex2
import Derived.Test.YtggenhomnbnodaaQFnExactAdvancex3
import Derived.Test.YtggenhomnbnodaaQFnExactAdvancex4
import Derived.Test.YtggenhomnbnodaaQFnExactAdvancex5
import Derived.Test.YtggenhomnbnodaaQFnExactAdvancex6
import Derived.Test.YtggenhomnbnodaaQFnExactAdvancex7
import Derived.Test.YtggenhomnbnodaaQFnExactAdvancex8
import Derived.Test.YtggenhomnbnodaaQFnExactAdvancex9
import Derived.Test.YtggenhomnbnodaaQFnExactAdvancex10
import Derived.Test.YtggenhomnbnodaaQFnExactAdvancex11
namespace Go.Proofs.Ytggenhomnbnodaa.QFnExactAdvance
open Go.RowKit Go.Proofs.YtggenhomnbnodaaW.PrintWords Go.Proofs.YtggenhomnbnodaaW.PrintLast Go.Proofs.YtggenhomnbnodaaW.PrintMore
attribute [local go_sem] max2_int min2_int max_two min_two max_three min_three max_four min_four   -- for this text's walks alone
set_option linter.unusedVariables false
set_option linter.unusedSimpArgs false

end Go.Proofs.Ytggenhomnbnodaa.QFnExactAdvance
