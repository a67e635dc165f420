/- What the Go functions that the law FnTimes reaches answer: each as a Lean function, with its walk. Written by a program of this session. Conditions: those that each theorem names. -/
import Derived.Test.YtggenhomnbnodaaQFnTimesx0
import Derived.Test.YtggenhomnbnodaaQFnTimesx1
import Derived.Test.YtggenhomnbnodaaQFnTimesx2
import Derived.Test.YtggenhomnbnodaaQFnTimesx3
import Derived.Test.YtggenhomnbnodaaQFnTimesx4
import Derived.Test.YtggenhomnbnodaaQFnTimesx5
import Derived.Test.YtggenhomnbnodaaQFnTimesx6
import Derived.Test.YtggenhomnbnodaaQFnTimesx7
import Derived.Test.YtggenhomnbnodaaQFnTimesx8
import Derived.Test.YtggenhomnbnodaaQFnTimesx9
import Derived.Test.YtggenhomnbnodaaQFnTimesx10
import Derived.Test.YtggenhomnbnodaaQFnTimesx11
import Derived.Test.YtggenhomnbnodaaQFnTimesx12
import Derived.Test.YtggenhomnbnodaaQFnTimesx13
import Derived.Test.YtggenhomnbnodaaQFnTimesx14
namespace Go.Proofs.Ytggenhomnbnodaa.QFnTimes
open Go.RowKit Go.Proofs.YtggenhomnbnodaaW.PrintWords Go.Proofs.YtggenhomnbnodaaW.PrintLast Go.Proofs.YtggenhomnbnodaaW.PrintMore
attribute [local go_sem] max2_int min2_int max_two min_two max_three min_three max_four min_four   -- for this text's walks alone
set_option linter.unusedVariables false
set_option linter.unusedSimpArgs false

end Go.Proofs.Ytggenhomnbnodaa.QFnTimes
