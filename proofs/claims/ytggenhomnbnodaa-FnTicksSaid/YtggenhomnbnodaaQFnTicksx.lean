/- What the Go functions that the law FnTicks reaches answer: each as a Lean function, with its walk. Written by a program of this session. Conditions: those that each theorem names. -/
import Derived.Test.YtggenhomnbnodaaQFnTicksx0
import Derived.Test.YtggenhomnbnodaaQFnTicksx1
import Derived.Test.YtggenhomnbnodaaQFnTicksx2
import Derived.Test.YtggenhomnbnodaaQFnTicksx3
import Derived.Test.YtggenhomnbnodaaQFnTicksx4
import Derived.Test.YtggenhomnbnodaaQFnTicksx5
import Derived.Test.YtggenhomnbnodaaQFnTicksx6
import Derived.Test.YtggenhomnbnodaaQFnTicksx7
import Derived.Test.YtggenhomnbnodaaQFnTicksx8
import Derived.Test.YtggenhomnbnodaaQFnTicksx9
import Derived.Test.YtggenhomnbnodaaQFnTicksx10
import Derived.Test.YtggenhomnbnodaaQFnTicksx11
import Derived.Test.YtggenhomnbnodaaQFnTicksx12
import Derived.Test.YtggenhomnbnodaaQFnTicksx13
import Derived.Test.YtggenhomnbnodaaQFnTicksx14
import Derived.Test.YtggenhomnbnodaaQFnTicksx15
namespace Go.Proofs.Ytggenhomnbnodaa.QFnTicks
open Go.RowKit Go.Proofs.YtggenhomnbnodaaW.PrintWords Go.Proofs.YtggenhomnbnodaaW.PrintLast Go.Proofs.YtggenhomnbnodaaW.PrintMore
attribute [local go_sem] max2_int min2_int max_two min_two max_three min_three max_four min_four   -- for this text's walks alone
set_option linter.unusedVariables false
set_option linter.unusedSimpArgs false

end Go.Proofs.Ytggenhomnbnodaa.QFnTicks
