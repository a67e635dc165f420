/- What the Go functions that the law FnExactTimers reaches answer: each as a Lean function, with its walk. Written by a program of this session. Conditions: those that each theorem names. -/
import Derived.Test.YtggenhomnbnodaaQFnExactTimersx0
import Derived.Test.YtggenhomnbnodaaQFnExactTimersx1
import Derived.Test.YtggenhomnbnodaaQFnExactTimersx2
import Derived.Test.YtggenhomnbnodaaQFnExactTimersx3
import Derived.Test.YtggenhomnbnodaaQFnExactTimersx4
namespace Go.Proofs.Ytggenhomnbnodaa.QFnExactTimers
open Go.RowKit Go.Proofs.YtggenhomnbnodaaW.PrintWords Go.Proofs.YtggenhomnbnodaaW.PrintLast Go.Proofs.YtggenhomnbnodaaW.PrintMore
attribute [local go_sem] max2_int min2_int max_two min_two max_three min_three max_four min_four   -- for this text's walks alone
set_option linter.unusedVariables false
set_option linter.unusedSimpArgs false

end Go.Proofs.Ytggenhomnbnodaa.QFnExactTimers
