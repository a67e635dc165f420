/- What the Go functions that the law FnExactSpanOk reaches answer: each as a Lean function, with its walk. Written by a program of this session. Conditions: those that each theorem names. -/
import Derived.Test.YtkhbhdchakbmhaaQFnExactSpanOkx0
import Derived.Test.YtkhbhdchakbmhaaQFnExactSpanOkx1
import Derived.Test.YtkhbhdchakbmhaaQFnExactSpanOkx2
import Derived.Test.YtkhbhdchakbmhaaQFnExactSpanOkx3
import Derived.Test.YtkhbhdchakbmhaaQFnExactSpanOkx4
import Derived.Test.YtkhbhdchakbmhaaQFnExactSpanOkx5
import Derived.Test.YtkhbhdchakbmhaaQFnExactSpanOkx6
namespace Go.Proofs.Ytkhbhdchakbmhaa.QFnExactSpanOk
open Go.RowKit Go.Proofs.YtkhbhdchakbmhaaW.PrintWords Go.Proofs.YtkhbhdchakbmhaaW.PrintLast Go.Proofs.YtkhbhdchakbmhaaW.PrintMore
attribute [local go_sem] max2_int min2_int max_two min_two max_three min_three max_four min_four   -- for this text's walks alone
set_option linter.unusedVariables false
set_option linter.unusedSimpArgs false

end Go.Proofs.Ytkhbhdchakbmhaa.QFnExactSpanOk
