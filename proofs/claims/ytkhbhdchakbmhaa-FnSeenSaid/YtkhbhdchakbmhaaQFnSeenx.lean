/- What the Go functions that the law FnSeen reaches answer: each as a Lean function, with its walk. Written by a program of this session. Conditions: those that each theorem names. -/
import Derived.Test.YtkhbhdchakbmhaaQFnSeenx0
import Derived.Test.YtkhbhdchakbmhaaQFnSeenx1
import Derived.Test.YtkhbhdchakbmhaaQFnSeenx2
import Derived.Test.YtkhbhdchakbmhaaQFnSeenx3
import Derived.Test.YtkhbhdchakbmhaaQFnSeenx4
import Derived.Test.YtkhbhdchakbmhaaQFnSeenx5
namespace Go.Proofs.Ytkhbhdchakbmhaa.QFnSeen
open Go.RowKit Go.Proofs.YtkhbhdchakbmhaaW.PrintWords Go.Proofs.YtkhbhdchakbmhaaW.PrintLast Go.Proofs.YtkhbhdchakbmhaaW.PrintMore
attribute [local go_sem] max2_int min2_int max_two min_two max_three min_three max_four min_four   -- for this text's walks alone
set_option linter.unusedVariables false
set_option linter.unusedSimpArgs false

end Go.Proofs.Ytkhbhdchakbmhaa.QFnSeen
