/- What the Go functions that the law FnExactSpanText reaches answer: each as a Lean function, with its walk. Written by a program of this session. Conditions: those that each theorem names. -/
import Derived.Test.YtkhbhdchakbmhaaDoorQFnExactSpanTextx0
import Derived.Test.YtkhbhdchakbmhaaDoorQFnExactSpanTextx1
import Derived.Test.YtkhbhdchakbmhaaDoorQFnExactSpanTextx2
import Derived.Test.YtkhbhdchakbmhaaDoorQFnExactSpanTextx3
import Derived.Test.YtkhbhdchakbmhaaDoorQFnExactSpanTextx4
import Derived.Test.YtkhbhdchakbmhaaDoorQFnExactSpanTextx5
import Derived.Test.YtkhbhdchakbmhaaDoorQFnExactSpanTextx6
import Derived.Test.YtkhbhdchakbmhaaDoorQFnExactSpanTextx7
import Derived.Test.YtkhbhdchakbmhaaDoorQFnExactSpanTextx8
import Derived.Test.YtkhbhdchakbmhaaDoorQFnExactSpanTextx9
import Derived.Test.YtkhbhdchakbmhaaDoorQFnExactSpanTextx10
namespace Go.Proofs.YtkhbhdchakbmhaaDoor.QFnExactSpanText
open Go.RowKit Go.Proofs.YtkhbhdchakbmhaaDoorW.PrintWords Go.Proofs.YtkhbhdchakbmhaaDoorW.PrintLast Go.Proofs.YtkhbhdchakbmhaaDoorW.PrintMore
attribute [local go_sem] max2_int min2_int max_two min_two max_three min_three max_four min_four   -- for this text's walks alone
set_option linter.unusedVariables false
set_option linter.unusedSimpArgs false

end Go.Proofs.YtkhbhdchakbmhaaDoor.QFnExactSpanText
