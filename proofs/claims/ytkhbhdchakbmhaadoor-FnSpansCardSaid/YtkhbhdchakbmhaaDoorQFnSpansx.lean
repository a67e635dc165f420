/- What the Go functions that the law FnSpans reaches answer: each as a Lean function, with its walk. Written by a program of this session. Conditions: those that each theorem names. -/
import Derived.Test.YtkhbhdchakbmhaaDoorQFnSpansx0
import Derived.Test.YtkhbhdchakbmhaaDoorQFnSpansx1
import Derived.Test.YtkhbhdchakbmhaaDoorQFnSpansx2
import Derived.Test.YtkhbhdchakbmhaaDoorQFnSpansx3
import Derived.Test.YtkhbhdchakbmhaaDoorQFnSpansx4
import Derived.Test.YtkhbhdchakbmhaaDoorQFnSpansx5
import Derived.Test.YtkhbhdchakbmhaaDoorQFnSpansx6
import Derived.Test.YtkhbhdchakbmhaaDoorQFnSpansx7
import Derived.Test.YtkhbhdchakbmhaaDoorQFnSpansx8
import Derived.Test.YtkhbhdchakbmhaaDoorQFnSpansx9
import Derived.Test.YtkhbhdchakbmhaaDoorQFnSpansx10
import Derived.Test.YtkhbhdchakbmhaaDoorQFnSpansx11
import Derived.Test.YtkhbhdchakbmhaaDoorQFnSpansx12
import Derived.Test.YtkhbhdchakbmhaaDoorQFnSpansx13
import Derived.Test.YtkhbhdchakbmhaaDoorQFnSpansx14
namespace Go.Proofs.YtkhbhdchakbmhaaDoor.QFnSpans
open Go.RowKit Go.Proofs.YtkhbhdchakbmhaaDoorW.PrintWords Go.Proofs.YtkhbhdchakbmhaaDoorW.PrintLast Go.Proofs.YtkhbhdchakbmhaaDoorW.PrintMore
attribute [local go_sem] max2_int min2_int max_two min_two max_three min_three max_four min_four   -- for this text's walks alone
set_option linter.unusedVariables false
set_option linter.unusedSimpArgs false

end Go.Proofs.YtkhbhdchakbmhaaDoor.QFnSpans
