/- What the Go functions that the law FnAttrs reaches answer: each as a Lean function, with its walk. Written by a program of this session. Conditions: those that each theorem names. -/
import Derived.Test.YtkhbhdchakbmhaaDoorQFnAttrsx0
import Derived.Test.YtkhbhdchakbmhaaDoorQFnAttrsx1
import Derived.Test.YtkhbhdchakbmhaaDoorQFnAttrsx2
import Derived.Test.YtkhbhdchakbmhaaDoorQFnAttrsx3
import Derived.Test.YtkhbhdchakbmhaaDoorQFnAttrsx4
import Derived.Test.YtkhbhdchakbmhaaDoorQFnAttrsx5
import Derived.Test.YtkhbhdchakbmhaaDoorQFnAttrsx6
import Derived.Test.YtkhbhdchakbmhaaDoorQFnAttrsx7
import Derived.Test.YtkhbhdchakbmhaaDoorQFnAttrsx8
import Derived.Test.YtkhbhdchakbmhaaDoorQFnAttrsx9
namespace Go.Proofs.YtkhbhdchakbmhaaDoor.QFnAttrs
open Go.RowKit Go.Proofs.YtkhbhdchakbmhaaDoorW.PrintWords Go.Proofs.YtkhbhdchakbmhaaDoorW.PrintLast Go.Proofs.YtkhbhdchakbmhaaDoorW.PrintMore
attribute [local go_sem] max2_int min2_int max_two min_two max_three min_three max_four min_four   -- for this text's walks alone
set_option linter.unusedVariables false
set_option linter.unusedSimpArgs false

end Go.Proofs.YtkhbhdchakbmhaaDoor.QFnAttrs
