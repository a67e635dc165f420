/- What the Go functions that the law FnDigits reaches answer: each as a Lean function, with its walk. Written by a program of this session. Conditions: those that each theorem names. -/
import Derived.Test.YtkhbhdchakbmhaaDoorQFnDigitsx0
import Derived.Test.YtkhbhdchakbmhaaDoorQFnDigitsx1
import Derived.Test.YtkhbhdchakbmhaaDoorQFnDigitsx2
import Derived.Test.YtkhbhdchakbmhaaDoorQFnDigitsx3
import Derived.Test.YtkhbhdchakbmhaaDoorQFnDigitsx4
namespace Go.Proofs.YtkhbhdchakbmhaaDoor.QFnDigits
open Go.RowKit Go.Proofs.YtkhbhdchakbmhaaDoorW.PrintWords Go.Proofs.YtkhbhdchakbmhaaDoorW.PrintLast Go.Proofs.YtkhbhdchakbmhaaDoorW.PrintMore
attribute [local go_sem] max2_int min2_int max_two min_two max_three min_three max_four min_four   -- for this text's walks alone
set_option linter.unusedVariables false
set_option linter.unusedSimpArgs false

end Go.Proofs.YtkhbhdchakbmhaaDoor.QFnDigits
