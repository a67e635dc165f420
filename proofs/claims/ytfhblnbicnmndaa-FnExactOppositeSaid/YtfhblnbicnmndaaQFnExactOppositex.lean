/- What the Go functions that the law FnExactOpposite reaches answer: each as a Lean function, with its walk. Written by a program of this session. Conditions: those that each theorem names. -/
import Derived.Test.YtfhblnbicnmndaaQFnExactOppositex0
import Derived.Test.YtfhblnbicnmndaaQFnExactOppositex1
import Derived.Test.YtfhblnbicnmndaaQFnExactOppositex2
import Derived.Test.YtfhblnbicnmndaaQFnExactOppositex3
namespace Go.Proofs.Ytfhblnbicnmndaa.QFnExactOpposite
open Go.RowKit Go.Proofs.YtfhblnbicnmndaaW.PrintWords Go.Proofs.YtfhblnbicnmndaaW.PrintLast Go.Proofs.YtfhblnbicnmndaaW.PrintMore
attribute [local go_sem] max2_int min2_int max_two min_two max_three min_three max_four min_four   -- for this text's walks alone
set_option linter.unusedVariables false
set_option linter.unusedSimpArgs false

end Go.Proofs.Ytfhblnbicnmndaa.QFnExactOpposite
