/- What the Go functions that the law FnExactJudge reaches answer: each as a Lean function, with its walk. Written by a program of this session. Conditions: those that each theorem names. -/
import Derived.Test.YtfhblnbicnmndaaQFnExactJudgex0
import Derived.Test.YtfhblnbicnmndaaQFnExactJudgex1
import Derived.Test.YtfhblnbicnmndaaQFnExactJudgex2
import Derived.Test.YtfhblnbicnmndaaQFnExactJudgex3
import Derived.Test.YtfhblnbicnmndaaQFnExactJudgex4
import Derived.Test.YtfhblnbicnmndaaQFnExactJudgex5
import Derived.Test.YtfhblnbicnmndaaQFnExactJudgex6
import Derived.Test.YtfhblnbicnmndaaQFnExactJudgex7
namespace Go.Proofs.Ytfhblnbicnmndaa.QFnExactJudge
open Go.RowKit Go.Proofs.YtfhblnbicnmndaaW.PrintWords Go.Proofs.YtfhblnbicnmndaaW.PrintLast Go.Proofs.YtfhblnbicnmndaaW.PrintMore
attribute [local go_sem] max2_int min2_int max_two min_two max_three min_three max_four min_four   -- for this text's walks alone
set_option linter.unusedVariables false
set_option linter.unusedSimpArgs false

end Go.Proofs.Ytfhblnbicnmndaa.QFnExactJudge
