/- What the Go functions that the law FnJudges reaches answer: each as a Lean function, with its walk. Written by a program of this session. Conditions: those that each theorem names. -/
import Derived.Test.YtfhblnbicnmndaaQFnJudgesx0
import Derived.Test.YtfhblnbicnmndaaQFnJudgesx1
import Derived.Test.YtfhblnbicnmndaaQFnJudgesx2
import Derived.Test.YtfhblnbicnmndaaQFnJudgesx3
import Derived.Test.YtfhblnbicnmndaaQFnJudgesx4
import Derived.Test.YtfhblnbicnmndaaQFnJudgesx5
import Derived.Test.YtfhblnbicnmndaaQFnJudgesx6
import Derived.Test.YtfhblnbicnmndaaQFnJudgesx7
import Derived.Test.YtfhblnbicnmndaaQFnJudgesx8
import Derived.Test.YtfhblnbicnmndaaQFnJudgesx9
import Derived.Test.YtfhblnbicnmndaaQFnJudgesx10
namespace Go.Proofs.Ytfhblnbicnmndaa.QFnJudges
open Go.RowKit Go.Proofs.YtfhblnbicnmndaaW.PrintWords Go.Proofs.YtfhblnbicnmndaaW.PrintLast Go.Proofs.YtfhblnbicnmndaaW.PrintMore
attribute [local go_sem] max2_int min2_int max_two min_two max_three min_three max_four min_four   -- for this text's walks alone
set_option linter.unusedVariables false
set_option linter.unusedSimpArgs false

end Go.Proofs.Ytfhblnbicnmndaa.QFnJudges
