/- What the Go functions that the law FnExactPolOk reaches answer: each as a Lean function, with its walk. Written by a program of this session. Conditions: those that each theorem names. -/
import Derived.Test.YtfhblnbicnmndaaQFnExactPolOkx0
import Derived.Test.YtfhblnbicnmndaaQFnExactPolOkx1
import Derived.Test.YtfhblnbicnmndaaQFnExactPolOkx2
import Derived.Test.YtfhblnbicnmndaaQFnExactPolOkx3
import Derived.Test.YtfhblnbicnmndaaQFnExactPolOkx4
import Derived.Test.YtfhblnbicnmndaaQFnExactPolOkx5
import Derived.Test.YtfhblnbicnmndaaQFnExactPolOkx6
namespace Go.Proofs.Ytfhblnbicnmndaa.QFnExactPolOk
open Go.RowKit Go.Proofs.YtfhblnbicnmndaaW.PrintWords Go.Proofs.YtfhblnbicnmndaaW.PrintLast Go.Proofs.YtfhblnbicnmndaaW.PrintMore
attribute [local go_sem] max2_int min2_int max_two min_two max_three min_three max_four min_four   -- for this text's walks alone
set_option linter.unusedVariables false
set_option linter.unusedSimpArgs false

end Go.Proofs.Ytfhblnbicnmndaa.QFnExactPolOk
