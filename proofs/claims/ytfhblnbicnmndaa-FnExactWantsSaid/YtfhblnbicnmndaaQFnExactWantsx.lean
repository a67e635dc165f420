/- What the Go functions that the law FnExactWants reaches answer: each as a Lean function, with its walk. Written by a program of this session. Conditions: those that each theorem names. -/
import Derived.Test.YtfhblnbicnmndaaQFnExactWantsx0
import Derived.Test.YtfhblnbicnmndaaQFnExactWantsx1
import Derived.Test.YtfhblnbicnmndaaQFnExactWantsx2
import Derived.Test.YtfhblnbicnmndaaQFnExactWantsx3
import Derived.Test.YtfhblnbicnmndaaQFnExactWantsx4
import Derived.Test.YtfhblnbicnmndaaQFnExactWantsx5
import Derived.Test.YtfhblnbicnmndaaQFnExactWantsx6
import Derived.Test.YtfhblnbicnmndaaQFnExactWantsx7
namespace Go.Proofs.Ytfhblnbicnmndaa.QFnExactWants
open Go.RowKit Go.Proofs.YtfhblnbicnmndaaW.PrintWords Go.Proofs.YtfhblnbicnmndaaW.PrintLast Go.Proofs.YtfhblnbicnmndaaW.PrintMore
attribute [local go_sem] max2_int min2_int max_two min_two max_three min_three max_four min_four   -- for this text's walks alone
set_option linter.unusedVariables false
set_option linter.unusedSimpArgs false

end Go.Proofs.Ytfhblnbicnmndaa.QFnExactWants
