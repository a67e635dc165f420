/- What the Go functions that the law FnPols reaches answer: each as a Lean function, with its walk. Written by a program of this session. Conditions: those that each theorem names. -/
import Derived.Test.YtfhblnbicnmndaaDoorQFnPolsx0
import Derived.Test.YtfhblnbicnmndaaDoorQFnPolsx1
import Derived.Test.YtfhblnbicnmndaaDoorQFnPolsx2
import Derived.Test.YtfhblnbicnmndaaDoorQFnPolsx3
import Derived.Test.YtfhblnbicnmndaaDoorQFnPolsx4
import Derived.Test.YtfhblnbicnmndaaDoorQFnPolsx5
import Derived.Test.YtfhblnbicnmndaaDoorQFnPolsx6
import Derived.Test.YtfhblnbicnmndaaDoorQFnPolsx7
import Derived.Test.YtfhblnbicnmndaaDoorQFnPolsx8
import Derived.Test.YtfhblnbicnmndaaDoorQFnPolsx9
import Derived.Test.YtfhblnbicnmndaaDoorQFnPolsx10
namespace Go.Proofs.YtfhblnbicnmndaaDoor.QFnPols
open Go.RowKit Go.Proofs.YtfhblnbicnmndaaDoorW.PrintWords Go.Proofs.YtfhblnbicnmndaaDoorW.PrintLast Go.Proofs.YtfhblnbicnmndaaDoorW.PrintMore
attribute [local go_sem] max2_int min2_int max_two min_two max_three min_three max_four min_four   -- for this text's walks alone
set_option linter.unusedVariables false
set_option linter.unusedSimpArgs false

end Go.Proofs.YtfhblnbicnmndaaDoor.QFnPols
