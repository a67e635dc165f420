/- What the Go functions that the law FnExactPolText reaches answer: each as a Lean function, with its walk. Written by a program of this session. Conditions: those that each theorem names. -/
import Derived.Test.YtfhblnbicnmndaaDoorQFnExactPolTextx0
import Derived.Test.YtfhblnbicnmndaaDoorQFnExactPolTextx1
import Derived.Test.YtfhblnbicnmndaaDoorQFnExactPolTextx2
import Derived.Test.YtfhblnbicnmndaaDoorQFnExactPolTextx3
import Derived.Test.YtfhblnbicnmndaaDoorQFnExactPolTextx4
import Derived.Test.YtfhblnbicnmndaaDoorQFnExactPolTextx5
import Derived.Test.YtfhblnbicnmndaaDoorQFnExactPolTextx6
import Derived.Test.YtfhblnbicnmndaaDoorQFnExactPolTextx7
import Derived.Test.YtfhblnbicnmndaaDoorQFnExactPolTextx8
import Derived.Test.YtfhblnbicnmndaaDoorQFnExactPolTextx9
import Derived.Test.YtfhblnbicnmndaaDoorQFnExactPolTextx10
namespace Go.Proofs.YtfhblnbicnmndaaDoor.QFnExactPolText
open Go.RowKit Go.Proofs.YtfhblnbicnmndaaDoorW.PrintWords Go.Proofs.YtfhblnbicnmndaaDoorW.PrintLast Go.Proofs.YtfhblnbicnmndaaDoorW.PrintMore
attribute [local go_sem] max2_int min2_int max_two min_two max_three min_three max_four min_four   -- for this text's walks alone
set_option linter.unusedVariables false
set_option linter.unusedSimpArgs false

end Go.Proofs.YtfhblnbicnmndaaDoor.QFnExactPolText
