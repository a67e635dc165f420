/- What functions that the law reaches answer, with their walks. Conditions: those that each theorem names. -/
import Derived.Test.YtggenhomnbnodaaQFnWheelsx0
import Derived.Test.YtggenhomnbnodaaQFnWheelsx1
import Derived.Test.YtggenhomnbnodaaQFnWheelsx2
import Derived.Test.YtggenhomnbnodaaQFnWheelsx3
import Derived.Test.YtggenhomnbnodaaQFnWheelsx4
import Derived.Test.YtggenhomnbnodaaQFnWheelsx5
import Derived.Test.YtggenhomnbnodaaQFnWheelsx6
import Derived.Test.YtggenhomnbnodaaQFnWheelsx7
import Derived.Test.YtggenhomnbnodaaQFnWheelsx8
import Derived.Test.YtggenhomnbnodaaQFnWheelsx9
import Derived.Test.YtggenhomnbnodaaQFnWheelsx10
import Derived.Test.YtggenhomnbnodaaQFnWheelsx11
import Derived.Test.YtggenhomnbnodaaQFnWheelsx12
import Derived.Test.YtggenhomnbnodaaQFnWheelsx13
import Derived.Test.YtggenhomnbnodaaQFnWheelsx14
import Derived.Test.YtggenhomnbnodaaQFnWheelsx15
import Derived.Test.YtggenhomnbnodaaQFnWheelsx16
namespace Go.Proofs.Ytggenhomnbnodaa.QFnWheels
open Go.RowKit Go.Proofs.YtggenhomnbnodaaW.PrintWords Go.Proofs.YtggenhomnbnodaaW.PrintLast Go.Proofs.YtggenhomnbnodaaW.PrintMore
attribute [local go_sem] max2_int min2_int max_two min_two max_three min_three max_four min_four
set_option linter.unusedVariables false
set_option linter.unusedSimpArgs false

end Go.Proofs.Ytggenhomnbnodaa.QFnWheels
