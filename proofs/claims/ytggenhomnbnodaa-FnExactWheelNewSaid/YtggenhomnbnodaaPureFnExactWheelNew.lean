/- The program's WheelNew returns what the reference's returns, for all arguments. Conditions: none beyond the statement's own. -/
import Derived.Test.YtggenhomnbnodaaQFnExactWheelNewx
set_option linter.unusedVariables false
set_option linter.unusedSimpArgs false
namespace Go.Proofs.Ytggenhomnbnodaa.Pure
open Go.RowKit Go.Proofs.Ytggenhomnbnodaa.QFnExactWheelNew Go.Proofs.YtggenhomnbnodaaW.PrintWords Go.Proofs.YtggenhomnbnodaaW.PrintLast Go.Proofs.YtggenhomnbnodaaW.PrintMore


theorem FnExactWheelNew : ∃ k, laws_FnExactWheelNew.f k  = some true := ⟨40, by decide +kernel⟩

end Go.Proofs.Ytggenhomnbnodaa.Pure
