/- Every exported constant has the value given in the specification. Conditions: none beyond the statement's own. -/
import Derived.Test.YtdmcepodfkmlaaaPFnExactConstantsx1
set_option linter.unusedVariables false
set_option linter.unusedSimpArgs false
namespace Go.Proofs.Ytdmcepodfkmlaaa.Pure
open Go.RowKit Go.Proofs.Ytdmcepodfkmlaaa.PFnExactConstants Go.Proofs.YtdmcepodfkmlaaaW.PrintWords Go.Proofs.YtdmcepodfkmlaaaW.PrintLast

theorem FnExactConstants : laws_FnExactConstants.Pure := rfl

end Go.Proofs.Ytdmcepodfkmlaaa.Pure
