/- The program's BucketNew returns what the reference's returns, for all arguments. Conditions: none beyond the statement's own. -/
import Derived.Test.YtdmcepodfkmlaaaPFnExactBucketNewx1
set_option linter.unusedVariables false
set_option linter.unusedSimpArgs false
namespace Go.Proofs.Ytdmcepodfkmlaaa.Pure
open Go.RowKit Go.Proofs.Ytdmcepodfkmlaaa.PFnExactBucketNew Go.Proofs.YtdmcepodfkmlaaaW.PrintWords Go.Proofs.YtdmcepodfkmlaaaW.PrintLast

theorem FnExactBucketNew : laws_FnExactBucketNew.Pure := by
  intro a0 a1 _ _
  simp [laws_FnExactBucketNew.f, spec_BucketNew.f, impl_BucketNew.f, laws_eqBucket.f]

end Go.Proofs.Ytdmcepodfkmlaaa.Pure
