/- What the Go functions that the law FnBuckets reaches answer: each as a Lean function, with its walk. Written by a program of this session. Conditions: those that each theorem names. -/
import Derived.Test.YteiabkojcfjldaaQFnBucketsx0
import Derived.Test.YteiabkojcfjldaaQFnBucketsx1
import Derived.Test.YteiabkojcfjldaaQFnBucketsx2
import Derived.Test.YteiabkojcfjldaaQFnBucketsx3
import Derived.Test.YteiabkojcfjldaaQFnBucketsx4
import Derived.Test.YteiabkojcfjldaaQFnBucketsx5
import Derived.Test.YteiabkojcfjldaaQFnBucketsx6
namespace Go.Proofs.Yteiabkojcfjldaa.QFnBuckets
open Go.RowKit Go.Proofs.YteiabkojcfjldaaW.PrintWords Go.Proofs.YteiabkojcfjldaaW.PrintLast Go.Proofs.YteiabkojcfjldaaW.PrintMore
attribute [local go_sem] max2_int min2_int max_two min_two max_three min_three max_four min_four   -- for this text's walks alone
set_option linter.unusedVariables false
set_option linter.unusedSimpArgs false

end Go.Proofs.Yteiabkojcfjldaa.QFnBuckets
