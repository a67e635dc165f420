/- What the Go functions that the law FnBuckets reaches answer: each as a Lean function, with its walk. Written by a program of this session. Conditions: those that each theorem names. -/
import Derived.Test.YteiabkojcfjldaaProg
import Derived.Below
import Derived.Deep.Draws
import Derived.Deep.AppendLies
import Derived.Maps.AppendAt
import Derived.OwnWalk
import Derived.Laws.BytesArg
import Derived.Laws.MakeOwn
import Derived.Laws.OwnMore
import Derived.Deep.OwnRows
import Derived.Tactics
import Derived.Lib.ConvBytes
import Derived.Laws.Slices
import Derived.WalkKit
import Derived.KernelRfl
import Derived.RowKit3
import Derived.Deep.LoopGhost
import Derived.Deep.QuietTactic
import Derived.BigQuiet
import Derived.WideLaws
import Derived.Deep.DeepCutAuto
import Derived.Deep.CutBlock
import Derived.Deep.RegionHeld3
import Derived.Laws.Rows
import Derived.Lib.AppendStr
import Derived.ArgAppend
import Derived.Laws.IdiomCopy
import Derived.OrdersHeld
import Derived.Laws.BitsLemmas
import Derived.RowKit
import Derived.Test.YteiabkojcfjldaaWWords
import Derived.Test.YteiabkojcfjldaaWLast
import Derived.Test.YteiabkojcfjldaaWTab
import Derived.Test.YteiabkojcfjldaaWFour
import Derived.Test.YteiabkojcfjldaaWQPut
import Derived.Test.YteiabkojcfjldaaWApart
import Derived.Test.YteiabkojcfjldaaWArr
import Derived.Test.YteiabkojcfjldaaWZeros
import Derived.Test.YteiabkojcfjldaaWFoot
import Derived.Test.YteiabkojcfjldaaWKept
import Derived.Test.YteiabkojcfjldaaWShare
import Derived.Test.YteiabkojcfjldaaWN
import Derived.Test.YteiabkojcfjldaaWFootNe
import Derived.Test.YteiabkojcfjldaaWAt
import Derived.Test.YteiabkojcfjldaaWEqStruct
import Derived.Test.YteiabkojcfjldaaWRepsOne
import Derived.Test.YteiabkojcfjldaaWInv
import Derived.Test.YteiabkojcfjldaaWInvWords
import Derived.Test.YteiabkojcfjldaaWGuard
import Derived.Test.YteiabkojcfjldaaWNEv
import Derived.Test.YteiabkojcfjldaaWMore
namespace Go.Proofs.Yteiabkojcfjldaa.QFnBuckets
open Go.RowKit Go.Proofs.YteiabkojcfjldaaW.PrintWords Go.Proofs.YteiabkojcfjldaaW.PrintLast Go.Proofs.YteiabkojcfjldaaW.PrintMore
attribute [local go_sem] max2_int min2_int max_two min_two max_three min_three max_four min_four   -- for this text's walks alone
set_option linter.unusedVariables false
set_option linter.unusedSimpArgs false



def errW : Option Int → Value
  | none => .nilIface
  | some c => .iface 0 (.int .i64 c)
theorem errW_none : errW none = .nilIface := rfl
theorem errW_some (c : Int) : errW (some c) = .iface 0 (.int .i64 c) := rfl

theorem info3 : (Try.prog.info? 3).map (fun i => (i.zero, i.size, i.bytes)) = some (some (.int .i64 0), 1, 8) := by kernel_rfl
-- the values' own types

end Go.Proofs.Yteiabkojcfjldaa.QFnBuckets
