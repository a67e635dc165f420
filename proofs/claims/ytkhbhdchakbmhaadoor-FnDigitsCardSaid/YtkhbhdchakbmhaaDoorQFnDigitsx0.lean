/- What the Go functions that the law FnDigits reaches answer: each as a Lean function, with its walk. Written by a program of this session. Conditions: those that each theorem names. -/
import Derived.Test.YtkhbhdchakbmhaaDoorProg
import Derived.Test.YtkhbhdchakbmhaaDoorItoa
import Derived.Test.YtkhbhdchakbmhaaDoorAtoi
import Derived.Below
import Derived.Deep.Draws
import Derived.Deep.AppendLies
import Derived.Maps.AppendAt
import Derived.OwnWalk
import Derived.Laws.BytesArg
import Derived.Laws.MakeOwn
import Derived.Laws.OwnMore
import Derived.Deep.OwnRows
import Derived.Tactics
import Derived.Lib.ConvBytes
import Derived.Laws.Slices
import Derived.WalkKit
import Derived.KernelRfl
import Derived.RowKit3
import Derived.Deep.LoopGhost
import Derived.Deep.QuietTactic
import Derived.BigQuiet
import Derived.WideLaws
import Derived.Deep.DeepCutAuto
import Derived.Deep.CutBlock
import Derived.Deep.RegionHeld3
import Derived.Laws.Rows
import Derived.Lib.AppendStr
import Derived.ArgAppend
import Derived.Laws.IdiomCopy
import Derived.OrdersHeld
import Derived.Laws.BitsLemmas
import Derived.RowKit
import Derived.Test.YtkhbhdchakbmhaaDoorWWords
import Derived.Test.YtkhbhdchakbmhaaDoorWLast
import Derived.Test.YtkhbhdchakbmhaaDoorWTab
import Derived.Test.YtkhbhdchakbmhaaDoorWFour
import Derived.Test.YtkhbhdchakbmhaaDoorWQPut
import Derived.Test.YtkhbhdchakbmhaaDoorWApart
import Derived.Test.YtkhbhdchakbmhaaDoorWArr
import Derived.Test.YtkhbhdchakbmhaaDoorWZeros
import Derived.Test.YtkhbhdchakbmhaaDoorWFoot
import Derived.Test.YtkhbhdchakbmhaaDoorWKept
import Derived.Test.YtkhbhdchakbmhaaDoorWShare
import Derived.Test.YtkhbhdchakbmhaaDoorWN
import Derived.Test.YtkhbhdchakbmhaaDoorWFootNe
import Derived.Test.YtkhbhdchakbmhaaDoorWAt
import Derived.Test.YtkhbhdchakbmhaaDoorWEqStruct
import Derived.Test.YtkhbhdchakbmhaaDoorWRepsOne
import Derived.Test.YtkhbhdchakbmhaaDoorWInv
import Derived.Test.YtkhbhdchakbmhaaDoorWInvWords
import Derived.Test.YtkhbhdchakbmhaaDoorWGuard
import Derived.Test.YtkhbhdchakbmhaaDoorWNEv
import Derived.Test.YtkhbhdchakbmhaaDoorWMore
namespace Go.Proofs.YtkhbhdchakbmhaaDoor.QFnDigits
open Go.RowKit Go.Proofs.YtkhbhdchakbmhaaDoorW.PrintWords Go.Proofs.YtkhbhdchakbmhaaDoorW.PrintLast Go.Proofs.YtkhbhdchakbmhaaDoorW.PrintMore
attribute [local go_sem] max2_int min2_int max_two min_two max_three min_three max_four min_four   -- for this text's walks alone
set_option linter.unusedVariables false
set_option linter.unusedSimpArgs false



def errW : Option Int → Value
  | none => .nilIface
  | some c => .iface 0 (.int .i64 c)
theorem errW_none : errW none = .nilIface := rfl
theorem errW_some (c : Int) : errW (some c) = .iface 0 (.int .i64 c) := rfl

theorem info3 : (Tryd.prog.info? 3).map (fun i => (i.zero, i.size, i.bytes)) = some (some (.int .i64 0), 1, 8) := by kernel_rfl
theorem info5 : (Tryd.prog.info? 5).map (fun i => (i.zero, i.size, i.bytes)) = some (some (.int .u8 0), 1, 1) := by kernel_rfl
theorem info9 : (Tryd.prog.info? 9).map (fun i => (i.zero, i.size, i.bytes)) = some (some (.string ⟨#[]⟩), 1, 16) := by kernel_rfl
-- the values' own types

end Go.Proofs.YtkhbhdchakbmhaaDoor.QFnDigits
