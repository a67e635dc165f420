/-
  No cell of these rows narrows 'for every input' (looked for: loops, veiled, ifaces, maps, wideKeys, modest, calm, conditions, laid).
  DERIVED. THE GIVEN ROWS OF THIS SEAT. 12 by the template 'for every input the law returns true; each argument reads behind the call as it read before'; 0 by the template 'total and deterministic' (their statements: YtggenhomnbnodaaTotals.lean).
  GIVEN WITH THE SEED: the statements are not yours to turn. If you find one false, say at which input.
  Laid BY PROGRAM, IN A SANDBOX (cutbox-rows.mjs): the forced cells as the released guide's own fill.sh prints them over the translation 4a17690abee3bef3… (all of the seat's roots in one cut). By AI agents, Wed Nov 11 2026. No macro, syntax, notation, axiom, sorry.
-/
import Derived.Test.YtggenhomnbnodaaChecked
import GoSem.Claim
import GoSem.ClaimJoined
import GoSem.ClaimMapViews
import Derived.JoinedTies
import Derived.KernelRfl
namespace Go.Proofs.Ytggenhomnbnodaa
/- THE CELL 'sum', in the pinned program and in every row, IS THE sha256 OF THE DUMP (.gsa) THAT YtggenhomnbnodaaProg.lean LOADS. Nothing in Lean hashes anything: it is a label: what it is worth is what the hold of that sum in a sandbox is worth. -/
noncomputable def Try.pinned : Pinned := { name := "ytggenhomnbnodaa", sum := "4a17690abee3bef3555a3a5586d62a5f42af522a5be2226d81e2bd68fce9e788", checked := Try.checked }
namespace Rows
def none {H : Type} : Left H := { results := [], args := [] }

/-- 'laws.FnExactWheelNew': WHATEVER THE INPUT: true; the input reads as it did. -/
def fnExactWheelNewSpec : ChangeSpec := { name := "fnExactWheelNew", fn := fun _ => fun
  | [] => { results := [.lit (.bool true)], args := [] }
  | _ => none }
def fnExactWheelNewRow : OpenClaim := { program := "ytggenhomnbnodaa", sum := "4a17690abee3bef3555a3a5586d62a5f42af522a5be2226d81e2bd68fce9e788", func := "loop.example/g00488/laws.FnExactWheelNew", spec := "fnExactWheelNew", apart := false }
def FnExactWheelNewSaid : Prop := fnExactWheelNewRow.holds Try.pinned (OpenSpec.ofChange fnExactWheelNewSpec)

/-- ITS FALSE NEIGHBOUR: 'it returns false'. Refute it at one input. -/
def fnExactWheelNewWrong : ChangeSpec := { name := "fnExactWheelNew", fn := fun _ => fun
  | [] => { results := [.lit (.bool false)], args := [] }
  | _ => none }
def FnExactWheelNewWrongFalsely : Prop := fnExactWheelNewRow.holds Try.pinned (OpenSpec.ofChange fnExactWheelNewWrong)

/-- 'laws.FnExactNextDue': WHATEVER THE INPUT: true; the input reads as it did. -/
def fnExactNextDueSpec : ChangeSpec := { name := "fnExactNextDue", fn := fun _ => fun
  | [d] => { results := [.lit (.bool true)], args := [d] }
  | _ => none }
def fnExactNextDueRow : OpenClaim := { program := "ytggenhomnbnodaa", sum := "4a17690abee3bef3555a3a5586d62a5f42af522a5be2226d81e2bd68fce9e788", func := "loop.example/g00488/laws.FnExactNextDue", spec := "fnExactNextDue", apart := false }
def FnExactNextDueSaid : Prop := fnExactNextDueRow.holds Try.pinned (OpenSpec.ofChange fnExactNextDueSpec)

/-- ITS FALSE NEIGHBOUR: 'it returns false'. Refute it at one input. -/
def fnExactNextDueWrong : ChangeSpec := { name := "fnExactNextDue", fn := fun _ => fun
  | [d] => { results := [.lit (.bool false)], args := [d] }
  | _ => none }
def FnExactNextDueWrongFalsely : Prop := fnExactNextDueRow.holds Try.pinned (OpenSpec.ofChange fnExactNextDueWrong)

/-- 'laws.FnExactTimers': WHATEVER THE INPUT: true; the input reads as it did. -/
def fnExactTimersSpec : ChangeSpec := { name := "fnExactTimers", fn := fun _ => fun
  | [d] => { results := [.lit (.bool true)], args := [d] }
  | _ => none }
def fnExactTimersRow : OpenClaim := { program := "ytggenhomnbnodaa", sum := "4a17690abee3bef3555a3a5586d62a5f42af522a5be2226d81e2bd68fce9e788", func := "loop.example/g00488/laws.FnExactTimers", spec := "fnExactTimers", apart := false }
def FnExactTimersSaid : Prop := fnExactTimersRow.holds Try.pinned (OpenSpec.ofChange fnExactTimersSpec)

/-- ITS FALSE NEIGHBOUR: 'it returns false'. Refute it at one input. -/
def fnExactTimersWrong : ChangeSpec := { name := "fnExactTimers", fn := fun _ => fun
  | [d] => { results := [.lit (.bool false)], args := [d] }
  | _ => none }
def FnExactTimersWrongFalsely : Prop := fnExactTimersRow.holds Try.pinned (OpenSpec.ofChange fnExactTimersWrong)

/-- 'laws.FnExactWheelOk': WHATEVER THE INPUT: true; the input reads as it did. -/
def fnExactWheelOkSpec : ChangeSpec := { name := "fnExactWheelOk", fn := fun _ => fun
  | [d] => { results := [.lit (.bool true)], args := [d] }
  | _ => none }
def fnExactWheelOkRow : OpenClaim := { program := "ytggenhomnbnodaa", sum := "4a17690abee3bef3555a3a5586d62a5f42af522a5be2226d81e2bd68fce9e788", func := "loop.example/g00488/laws.FnExactWheelOk", spec := "fnExactWheelOk", unfollowed := true, recurses := true, apart := false }
def FnExactWheelOkSaid : Prop := fnExactWheelOkRow.holds Try.pinned (OpenSpec.ofChange fnExactWheelOkSpec)

/-- ITS FALSE NEIGHBOUR: 'it returns false'. Refute it at one input. -/
def fnExactWheelOkWrong : ChangeSpec := { name := "fnExactWheelOk", fn := fun _ => fun
  | [d] => { results := [.lit (.bool false)], args := [d] }
  | _ => none }
def FnExactWheelOkWrongFalsely : Prop := fnExactWheelOkRow.holds Try.pinned (OpenSpec.ofChange fnExactWheelOkWrong)

/-- 'laws.FnExactPut': WHATEVER THE INPUT: true; the input reads as it did. -/
def fnExactPutSpec : ChangeSpec := { name := "fnExactPut", fn := fun _ => fun
  | [d1, d2] => { results := [.lit (.bool true)], args := [d1, d2] }
  | _ => none }
def fnExactPutRow : OpenClaim := { program := "ytggenhomnbnodaa", sum := "4a17690abee3bef3555a3a5586d62a5f42af522a5be2226d81e2bd68fce9e788", func := "loop.example/g00488/laws.FnExactPut", spec := "fnExactPut", unfollowed := true, recurses := true, apart := false }
def FnExactPutSaid : Prop := fnExactPutRow.holds Try.pinned (OpenSpec.ofChange fnExactPutSpec)

/-- ITS FALSE NEIGHBOUR: 'it returns false'. Refute it at one input. -/
def fnExactPutWrong : ChangeSpec := { name := "fnExactPut", fn := fun _ => fun
  | [d1, d2] => { results := [.lit (.bool false)], args := [d1, d2] }
  | _ => none }
def FnExactPutWrongFalsely : Prop := fnExactPutRow.holds Try.pinned (OpenSpec.ofChange fnExactPutWrong)

/-- 'laws.FnExactCancel': WHATEVER THE INPUT: true; the input reads as it did. -/
def fnExactCancelSpec : ChangeSpec := { name := "fnExactCancel", fn := fun _ => fun
  | [d1, d2] => { results := [.lit (.bool true)], args := [d1, d2] }
  | _ => none }
def fnExactCancelRow : OpenClaim := { program := "ytggenhomnbnodaa", sum := "4a17690abee3bef3555a3a5586d62a5f42af522a5be2226d81e2bd68fce9e788", func := "loop.example/g00488/laws.FnExactCancel", spec := "fnExactCancel", unfollowed := true, recurses := true, apart := false }
def FnExactCancelSaid : Prop := fnExactCancelRow.holds Try.pinned (OpenSpec.ofChange fnExactCancelSpec)

/-- ITS FALSE NEIGHBOUR: 'it returns false'. Refute it at one input. -/
def fnExactCancelWrong : ChangeSpec := { name := "fnExactCancel", fn := fun _ => fun
  | [d1, d2] => { results := [.lit (.bool false)], args := [d1, d2] }
  | _ => none }
def FnExactCancelWrongFalsely : Prop := fnExactCancelRow.holds Try.pinned (OpenSpec.ofChange fnExactCancelWrong)

/-- 'laws.FnExactTickOn': WHATEVER THE INPUT: true; the input reads as it did. -/
def fnExactTickOnSpec : ChangeSpec := { name := "fnExactTickOn", fn := fun _ => fun
  | [d] => { results := [.lit (.bool true)], args := [d] }
  | _ => none }
def fnExactTickOnRow : OpenClaim := { program := "ytggenhomnbnodaa", sum := "4a17690abee3bef3555a3a5586d62a5f42af522a5be2226d81e2bd68fce9e788", func := "loop.example/g00488/laws.FnExactTickOn", spec := "fnExactTickOn", unfollowed := true, recurses := true, apart := false }
def FnExactTickOnSaid : Prop := fnExactTickOnRow.holds Try.pinned (OpenSpec.ofChange fnExactTickOnSpec)

/-- ITS FALSE NEIGHBOUR: 'it returns false'. Refute it at one input. -/
def fnExactTickOnWrong : ChangeSpec := { name := "fnExactTickOn", fn := fun _ => fun
  | [d] => { results := [.lit (.bool false)], args := [d] }
  | _ => none }
def FnExactTickOnWrongFalsely : Prop := fnExactTickOnRow.holds Try.pinned (OpenSpec.ofChange fnExactTickOnWrong)

/-- 'laws.FnExactAdvance': WHATEVER THE INPUT: true; the input reads as it did. -/
def fnExactAdvanceSpec : ChangeSpec := { name := "fnExactAdvance", fn := fun _ => fun
  | [d1, d2] => { results := [.lit (.bool true)], args := [d1, d2] }
  | _ => none }
def fnExactAdvanceRow : OpenClaim := { program := "ytggenhomnbnodaa", sum := "4a17690abee3bef3555a3a5586d62a5f42af522a5be2226d81e2bd68fce9e788", func := "loop.example/g00488/laws.FnExactAdvance", spec := "fnExactAdvance", unfollowed := true, recurses := true, apart := false }
def FnExactAdvanceSaid : Prop := fnExactAdvanceRow.holds Try.pinned (OpenSpec.ofChange fnExactAdvanceSpec)

/-- ITS FALSE NEIGHBOUR: 'it returns false'. Refute it at one input. -/
def fnExactAdvanceWrong : ChangeSpec := { name := "fnExactAdvance", fn := fun _ => fun
  | [d1, d2] => { results := [.lit (.bool false)], args := [d1, d2] }
  | _ => none }
def FnExactAdvanceWrongFalsely : Prop := fnExactAdvanceRow.holds Try.pinned (OpenSpec.ofChange fnExactAdvanceWrong)

/-- 'laws.FnExactDueBy': WHATEVER THE INPUT: true; the input reads as it did. -/
def fnExactDueBySpec : ChangeSpec := { name := "fnExactDueBy", fn := fun _ => fun
  | [d1, d2] => { results := [.lit (.bool true)], args := [d1, d2] }
  | _ => none }
def fnExactDueByRow : OpenClaim := { program := "ytggenhomnbnodaa", sum := "4a17690abee3bef3555a3a5586d62a5f42af522a5be2226d81e2bd68fce9e788", func := "loop.example/g00488/laws.FnExactDueBy", spec := "fnExactDueBy", recurses := true, apart := false }
def FnExactDueBySaid : Prop := fnExactDueByRow.holds Try.pinned (OpenSpec.ofChange fnExactDueBySpec)

/-- ITS FALSE NEIGHBOUR: 'it returns false'. Refute it at one input. -/
def fnExactDueByWrong : ChangeSpec := { name := "fnExactDueBy", fn := fun _ => fun
  | [d1, d2] => { results := [.lit (.bool false)], args := [d1, d2] }
  | _ => none }
def FnExactDueByWrongFalsely : Prop := fnExactDueByRow.holds Try.pinned (OpenSpec.ofChange fnExactDueByWrong)

/-- 'laws.FnWheels': WHATEVER THE INPUT: true; the input reads as it did. -/
def fnWheelsSpec : ChangeSpec := { name := "fnWheels", fn := fun _ => fun
  | [d] => { results := [.lit (.bool true)], args := [d] }
  | _ => none }
def fnWheelsRow : OpenClaim := { program := "ytggenhomnbnodaa", sum := "4a17690abee3bef3555a3a5586d62a5f42af522a5be2226d81e2bd68fce9e788", func := "loop.example/g00488/laws.FnWheels", spec := "fnWheels", unfollowed := true, recurses := true, apart := false }
def FnWheelsSaid : Prop := fnWheelsRow.holds Try.pinned (OpenSpec.ofChange fnWheelsSpec)

/-- ITS FALSE NEIGHBOUR: 'it returns false'. Refute it at one input. -/
def fnWheelsWrong : ChangeSpec := { name := "fnWheels", fn := fun _ => fun
  | [d] => { results := [.lit (.bool false)], args := [d] }
  | _ => none }
def FnWheelsWrongFalsely : Prop := fnWheelsRow.holds Try.pinned (OpenSpec.ofChange fnWheelsWrong)

/-- 'laws.FnTimes': WHATEVER THE INPUT: true; the input reads as it did. -/
def fnTimesSpec : ChangeSpec := { name := "fnTimes", fn := fun _ => fun
  | [d] => { results := [.lit (.bool true)], args := [d] }
  | _ => none }
def fnTimesRow : OpenClaim := { program := "ytggenhomnbnodaa", sum := "4a17690abee3bef3555a3a5586d62a5f42af522a5be2226d81e2bd68fce9e788", func := "loop.example/g00488/laws.FnTimes", spec := "fnTimes", unfollowed := true, recurses := true, apart := false }
def FnTimesSaid : Prop := fnTimesRow.holds Try.pinned (OpenSpec.ofChange fnTimesSpec)

/-- ITS FALSE NEIGHBOUR: 'it returns false'. Refute it at one input. -/
def fnTimesWrong : ChangeSpec := { name := "fnTimes", fn := fun _ => fun
  | [d] => { results := [.lit (.bool false)], args := [d] }
  | _ => none }
def FnTimesWrongFalsely : Prop := fnTimesRow.holds Try.pinned (OpenSpec.ofChange fnTimesWrong)

/-- 'laws.FnTicks': WHATEVER THE INPUT: true; the input reads as it did. -/
def fnTicksSpec : ChangeSpec := { name := "fnTicks", fn := fun _ => fun
  | [d] => { results := [.lit (.bool true)], args := [d] }
  | _ => none }
def fnTicksRow : OpenClaim := { program := "ytggenhomnbnodaa", sum := "4a17690abee3bef3555a3a5586d62a5f42af522a5be2226d81e2bd68fce9e788", func := "loop.example/g00488/laws.FnTicks", spec := "fnTicks", unfollowed := true, recurses := true, apart := false }
def FnTicksSaid : Prop := fnTicksRow.holds Try.pinned (OpenSpec.ofChange fnTicksSpec)

/-- ITS FALSE NEIGHBOUR: 'it returns false'. Refute it at one input. -/
def fnTicksWrong : ChangeSpec := { name := "fnTicks", fn := fun _ => fun
  | [d] => { results := [.lit (.bool false)], args := [d] }
  | _ => none }
def FnTicksWrongFalsely : Prop := fnTicksRow.holds Try.pinned (OpenSpec.ofChange fnTicksWrong)

/- THE SECOND FORM. 'bulk': how many values and letters a reading holds, each counted each time it is reached (what is shared counts as often as it is met; a slice's spare places count too). A statement '..UptoSaid' is the law's where the arguments, and the package variables that the reading takes, are together of bulk at most 1048576: NARROWER than '..Said'. Prove '..Said' where nothing that the law and all that it calls make is longer than what came in: it says more and counts as full. Else prove '..UptoSaid'. A law counts once. -/
mutual
def uptoBulk {H : Type} : DataW H → Nat
  | .lit (.string bytes) => bytes.length + 1
  | .lit _ => 1
  | .nil => 1
  | .ptr d => uptoBulk d + 1
  | .slice elems spare => uptoBulkAll elems + uptoBulkAll spare + 1
  | .agg parts => uptoBulkAll parts + 1
  | .iface _ d => uptoBulk d + 1
  | .map entries => uptoBulkEntries entries + 1
  | .held _ => 1
def uptoBulkAll {H : Type} : List (DataW H) → Nat
  | [] => 0
  | d :: r => uptoBulk d + uptoBulkAll r
def uptoBulkEntries {H : Type} : List (Lit × DataW H) → Nat
  | [] => 0
  | x :: r => uptoBulkEntry x + uptoBulkEntries r
def uptoBulkEntry {H : Type} : Lit × DataW H → Nat
  | (.string bytes, d) => bytes.length + uptoBulk d + 1
  | (_, d) => uptoBulk d + 1
 end
def uptoSmall : (H : Type) → List (DataW H) → Bool := fun _ ds => decide (uptoBulkAll ds ≤ 1048576)
def OpenSpec.upto (s : _root_.Go.ChangeSpec) : _root_.Go.OpenSpec := { _root_.Go.OpenSpec.ofChange s with cond := some uptoSmall }

/-- 'laws.FnExactWheelNew', WHERE WHAT IT READS IS OF BULK AT MOST 1048576: true; the input reads as it did. -/
def fnExactWheelNewUptoRow : OpenClaim := { program := "ytggenhomnbnodaa", sum := "4a17690abee3bef3555a3a5586d62a5f42af522a5be2226d81e2bd68fce9e788", func := "loop.example/g00488/laws.FnExactWheelNew", spec := "fnExactWheelNew", apart := false, narrowed := true }
def FnExactWheelNewUptoSaid : Prop := fnExactWheelNewUptoRow.holds Try.pinned (OpenSpec.upto fnExactWheelNewSpec)

/-- 'laws.FnExactNextDue', WHERE WHAT IT READS IS OF BULK AT MOST 1048576: true; the input reads as it did. -/
def fnExactNextDueUptoRow : OpenClaim := { program := "ytggenhomnbnodaa", sum := "4a17690abee3bef3555a3a5586d62a5f42af522a5be2226d81e2bd68fce9e788", func := "loop.example/g00488/laws.FnExactNextDue", spec := "fnExactNextDue", apart := false, narrowed := true }
def FnExactNextDueUptoSaid : Prop := fnExactNextDueUptoRow.holds Try.pinned (OpenSpec.upto fnExactNextDueSpec)

/-- 'laws.FnExactTimers', WHERE WHAT IT READS IS OF BULK AT MOST 1048576: true; the input reads as it did. -/
def fnExactTimersUptoRow : OpenClaim := { program := "ytggenhomnbnodaa", sum := "4a17690abee3bef3555a3a5586d62a5f42af522a5be2226d81e2bd68fce9e788", func := "loop.example/g00488/laws.FnExactTimers", spec := "fnExactTimers", apart := false, narrowed := true }
def FnExactTimersUptoSaid : Prop := fnExactTimersUptoRow.holds Try.pinned (OpenSpec.upto fnExactTimersSpec)

/-- 'laws.FnExactWheelOk', WHERE WHAT IT READS IS OF BULK AT MOST 1048576: true; the input reads as it did. -/
def fnExactWheelOkUptoRow : OpenClaim := { program := "ytggenhomnbnodaa", sum := "4a17690abee3bef3555a3a5586d62a5f42af522a5be2226d81e2bd68fce9e788", func := "loop.example/g00488/laws.FnExactWheelOk", spec := "fnExactWheelOk", unfollowed := true, recurses := true, apart := false, narrowed := true }
def FnExactWheelOkUptoSaid : Prop := fnExactWheelOkUptoRow.holds Try.pinned (OpenSpec.upto fnExactWheelOkSpec)

/-- 'laws.FnExactPut', WHERE WHAT IT READS IS OF BULK AT MOST 1048576: true; the input reads as it did. -/
def fnExactPutUptoRow : OpenClaim := { program := "ytggenhomnbnodaa", sum := "4a17690abee3bef3555a3a5586d62a5f42af522a5be2226d81e2bd68fce9e788", func := "loop.example/g00488/laws.FnExactPut", spec := "fnExactPut", unfollowed := true, recurses := true, apart := false, narrowed := true }
def FnExactPutUptoSaid : Prop := fnExactPutUptoRow.holds Try.pinned (OpenSpec.upto fnExactPutSpec)

/-- 'laws.FnExactCancel', WHERE WHAT IT READS IS OF BULK AT MOST 1048576: true; the input reads as it did. -/
def fnExactCancelUptoRow : OpenClaim := { program := "ytggenhomnbnodaa", sum := "4a17690abee3bef3555a3a5586d62a5f42af522a5be2226d81e2bd68fce9e788", func := "loop.example/g00488/laws.FnExactCancel", spec := "fnExactCancel", unfollowed := true, recurses := true, apart := false, narrowed := true }
def FnExactCancelUptoSaid : Prop := fnExactCancelUptoRow.holds Try.pinned (OpenSpec.upto fnExactCancelSpec)

/-- 'laws.FnExactTickOn', WHERE WHAT IT READS IS OF BULK AT MOST 1048576: true; the input reads as it did. -/
def fnExactTickOnUptoRow : OpenClaim := { program := "ytggenhomnbnodaa", sum := "4a17690abee3bef3555a3a5586d62a5f42af522a5be2226d81e2bd68fce9e788", func := "loop.example/g00488/laws.FnExactTickOn", spec := "fnExactTickOn", unfollowed := true, recurses := true, apart := false, narrowed := true }
def FnExactTickOnUptoSaid : Prop := fnExactTickOnUptoRow.holds Try.pinned (OpenSpec.upto fnExactTickOnSpec)

/-- 'laws.FnExactAdvance', WHERE WHAT IT READS IS OF BULK AT MOST 1048576: true; the input reads as it did. -/
def fnExactAdvanceUptoRow : OpenClaim := { program := "ytggenhomnbnodaa", sum := "4a17690abee3bef3555a3a5586d62a5f42af522a5be2226d81e2bd68fce9e788", func := "loop.example/g00488/laws.FnExactAdvance", spec := "fnExactAdvance", unfollowed := true, recurses := true, apart := false, narrowed := true }
def FnExactAdvanceUptoSaid : Prop := fnExactAdvanceUptoRow.holds Try.pinned (OpenSpec.upto fnExactAdvanceSpec)

/-- 'laws.FnExactDueBy', WHERE WHAT IT READS IS OF BULK AT MOST 1048576: true; the input reads as it did. -/
def fnExactDueByUptoRow : OpenClaim := { program := "ytggenhomnbnodaa", sum := "4a17690abee3bef3555a3a5586d62a5f42af522a5be2226d81e2bd68fce9e788", func := "loop.example/g00488/laws.FnExactDueBy", spec := "fnExactDueBy", recurses := true, apart := false, narrowed := true }
def FnExactDueByUptoSaid : Prop := fnExactDueByUptoRow.holds Try.pinned (OpenSpec.upto fnExactDueBySpec)

/-- 'laws.FnWheels', WHERE WHAT IT READS IS OF BULK AT MOST 1048576: true; the input reads as it did. -/
def fnWheelsUptoRow : OpenClaim := { program := "ytggenhomnbnodaa", sum := "4a17690abee3bef3555a3a5586d62a5f42af522a5be2226d81e2bd68fce9e788", func := "loop.example/g00488/laws.FnWheels", spec := "fnWheels", unfollowed := true, recurses := true, apart := false, narrowed := true }
def FnWheelsUptoSaid : Prop := fnWheelsUptoRow.holds Try.pinned (OpenSpec.upto fnWheelsSpec)

/-- 'laws.FnTimes', WHERE WHAT IT READS IS OF BULK AT MOST 1048576: true; the input reads as it did. -/
def fnTimesUptoRow : OpenClaim := { program := "ytggenhomnbnodaa", sum := "4a17690abee3bef3555a3a5586d62a5f42af522a5be2226d81e2bd68fce9e788", func := "loop.example/g00488/laws.FnTimes", spec := "fnTimes", unfollowed := true, recurses := true, apart := false, narrowed := true }
def FnTimesUptoSaid : Prop := fnTimesUptoRow.holds Try.pinned (OpenSpec.upto fnTimesSpec)

/-- 'laws.FnTicks', WHERE WHAT IT READS IS OF BULK AT MOST 1048576: true; the input reads as it did. -/
def fnTicksUptoRow : OpenClaim := { program := "ytggenhomnbnodaa", sum := "4a17690abee3bef3555a3a5586d62a5f42af522a5be2226d81e2bd68fce9e788", func := "loop.example/g00488/laws.FnTicks", spec := "fnTicks", unfollowed := true, recurses := true, apart := false, narrowed := true }
def FnTicksUptoSaid : Prop := fnTicksUptoRow.holds Try.pinned (OpenSpec.upto fnTicksSpec)

end Rows
end Go.Proofs.Ytggenhomnbnodaa
